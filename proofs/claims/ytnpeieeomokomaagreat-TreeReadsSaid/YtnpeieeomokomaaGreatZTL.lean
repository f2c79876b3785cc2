/- TL. No condition. -/
import Derived.Test.YtnpeieeomokomaaGreatZTK
import Derived.Test.YtnpeieeomokomaaGreatZTF
namespace Go.Proofs.YtnpeieeomokomaaGreat
open Go.Sim
theorem fa_rr0 {p o:Nat} {h:H} {k:V→H→Prop}:wpFA ctx 114 0 h (.ptr p o) k=k (.ptr p (o+0)) h:=by kernel_rfl
theorem fa_rr1 {p o:Nat} {h:H} {k:V→H→Prop}:wpFA ctx 114 1 h (.ptr p o) k=k (.ptr p (o+2)) h:=by kernel_rfl
set_option maxRecDepth 100000 in
set_option maxHeartbeats 1000000 in
theorem rValue_ok {s:List UInt8} {r p left:Nat} {h:H} {Q:V→H→Prop} (hg:h.get r=some (oRr s p 0)) (hr:r<h.next) (hnx:h.next+4≤T.top) (hs:s.length≤1048576) (hp:p≤8*s.length) (hl:0<left) (hl2:left≤1048576)
  (hq1:∀ v q,rdOne s left p=some (v,q)→∀ h',ExtX (· = r) h h' 3→h'.get r=some (oRr s q 0)→Q (.int .i64 (v:Nat)) h')
  (hq2:rdOne s left p=none→∀ x h' p',ExtX (· = r) h h' 3→h'.get r=some (oRr s p' 23)→Q (.int .i64 x) h'):RF P ctx 147 [.ptr r 0,.int .i64 left] h Q:=by
 have hsb:=sh_facts left
 have hB:shB left≤21:=nbits_bound (by omega)
 have hB0:=shB_pos left
 have hT:=shT_le hl
 have pw:2^(shB left-1)≤2^20:=Nat.pow_le_pow_right (by decide) (by omega)
 have w:=Vw.one (S:=(· = r)) hg hr rfl
 have el:w64 ((left:Int)+1)=((left+1:Nat):Int):=by rw [w64_id (by omega) (by omega)]; rfl
 have eb:w64 (((shB left:Nat):Int)-1)=((shB left-1:Nat):Int):=by rw [w64_id (by omega) (by omega)]; omega
 have et:w64 (w64 (((1*2^shB left:Nat):Int)-1)-((left+1:Nat):Int))=((shT left:Nat):Int):=by
  rw [w64_id (n:=((1*2^shB left:Nat):Int)-1) (by omega) (by omega),w64_id (by omega) (by omega)]
  unfold shT; omega
 refine RF.enterS ctx_ok fn147 (ble _ _ rfl) (ble _ _ rfl) vb147 ?_
 rw [el]
 refine rBitsN_ok (by omega) ⟨_,rfl,((1*2^shB left:Nat):Int),?_,.ptr r 0,h,rfl,?_⟩
 ·show intB .shl .i64 1 (wrapF .u64 ((shB left:Nat):Int))=_
  rw [wrapN_u64 (by omega)]; exact shlN_i64 (a:=1) (by omega) (by omega)
 rw [fa_rr0]
 refine ⟨s,p,w.ldA 0 rfl ty112 rfl rfl,by omega,?_⟩
 rintro p10 h11 rfl e11
 have w11:=w.new e11 (by omega)
 have t11:=w11.top
 obtain ⟨h12,e12,w12,n12,_⟩:=w11.st (cx:=ctx) 0 (f:=0) (u:=.agg [.str s,.int .i64 p]) rfl (by omega) ty112 rfl (Nat.zero_le _) rfl rfl
 refine ⟨h12,e12,?_⟩
 show RF P ctx 83 [.ptr r 0,.int .i64 (w64 (((shB left:Nat):Int)-1))] h12 _
 rw [eb]
 refine rTake_ok (n:=shB left-1) (w12.get 1 rfl) (w12.lt 1 rfl) (by omega) hs hp (by omega) (fun c2 h14 x14 g14=>?_) (fun c2 h14 x14 g14=>?_)
 rotate_left
 ·have w14:=w12.extX 1 rfl x14 g14
  refine ⟨0,rfl,.ptr r 0,h14,rfl,?_⟩
  rw [fa_rr1]
  refine ⟨23,w14.ld1 1 rfl ty24 rfl rfl,fun _=>hq2 ?_ 0 h14 p ((w14.drop 1).more (by omega)).ex (w14.get 1 rfl),fun q=>absurd (show (23:Int)≠0 by decide) q⟩
  unfold rdOne
  rw [if_pos (by omega)]
 have w14:=w12.extX 1 rfl x14 g14
 have t14:=w14.top
 have fl:=fnum_lt s p (shB left-1)
 refine ⟨_,rfl,.ptr r 0,h14,rfl,?_⟩
 rw [fa_rr1,et]
 refine ⟨0,w14.ld1 1 rfl ty24 rfl rfl,fun q=>absurd rfl q,fun _=>?_⟩
 refine ⟨fun c3=>?_,fun c3=>Has.nil.on fun tm hs0=>?_⟩
 ·refine hq1 _ (p+(shB left-1)) ?_ h14 (w14.more (by omega)).ex (w14.get 1 rfl)
  unfold rdOne
  rw [if_neg (by omega),if_pos (by omega)]
 refine wpS.at hs0 vr147_0 rfl rfl ⟨s,p,w14.ldA 0 rfl ty112 rfl rfl,.ptr r 0,h14,rfl,?_⟩
 rw [fa_rr0]
 obtain ⟨h6,e6,w6,n6,_⟩:=w14.st (cx:=ctx) 1 (f:=0) (u:=.agg [.str s,.int .i64 p]) rfl (by omega) ty112 rfl (Nat.zero_le _) rfl rfl
 refine ⟨h6,e6,?_⟩
 show RF P ctx 83 [.ptr r 0,.int .i64 ((shB left:Nat):Int)] h6 _
 have e1s:wrapF .u64 (w64 (((shB left:Nat):Int)-1))=((shB left-1:Nat):Int):=by rw [eb,wrapN_u64 (by omega)]
 refine rTake_ok (n:=shB left) (w6.get 1 rfl) (w6.lt 1 rfl) (by omega) hs hp (by omega) (fun c4 h8 x8 g8=>?_) (fun c4 h8 x8 g8=>?_)
 ·have w8:=w6.extX 1 rfl x8 g8
  have fu:=fnum_lt s p (shB left)
  have hfull:rdOne s left p=some (if 2^(shB left-1)≤fnum s p (shB left) then fnum s p (shB left)-shT left else fnum s p (shB left),p+shB left):=by
   unfold rdOne
   rw [if_neg (by omega),if_neg (by omega),if_neg (by omega)]
  refine ⟨_,rfl,((1*2^(shB left-1):Nat):Int),?_,fun c5=>hs0.on fun tm1 hs1=>endW.r1 (hs1.get rfl) ?_,fun c5=>hs0.on fun tm1 hs1=>endW.r1 (hs1.get rfl) ?_⟩
  ·show intB .shl .i64 1 (wrapF .u64 (w64 (((shB left:Nat):Int)-1)))=_
   rw [e1s]; exact shlN_i64 (a:=1) (by omega) (by omega)
  ·rw [if_pos (by omega)] at hfull
   have e2:w64 (((fnum s p (shB left):Nat):Int)-((shT left:Nat):Int))=((fnum s p (shB left)-shT left:Nat):Int):=by
    have:shT left≤fnum s p (shB left):=by unfold shT at *; omega
    rw [w64_id (by omega) (by omega)]; omega
   rw [e2]
   exact hq1 _ _ hfull h8 (w8.more (by omega)).ex (w8.get 1 rfl)
  ·rw [if_neg (by omega)] at hfull
   exact hq1 _ _ hfull h8 (w8.more (by omega)).ex (w8.get 1 rfl)
 ·have w8:=w6.extX 1 rfl x8 g8
  have hnone:rdOne s left p=none:=by
   unfold rdOne
   rw [if_neg (by omega),if_neg (by omega),if_pos (by omega)]
  have hpp:0<2^(shB left-1):=Nat.pow_pos (by decide)
  refine ⟨0,rfl,((1*2^(shB left-1):Nat):Int),?_,fun c5=>absurd c5 (by omega),fun c5=>hs0.on fun tm1 hs1=>endW.r1 (hs1.get rfl) ?_⟩
  ·show intB .shl .i64 1 (wrapF .u64 (w64 (((shB left:Nat):Int)-1)))=_
   rw [e1s]; exact shlN_i64 (a:=1) (by omega) (by omega)
  ·exact hq2 hnone 0 h8 p (w8.more (by omega)).ex (w8.get 1 rfl)
end Go.Proofs.YtnpeieeomokomaaGreat
namespace Go.Proofs.YtnpeieeomokomaaGreat
open Go.Sim
structure RpI (hb h:H) (c r:Nat) (s:List UInt8) (p:Nat) (e:Int) (v:V) (l:List Int):Prop where
 vw:Vw (· = r) hb h c [(r,oRr s p e)]
 ow:Ow h v tint l.length (ints l)
 sp:Sep (· = r) hb.next [(r,oRr s p e)] v
theorem RpI.step {hb h h':H} {c m r p q:Nat} {s:List UInt8} {e e':Int} {v:V} {l:List Int} (i:RpI hb h c r s p e v l) (x:ExtX (· = r) h h' m) (g:h'.get r=some (oRr s q e')):RpI hb h' (c+m) r s q e' v l :=
 ⟨i.vw.extX 0 rfl x g,i.ow.keep x.le fun b hb=>x.get _ (i.ow.blk hb) fun q=>(i.sp b hb).2 _ (List.mem_cons_self ..) q.symm,i.sp.head⟩
theorem RpI.grow {hb h h':H} {c m r p:Nat} {s:List UInt8} {e:Int} {v v':V} {l l':List Int} (i:RpI hb h c r s p e v l) (o:Ow h' v' tint l'.length (ints l')) (x:ExtX (fun b=>vblk v=some b) h h' m) (hb':∀ b,vblk v'=some b→vblk v=some b∨h.next≤b):RpI hb h' (c+m) r s p e v' l':=by
 refine ⟨i.vw.apart x (fun b g=>(i.sp b g).1) (fun q hq g=>(i.sp _ g).2 q hq rfl),o,fun b g=>?_⟩
 rcases hb' b g with q | q
 ·exact i.sp b q
 ·refine ⟨.inr (Nat.le_trans i.vw.le q),fun z hz=>?_⟩
  have:=i.vw.bk.lt z hz
  omega
set_option maxRecDepth 100000 in
set_option maxHeartbeats 2000000 in
theorem rZeros_ok {hb h:H} {c c0 r symbols:Nat} {s:List UInt8} {p f:Nat} {v:V} {l0:List Int} {b9:Bool} {left:Int} {tm:Tm} {Z0:Option (Nat×Nat)} {R:AX→St→Prop} (hs:s.length≤1048576) (hsy:symbols≤256) (I:RpI hb h c r s p 0 v l0) (hp:p≤8*s.length) (hl:l0.length≤symbols)
  (hn:hb.next+8*symbols+c0+10≤T.top) (hc:c+2≤8*l0.length+c0) (hZ:b9=true∧rdZeros s symbols f p l0.length=Z0∧symbols<f+l0.length∨b9=false∧Z0=some (l0.length,p))
  (ht:Has tm [(9,.bool b9),(0,.ptr r 0),(7,v),(2,.int .i64 symbols),(1,.int .i64 left)])
  (hret:Z0=none→∀ tm' h' v' l' p',RpI hb h' (8*symbols+c0+10) r s p' 23 v' l'→Has tm' [(6,.nilslice)]→R .ret ⟨77,tm',[],h'⟩)
  (hexit:∀ tm' h' v' j p' c',Z0=some (l0.length+j,p')→c'≤8*(l0.length+j)+c0→l0.length+j≤symbols→p'≤8*s.length→RpI hb h' c' r s p' 0 v' (l0++List.replicate j 0)→Has tm' [(0,.ptr r 0),(7,v'),(2,.int .i64 symbols),(1,.int .i64 left)]→R (.exit 2) ⟨77,tm',[],h'⟩) :
  wpC P ctx false (.loop l84_2) ⟨77,tm,[],h⟩ R:=by
 refine wpC.round (fun k tm h=>∃ (c p:Nat) (v:V) (j:Nat) (b9:Bool),RpI hb h c r s p 0 v (l0++List.replicate j 0)∧p≤8*s.length∧l0.length+j≤symbols ∧
  (b9=true∧0<k∧rdZeros s symbols (k-1) p (l0.length+j)=Z0∧symbols<(k-1)+(l0.length+j)∧c+2≤8*(l0.length+j)+c0∨b9=false∧Z0=some (l0.length+j,p)∧c≤8*(l0.length+j)+c0) ∧
  Has tm [(9,.bool b9),(0,.ptr r 0),(7,v),(2,.int .i64 symbols),(1,.int .i64 left)]) (f+1)
  ⟨c,p,v,0,b9,by simpa using I,hp,hl,by
   rcases hZ with ⟨h1,h2,h3⟩ | ⟨h1,h2⟩
   ·exact .inl ⟨h1,by omega,h2,by simpa using h3,hc⟩
   ·exact .inr ⟨h1,h2,by simp; omega⟩,ht⟩ ?_
 clear I hZ ht hp hl hc
 rintro k tm h ⟨c,p,v,j,b9,I,hp,hl,hZ,ht⟩
 have hlen:(l0++List.replicate j 0).length=l0.length+j:=by simp
 rcases hZ with ⟨rfl,hk,hZ,hf,hc⟩ | ⟨rfl,hZ,hc⟩
 rotate_left
 ·exact wpC.at ht vl84_2 rfl rfl (ht.on fun tm' hs'=>hexit tm' h v j p c hZ hc hl hp I (hs'.sub (by kernel_rfl)))
 obtain ⟨g,rfl⟩:∃ g,k=g+1+1:=by
  cases k with
  | zero=>omega
  | succ k =>
   cases k with
   | zero=>omega
   | succ k=>exact ⟨k,rfl⟩
 rw [show g+1+1-1=g+1 by omega] at hZ hf
 unfold rdZeros at hZ
 have tI:=I.vw.top
 refine wpC.at ht vl84_2 rfl rfl ?_
 refine rTake_ok (n:=2) (I.vw.get 0 rfl) (I.vw.lt 0 rfl) (by omega) hs hp (by decide) (fun c2 h1 x1 g1=>?_) (fun c2 h1 x1 g1=>?_)
 rotate_left
 ·-- bits are missing
  rw [if_pos (by omega)] at hZ
  have I1:=I.step x1 g1
  refine ⟨0,rfl,.ptr r 0,h1,rfl,?_⟩
  rw [fa_rr1]
  refine ⟨23,I1.vw.ld1 0 rfl ty24 rfl rfl,fun q=>absurd q (by decide),fun _=>ht.on fun tm1 hs1=>?_⟩
  refine wpS.at hs1 vr84_0 rfl rfl (hs1.on fun tm2 hs2=>thenC.nx (hs2.sealK fun tm3 hs3=>?_))
  refine wpS.at hs3 vr84_1 rfl rfl ⟨.ptr r 0,h1,rfl,?_⟩
  rw [fa_rr1]
  refine ⟨23,I1.vw.ld1 0 rfl ty24 rfl rfl,fun _=>hs3.on fun tm4 hs4=>?_,fun q=>absurd (show (23:Int)≠0 by decide) q⟩
  show sealQ L84 _ .ret _
  exact hs4.slt fun tm5 hs5=>hret hZ.symm tm5 h1 v _ p ⟨I1.vw.more (by omega),I1.ow,I1.sp⟩ (hs5.sub (by kernel_rfl))
 rw [if_neg (by omega)] at hZ
 have I1:=I.step x1 g1
 have t1:=I1.vw.top
 have fl:=fnum_lt s p 2
 refine ⟨_,rfl,.ptr r 0,h1,rfl,?_⟩
 rw [fa_rr1]
 refine ⟨0,I1.vw.ld1 0 rfl ty24 rfl rfl,fun _=>⟨_,I1.ow.sl.len ty23 rfl,?_⟩,fun q=>absurd rfl q⟩
 have elen:w64 ((((l0++List.replicate j (0:Int)).length:Nat):Int)+((fnum s p 2:Nat):Int))=((l0.length+j+fnum s p 2:Nat):Int):=by rw [hlen,w64_id (by omega) (by omega)]; rfl
 rw [elen]
 refine ⟨fun c3=>ht.on fun tm1 hs1=>?_,fun c3=>ht.on fun tm1 hs1=>?_⟩
 ·-- too many
  rw [if_pos (by omega)] at hZ
  obtain ⟨h4,e4,w4,n4,k4⟩:=I1.vw.st (cx:=ctx) 0 (f:=0+2) (u:=.int .i64 23) rfl (by omega) ty24 rfl (Nat.zero_le _) rfl rfl
  have ow4:=I1.ow.keep (h':=h4) (by omega) fun b hb=>k4 b fun q=>(I1.sp b hb).2 _ (List.mem_cons_self ..) q.symm
  refine wpS.at hs1 vr84_0 rfl rfl ⟨.ptr r 0,h1,rfl,?_⟩
  rw [fa_rr1]
  refine ⟨h4,e4,hs1.on fun tm2 hs2=>thenC.nx (hs2.sealK fun tm3 hs3=>?_)⟩
  refine wpS.at hs3 vr84_1 rfl rfl ⟨.ptr r 0,h4,rfl,?_⟩
  rw [fa_rr1]
  refine ⟨23,w4.ld1 0 rfl ty24 rfl rfl,fun _=>hs3.on fun tm4 hs4=>?_,fun q=>absurd (show (23:Int)≠0 by decide) q⟩
  show sealQ L84 _ .ret _
  exact hs4.slt fun tm5 hs5=>hret hZ.symm tm5 h4 v _ (p+2) ⟨w4.more (by omega),ow4,I1.sp.head⟩ (hs5.sub (by kernel_rfl))
 rw [if_neg (by omega)] at hZ
 refine wpS.at hs1 vr84_0 rfl rfl (hs1.on fun tm2 hs2=>thenC.nx (hs2.sealK fun tm3 hs3=>?_))
 refine wpS.at hs3 vr84_1 rfl rfl ⟨.ptr r 0,h1,rfl,?_⟩
 rw [fa_rr1]
 refine ⟨0,I1.vw.ld1 0 rfl ty24 rfl rfl,fun q=>absurd rfl q,fun _=>?_⟩
 refine rTimes_ok I1.ow (by omega) (by omega) (by omega) fun v' h' ow' x' hb'=>⟨_,rfl,?_⟩
 have el2:(l0++List.replicate j 0)++List.replicate (fnum s p 2) 0=l0++List.replicate (j+fnum s p 2) 0:=by rw [List.append_assoc,List.replicate_append_replicate]
 rw [el2] at ow'
 have hlen2:(l0++List.replicate (j+fnum s p 2) 0).length=(l0++List.replicate j 0).length+fnum s p 2:=by simp; omega
 have I2:=I1.grow (v':=v') (l':=l0++List.replicate (j+fnum s p 2) 0) (by rw [hlen2]; exact ow') x' hb'
 refine ⟨fun c4=>hs3.on fun tm4 hs4=>?_,fun c4=>hs3.on fun tm4 hs4=>?_⟩
 ·have c5:fnum s p 2=3:=by omega
  rw [if_pos c5] at hZ
  show sealQ L84 _ .normal _
  refine hs4.slt fun tm5 hs5=>⟨rfl,rfl,g+1,by omega,_,p+2,v',j+fnum s p 2,true,I2,by omega,by omega,.inl ⟨rfl,by omega,?_,by omega,by omega⟩,hs5.sub (by kernel_rfl)⟩
  rw [show g+1-1=g by omega,← hZ,c5]
  congr 1
 ·have c5:fnum s p 2≠3:=by omega
  rw [if_neg c5] at hZ
  show sealQ L84 _ .normal _
  refine hs4.slt fun tm5 hs5=>⟨rfl,rfl,0,by omega,_,p+2,v',j+fnum s p 2,false,I2,by omega,by omega,.inr ⟨rfl,?_,by omega⟩,hs5.sub (by kernel_rfl)⟩
  rw [← hZ,Nat.add_assoc]
end Go.Proofs.YtnpeieeomokomaaGreat
namespace Go.Proofs.YtnpeieeomokomaaGreat
open Go.Sim
set_option maxRecDepth 100000 in
set_option maxHeartbeats 4000000 in
theorem rProbs_ok {s:List UInt8} {r p left symbols:Nat} {h:H} {Q:V→H→Prop} (hg:h.get r=some (oRr s p 0)) (hr:r<h.next) (hs:s.length≤1048576) (hp:p≤8*s.length) (hl:left≤1048576) (hsy:symbols≤256) (hn:h.next+8*symbols+30≤T.top)
  (hbad:rdProbs s symbols (symbols+2) left p []=none→∀ h' p',ExtX (· = r) h h' (8*symbols+30)→h'.get r=some (oRr s p' 23)→Q .nilslice h')
  (hgood:∀ l q v h',rdProbs s symbols (symbols+2) left p []=some (l,q)→ExtX (· = r) h h' (8*symbols+30)→h'.get r=some (oRr s q 0)→Ow h' v tint l.length (ints l)→(∀ b,vblk v=some b→h.next≤b)→q≤8*s.length→l.length≤symbols→Q v h') :
  RF P ctx 84 [.ptr r 0,.int .i64 left,.int .i64 symbols] h Q:=by
 generalize hR0:rdProbs s symbols (symbols+2) left p []=R0 at hbad hgood
 refine RF.enterS ctx_ok fn84 (ble _ _ rfl) (ble _ _ rfl) vb84 (Has.nil.on fun tm hs0=>?_)
 refine wpC.round (fun k tm h'=>∃ (c p:Nat) (v:V) (l:List Int) (left:Nat),RpI h h' c r s p 0 v l∧rdProbs s symbols k left p l=R0∧symbols+2≤k+l.length∧l.length≤symbols∧p≤8*s.length∧left≤1048576∧c≤8*l.length+3 ∧
  Has tm [(1,.int .i64 (left:Nat)),(0,.ptr r 0),(7,v),(2,.int .i64 symbols)]) (symbols+2)
  ⟨0,p,.nilslice,[],left,⟨Vw.one hg hr rfl,Ow.nil _ _,fun b hb=>(by cases hb)⟩,hR0,by simp,by simp,hp,hl,by simp,hs0.sub (by kernel_rfl)⟩ ?_
 clear hs0 hg hp hl hR0
 rintro k tm h' ⟨c,p,v,l,left,I,hR0,hf,hl,hp,hlf,hc,ht⟩
 have tI:=I.vw.top
 obtain ⟨k,rfl⟩:∃ g,k=g+1:=⟨k-1,by omega⟩
 refine wpC.at ht vl84_4 rfl rfl ⟨fun c1=>⟨.ptr r 0,h',rfl,?_⟩,fun c1=>ht.on fun tm' hs'=>?_⟩
 rotate_left
 ·have:left=0:=by omega
  subst this
  have hz:R0=some (l,p):=by rw [← hR0]; rfl
  refine thenC.left (wpS.at hs' vr84_5 rfl rfl (hs'.on fun tm2 hs2=>endW.r1 (hs2.get rfl) ?_))
  refine hgood l p v h' hz ((I.vw.more (by omega)).ex) (I.vw.get 0 rfl) I.ow (fun b hb=>?_) hp hl
  rcases (I.sp b hb).1 with q | q
  ·exact absurd q.symm ((I.sp b hb).2 _ (List.mem_cons_self ..))
  ·exact q
 have hleft:0<left:=by omega
 have hun:R0=match rdOne s left p with
  | none=>none
  | some (v,q) =>
   if l.length=symbols then none
   else if v=1 then
    match rdZeros s symbols (symbols+1) q (l.length+1) with
    | none=>none
    | some (n,r)=>rdProbs s symbols k left r (l++List.replicate (n-l.length) 0)
   else rdProbs s symbols k (left-max (v-1) 1) q (l++[(v:Int)-1]):=by
  rw [← hR0]
  show (if left=0 then some (l,p) else _)=_
  rw [if_neg (by omega)]
  rfl
 rw [fa_rr1]
 refine ⟨0,I.vw.ld1 0 rfl ty24 rfl rfl,fun _=>ht.on fun tm1 hs1=>?_,fun q=>absurd rfl q⟩
 refine wpS.at hs1 vr84_3 rfl rfl ?_
 refine rValue_ok (I.vw.get 0 rfl) (I.vw.lt 0 rfl) (by omega) hs hp hleft hlf (fun x q hx h1 x1 g1=>⟨_,rfl,.ptr r 0,h1,rfl,?_⟩) (fun hx x h1 p1 x1 g1=>⟨x,rfl,.ptr r 0,h1,rfl,?_⟩)
 rotate_left
 ·have I1:=I.step x1 g1
  rw [fa_rr1]
  refine ⟨23,I1.vw.ld1 0 rfl ty24 rfl rfl,fun _=>hs1.on fun tm2 hs2=>hs2.slt fun tm3 hs3=>?_,fun q=>absurd (show (23:Int)≠0 by decide) q⟩
  refine thenC.rt (thenC.rt (endW.r1 (hs3.get rfl) ?_))
  exact hbad (by rw [hun,hx]) h1 p1 ((I1.vw.more (by omega)).ex) g1
 have I1:=I.step x1 g1
 have t1:=I1.vw.top
 obtain ⟨hx1,hq⟩:=rdOne_le hleft hx
 rw [hx] at hun
 simp only at hun
 rw [fa_rr1]
 refine ⟨0,I1.vw.ld1 0 rfl ty24 rfl rfl,fun q=>absurd rfl q,fun _=>⟨_,I1.ow.sl.len ty23 rfl,fun c2=>⟨.ptr r 0,h1,rfl,?_⟩,fun c2=>?_⟩⟩
 ·-- too many
  rw [if_pos (by omega)] at hun
  rw [fa_rr1]
  obtain ⟨h4,e4,w4,n4,k4⟩:=I1.vw.st (cx:=ctx) 0 (f:=0+2) (u:=.int .i64 23) rfl (by omega) ty24 rfl (Nat.zero_le _) rfl rfl
  refine ⟨h4,e4,hs1.on fun tm2 hs2=>hs2.slt fun tm3 hs3=>?_⟩
  refine thenC.rt (thenC.rt (endW.r1 (hs3.get rfl) ?_))
  exact hbad hun h4 q ((w4.more (by omega)).ex) (w4.get 0 rfl)
 rw [if_neg (by omega)] at hun
 have ex1:w64 (((x:Nat):Int)-1)=(x:Int)-1:=w64_id (by omega) (by omega)
 rw [ex1]
 obtain ⟨v14,h15,e14,sl15,x15⟩:=build1i (h:=h1) ((x:Int)-1) (by omega)
 have t15:=x15.top
 have l15:=x15.le
 obtain ⟨v16,h17,e16,A⟩:=Ow.append (c:=ctx) (te:=tint) (m:=1) (I1.ow.ext x15) sl15 (by decide) ty23 rfl ty3 rfl rfl (by show (l.length+1)*1≤_; omega) (by show (l.length+1)*8≤_; omega) (by omega)
 obtain ⟨w17,ow17,sp17⟩:=(I1.vw.ext x15).grow (k:=(l++[(x:Int)-1]).length) (xs:=ints (l++[(x:Int)-1])) I1.sp (by rw [ints_app,List.length_append]; exact A)
 have t17:=w17.top
 obtain ⟨v18,h19,e18,sl19,x19⟩:=build1i (h:=h17) ((x:Int)-1) (by omega)
 have I19:RpI h h19 (c+3+1+1+1) r s q 0 v16 (l++[(x:Int)-1]):=⟨w17.ext x19,ow17.ext x19,sp17⟩
 have t19:=I19.vw.top
 refine ⟨v14,h15,e14,trivial,v16,h17,e16,v18,h19,e18,?_⟩
 refine rPoints_ok (l:=[(x:Int)-1]) sl19 (by simp) (fun y hy=>by rw [List.mem_singleton.1 hy]; omega) ⟨_,rfl,?_⟩
 have hl1:(l++[(x:Int)-1]).length=l.length+1:=by simp
 rw [pts_one]
 refine ⟨fun c3=>hs1.on fun tm2 hs2=>?_,fun c3=>hs1.on fun tm2 hs2=>?_⟩
 ·have hx0:x=1:=by omega
  subst hx0
  rw [if_pos rfl] at hun
  have ept:w64 ((left:Int)-pt (((1:Nat):Int)-1))=((left:Nat):Int):=by
   have:pt (((1:Nat):Int)-1)=0:=rfl
   rw [this,w64_id (by omega) (by omega)]; omega
  rw [ept] at hs2
  refine rZeros_ok (c0:=3) (f:=symbols+1) (b9:=true) (Z0:=rdZeros s symbols (symbols+1) q (l.length+1)) (left:=(left:Nat)) hs hsy I19 hq (by rw [hl1]; omega) (by omega) (by rw [hl1]; omega) (.inl ⟨rfl,by rw [hl1],by rw [hl1]; omega⟩) (hs2.sub (by kernel_rfl)) (fun hz tm3 h3 v3 l3 p3 I3 hs3=>?_) (fun tm3 h3 v3 j p3 c3 hz hc3 hj hp3 I3 hs3=>?_)
  ·show sealQ L84 _ .ret _
   refine hs3.slt fun tm4 hs4=>hs4.slt fun tm5 hs5=>thenC.rt (thenC.rt (endW.r1 (hs5.get rfl) ?_))
   exact hbad (by rw [hun,hz]) h3 p3 ((I3.vw.more (by omega)).ex) (I3.vw.get 0 rfl)
  ·rw [hl1] at hz hc3 hj
   rw [hz] at hun
   simp only at hun
   show sealQ L84 _ .normal _
   have e2:(l++[((1:Nat):Int)-1])++List.replicate j 0=l++List.replicate (l.length+1+j-l.length) 0:=by
    rw [show l.length+1+j-l.length=j+1 by omega,List.replicate_succ,List.append_assoc]
    rfl
   rw [e2] at I3
   refine hs3.slt fun tm4 hs4=>hs4.slt fun tm5 hs5=>⟨rfl,rfl,k,by omega,c3,p3,v3,_,left,I3,hun.symm,by simp; omega,by simp; omega,hp3,hlf,by simp; omega,hs5.sub (by kernel_rfl)⟩
 ·have hx0:x≠1:=by omega
  rw [if_neg hx0] at hun
  have ept:w64 ((left:Int)-pt ((x:Int)-1))=((left-max (x-1) 1:Nat):Int):=by
   have:pt ((x:Int)-1)=((max (x-1) 1:Nat):Int):=by
    unfold pt; split <;> omega
   rw [this,w64_id (by omega) (by omega)]; omega
  rw [ept] at hs2
  refine rZeros_ok (c0:=3) (f:=0) (b9:=false) (Z0:=some (l.length+1,q)) (left:=(left-max (x-1) 1:Nat)) hs hsy I19 hq (by rw [hl1]; omega) (by omega) (by rw [hl1]; omega) (.inr ⟨rfl,by rw [hl1]⟩) (hs2.sub (by kernel_rfl)) (fun hz=>(by cases hz)) (fun tm3 h3 v3 j p3 c3 hz hc3 hj hp3 I3 hs3=>?_)
  rw [hl1] at hz hc3 hj
  have hj0:j=0:=by have:=congrArg (fun o:Option (Nat×Nat)=>(o.getD (0,0)).1) hz; simp at this; omega
  have hpq:p3=q:=by have:=congrArg (fun o:Option (Nat×Nat)=>(o.getD (0,0)).2) hz; simp at this; omega
  subst hj0 hpq
  rw [List.replicate_zero,List.append_nil] at I3
  show sealQ L84 _ .normal _
  refine hs3.slt fun tm4 hs4=>hs4.slt fun tm5 hs5=>⟨rfl,rfl,k,by omega,c3,p3,v3,_,left-max (x-1) 1,I3,hun.symm,by simp; omega,by simp; omega,hp3,by omega,by simp; omega,hs5.sub (by kernel_rfl)⟩
end Go.Proofs.YtnpeieeomokomaaGreat
namespace Go.Proofs.YtnpeieeomokomaaGreat
open Go.Sim
noncomputable def opsD:List Go.Oper:=d43_2.toList
noncomputable def oD2 (i:Nat):Go.Oper:=(opsD[i]?).getD default
theorem opsD_is:opsD=[oD2 0,oD2 1,oD2 2,oD2 3,oD2 4,oD2 5,oD2 6,oD2 7,oD2 8,oD2 9]:=by kernel_rfl
theorem okD:drawOk opsD=some 9:=by kernel_rfl
section
variable (tm:Tm) (a b r p:Nat) (y x:Int)
def TD0:Tm:=Tb.set (Tb.set (Tb.set (Tb.set (Tb.set (putAll tm [(11,.ptr r 0),(12,.ptr p 0),(1,.int .i64 y),(8,.ptr a 0),(10,.ptr b 0)]) 83 (.ptr r 0)) 84 (.ptr r 0)) 85 (.ptr r 2)) 86 (.int .i64 x)) 87 (.bool true)
def TD1:Tm:=Tb.set (TD0 tm a b r p y x) 88 (.agg [.int .i64 0,.nilslice])
def TD2:Tm:=Tb.set (TD1 tm a b r p y x) 89 (.ptr r 0)
def TD3:Tm:=Tb.set (TD2 tm a b r p y x) 90 (.ptr r 0)
def TD4:Tm:=Tb.set (TD3 tm a b r p y x) 91 (.ptr r 2)
def TD5:Tm:=Tb.set (TD4 tm a b r p y x) 92 (.int .i64 x)
def TD6:Tm:=Tb.set (TD5 tm a b r p y x) 93 (.int .i64 y)
def TD7:Tm:=Tb.set (TD6 tm a b r p y x) 94 (.agg [.int .i64 x,.int .i64 y])
def TD9:Tm:=Tb.set (TD7 tm a b r p y x) 9 (.int .i64 0)
variable (h:H)
theorem aD0:aop ctx (oD2 0) (evx (TD0 tm a b r p y x)) h=some (.val (.agg [.int .i64 0,.nilslice]) h):=by kernel_rfl
theorem aD1:aop ctx (oD2 1) (evx (TD1 tm a b r p y x)) h=some (.val (.ptr r 0) h):=by kernel_rfl
theorem aD2:aop ctx (oD2 2) (evx (TD2 tm a b r p y x)) h=some (.val (.ptr r 0) h):=by kernel_rfl
theorem aD3:aop ctx (oD2 3) (evx (TD3 tm a b r p y x)) h=some (.val (.ptr r 2) h):=by kernel_rfl
theorem eD4:(oD2 4).op = .load 24 (t 91)∧evx (TD4 tm a b r p y x) (t 91)=some (.ptr r 2):=⟨by kernel_rfl,by kernel_rfl⟩
theorem aD5:aop ctx (oD2 5) (evx (TD5 tm a b r p y x)) h=some (.val (.int .i64 y) h):=by kernel_rfl
theorem aD6:aop ctx (oD2 6) (evx (TD6 tm a b r p y x)) h=some (.val (.agg [.int .i64 x,.int .i64 y]) h):=by kernel_rfl
theorem eD7:(oD2 7).op = .store 59 (t 8) (t 88)∧evx (TD7 tm a b r p y x) (t 8)=some (.ptr a 0)∧evx (TD7 tm a b r p y x) (t 88)=some (.agg [.int .i64 0,.nilslice]):=⟨by kernel_rfl,by kernel_rfl,by kernel_rfl⟩
theorem aD8:aop ctx (oD2 8) (evx (TD7 tm a b r p y x)) h=some (.val (.int .i64 0) h):=by kernel_rfl
theorem eD9:(oD2 9).op = .store 26 (t 10) (t 94)∧evx (TD9 tm a b r p y x) (t 10)=some (.ptr b 0)∧evx (TD9 tm a b r p y x) (t 94)=some (.agg [.int .i64 x,.int .i64 y]):=⟨by kernel_rfl,by kernel_rfl,by kernel_rfl⟩
theorem soD7:storeOk opsD (befores opsD []) 9 7 (TD7 tm a b r p y x) (oD2 7)=((cond (!(Nat.beq a r) && true) true false && true) || false):=by kernel_rfl
theorem gD9:getV (TD9 tm a b r p y x) 8 = .ptr a 0∧getV (TD9 tm a b r p y x) 9 = .int .i64 0∧getV (TD9 tm a b r p y x) 10 = .ptr b 0:=⟨by kernel_rfl,by kernel_rfl,by kernel_rfl⟩
end
theorem dD:(oD2 0).dst=some 88∧(oD2 1).dst=some 89∧(oD2 2).dst=some 90∧(oD2 3).dst=some 91∧(oD2 4).dst=some 92∧(oD2 5).dst=some 93∧(oD2 6).dst=some 94∧(oD2 7).dst=none∧(oD2 8).dst=some 9∧(oD2 9).dst=none :=
 ⟨by kernel_rfl,by kernel_rfl,by kernel_rfl,by kernel_rfl,by kernel_rfl,by kernel_rfl,by kernel_rfl,by kernel_rfl,by kernel_rfl,by kernel_rfl⟩
theorem guD:(oD2 0).guard=none∧(oD2 1).guard=none∧(oD2 2).guard=none∧(oD2 3).guard=none∧(oD2 4).guard=none∧(oD2 5).guard=none∧(oD2 6).guard=none∧(oD2 7).guard=none∧(oD2 8).guard=none∧(oD2 9).guard=none :=
 ⟨by kernel_rfl,by kernel_rfl,by kernel_rfl,by kernel_rfl,by kernel_rfl,by kernel_rfl,by kernel_rfl,by kernel_rfl,by kernel_rfl,by kernel_rfl⟩
set_option maxRecDepth 100000 in
theorem rRet_dr {hb h:H} {c a b r p q:Nat} {o6:O} {s:List UInt8} {y x:Int} {tm:Tm} {d:List AD} {Q:AX→St→Prop} (w:Vw none0 hb h c [(p,o6),(r,oRr s q x),(b,oFl 0 0),(a,oD 0 .nilslice)]) (hn:h.next≤T.top) (hl:h.low≤T.top)
  (hq:∀ h',Vw none0 hb h' c [(p,o6),(r,oRr s q x),(b,oFl x y),(a,oD 0 .nilslice)]→∀ tm',Has tm' [(8,.ptr a 0),(9,.int .i64 0),(10,.ptr b 0)]→Q .normal ⟨108,tm',d,h'⟩) :
  wpDr P ctx false opsD ⟨108,TD0 tm a b r p y x,d,h⟩ Q:=by
 have hlt:a<r:=by
  have h1:=w.bk.2.2.2.2.2.2.2.2.2.1
  have h2:=w.bk.2.2.2.2.2.2.1
  omega
 have w1:=w.upd 3 (o':=oD 0 .nilslice) rfl hn
 have a7:ast ctx 59 (topH h) (.ptr a 0) (.agg [.int .i64 0,.nilslice])=some ((topH h).upd a (some (oD 0 .nilslice))):=ast_at ty59 (show (topH h).get a=_ from w.get 3 rfl) rfl (Nat.zero_le _) rfl rfl
 have la:=w.lt 3 rfl
 have L1:lowM h ((topH h).upd a (some (oD 0 .nilslice)))=h.upd a (some (oD 0 .nilslice)):=lowM_upd (by omega)
 have l1:(h.upd a (some (oD 0 .nilslice))).low≤T.top:=by rw [H.low_upd]; omega
 have n1:(h.upd a (some (oD 0 .nilslice))).next=h.next:=rfl
 generalize h.upd a (some (oD 0 .nilslice))=h1 at w1 L1 l1 n1
 have w2:=w1.upd 2 (o':=oFl x y) rfl (by omega)
 have a9:ast ctx 26 h1 (.ptr b 0) (.agg [.int .i64 x,.int .i64 y])=some (h1.upd b (some (oFl x y))):=ast_at ty26 (w1.get 2 rfl) rfl (Nat.zero_le _) rfl rfl
 generalize h1.upd b (some (oFl x y))=h2 at w2 a9
 refine ⟨orc0,9,.normal,⟨108,TD9 tm a b r p y x,d,h2⟩,orc0_ok,okD,?_,hq h2 w2 _ ⟨(gD9 tm a b r p y x).1,(gD9 tm a b r p y x).2.1,(gD9 tm a b r p y x).2.2,trivial⟩⟩
 have so:=soD7 tm a b r p y x
 rw [beq_ne (show a≠r by omega)] at so
 obtain ⟨d0,d1,d2,d3,d4,d5,d6,d7,d8,d9⟩:=dD
 obtain ⟨u0,u1,u2,u3,u4,u5,u6,u7,u8,u9⟩:=guD
 generalize hbs:befores opsD []=bs at so ⊢
 generalize hops:opsD=ops at so ⊢
 have hl6:ops=[oD2 0,oD2 1,oD2 2,oD2 3,oD2 4,oD2 5,oD2 6,oD2 7,oD2 8,oD2 9]:=by rw [← hops]; exact opsD_is
 have main:drawF ctx orc0 false ih0 ops bs 9 9 0 [oD2 0,oD2 1,oD2 2,oD2 3,oD2 4,oD2 5,oD2 6,oD2 7,oD2 8,oD2 9] ⟨108,TD0 tm a b r p y x,d,h⟩=some (.done .normal ⟨108,TD9 tm a b r p y x,d,h2⟩):=by
  refine drawF_val u0 (aD0 tm a b r p y x _) d0 rfl hn hl ?_
  refine drawF_val u1 (aD1 tm a b r p y x _) d1 rfl hn hl ?_
  refine drawF_val u2 (aD2 tm a b r p y x _) d2 rfl hn hl ?_
  refine drawF_val u3 (aD3 tm a b r p y x _) d3 rfl hn hl ?_
  refine drawF_val u4 (aop_load (eD4 tm a b r p y x).1 (eD4 tm a b r p y x).2 (ald_one ty24 rfl (show (topH h).get r=_ from w.get 1 rfl) rfl)) d4 rfl hn hl ?_
  refine drawF_val u5 (aD5 tm a b r p y x _) d5 rfl hn hl ?_
  refine drawF_val u6 (aD6 tm a b r p y x _) d6 rfl hn hl ?_
  refine drawF_st u7 (aop_store (eD7 tm a b r p y x).1 (eD7 tm a b r p y x).2.1 (eD7 tm a b r p y x).2.2 a7) d7 (so.trans rfl) ?_
  rw [L1]
  refine drawF_val u8 (aD8 tm a b r p y x _) d8 rfl (by omega) l1 ?_
  exact opsF_st u9 (aop_store (eD9 tm a b r p y x).1 (eD9 tm a b r p y x).2.1 (eD9 tm a b r p y x).2.2 a9) d9
 rw [← hl6] at main
 exact main
end Go.Proofs.YtnpeieeomokomaaGreat
namespace Go.Proofs.YtnpeieeomokomaaGreat
open Go.Sim
set_option maxRecDepth 100000 in
set_option maxHeartbeats 4000000 in
theorem rRead_ok {s:List UInt8} {a:Nat} {h:H} {Q:V→H→Prop} (hs:s.length≤2000) (ha:a≤s.length) (h600:s.length≤a+600) (hn:h.next+200≤T.top) (hlow:h.low≤T.top)
  (hbad:rdDist (s.drop a) 6 12=none→∀ h',Ext h h' 150→Q (.tuple [.agg [.int .i64 0,.nilslice],.int .i64 0,flt (if rdAcc (s.drop a) 6 then 31 else 23) a]) h')
  (hgood:∀ log l p v h',rdDist (s.drop a) 6 12=some (log,l,p)→Ext h h' 150→Ow h' v tint l.length (ints l)→(∀ b,vblk v=some b→h.next≤b)→p≤8*(s.drop a).length→l.length≤12→Q (.tuple [.agg [.int .i64 (log:Nat),v],.int .i64 (a+(p+7)/8:Nat),flt 0 0]) h') :
  RF P ctx 43 [.str s,.int .i64 a,.int .i64 6,.int .i64 12] h Q:=by
 refine RF.enterS ctx_ok fn43 (ble _ _ rfl) (ble _ _ rfl) vb43 ⟨by omega,?_⟩
 rintro p0 h1 rfl e1
 have w1:=(Vw.nil (S:=none0) (h:=h)).new e1 (by omega)
 have t1:=w1.top
 refine ⟨by omega,?_⟩
 rintro p2 h3 rfl e3
 have w3:=w1.new e3 (by omega)
 have t3:=w3.top
 refine ⟨fun c=>absurd c (by omega),fun _=>⟨fun c=>absurd c (by show ¬ ((s.length:Int)<a); omega),fun _=>⟨fun c=>absurd c (by decide),fun _=>⟨fun c=>absurd c (by decide),fun _=>⟨fun c=>absurd c (by decide),fun _=>⟨fun c=>absurd c (by decide),fun _=>Has.nil.on fun tm hs0=>?_⟩⟩⟩⟩⟩⟩
 refine wpS.at hs0 vr43_0 rfl rfl (hs0.on fun tm1 hs1=>thenC.nx (hs1.sealK fun tm2 hs2=>?_))
 clear hs0 hs1
 have em:min (Int.ofNat s.length) (w64 ((a:Int)+600))=((s.length:Nat):Int):=by
  rw [w64_id (by omega) (by omega)]; show min (s.length:Int) _=_; omega
 have esl:aslice ctx 9 h3 (.str s) (some (.int .i64 (a:Nat))) (some (.int .i64 (s.length:Nat))) none=some (.str (s.drop a)):=by
  rw [slice_str ha (Nat.le_refl _)]
  unfold sliceS
  rw [List.take_of_length_le (by rw [List.length_drop]; exact Nat.le_refl _)]
 have hbl:(s.drop a).length≤2000:=by rw [List.length_drop]; omega
 refine wpS.at hs2 vr43_7 rfl rfl ⟨_,by rw [em]; exact esl,by omega,?_⟩
 generalize s.drop a=b at hbad hgood hbl
 clear esl em
 rintro p4 h5 rfl e5
 have w5:=w3.new e5 (by omega)
 have t5:=w5.top
 have bad:∀ (tm:Tm) (h':H) (q:Nat) (x:Int) (o6:O) (p6:Nat),rdDist b 6 12=none→x=(if rdAcc b 6 then 31 else 23)→Vw none0 h h' 150 [(p6,o6),(h3.next,oRr b q x),(h1.next,oFl 0 0),(h.next,oD 0 .nilslice)]→Has tm [(11,.ptr h3.next 0),(12,.ptr p6 0),(1,.int .i64 a),(8,.ptr h.next 0),(10,.ptr h1.next 0)] →
   W43 false r43_5 ⟨108,tm,[],h'⟩ (sealQ L43 (sealQ L43 (endW ctx ⟨108,[.cell 8 59,.tmp 9,.cell 10 26],b43⟩ Q))):=by
  intro tm h' q x o6 p6 hz hx w hs
  have tw:=w.top
  have lw:=w.low
  have hne:x≠0:=by rw [hx]; split <;> decide
  refine wpS.at hs vr43_5 rfl rfl ⟨.ptr h3.next 0,h',rfl,?_⟩
  rw [fa_rr1]
  refine ⟨x,w.ld1 1 rfl ty24 rfl rfl,fun _=>?_,fun q=>absurd hne q⟩
  refine rRet_dr w (by omega) (by omega) fun h2 w2 tm2 hs2=>?_
  refine thenC.nx (wpS.at hs2 vr43_3 rfl rfl (hs2.on fun tm3 hs3=>?_))
  refine thenC.rt (hs3.slt fun tm4 hs4=>hs4.slt fun tm5 hs5=>hs5.slt fun tm6 hs6=>endW.ok (leave.cell (hs6.get rfl) (w2.ldA 3 rfl ty59 rfl rfl) (leave.tmp (hs6.get rfl) (leave.cell (hs6.get rfl) (w2.ldA 2 rfl ty26 rfl rfl) rfl))) ?_)
  have:=hbad hz h2 w2.ex0
  rw [← hx] at this
  exact this
 refine rTake_ok (p:=0) (n:=4) (w5.get 0 rfl) (w5.lt 0 rfl) (by omega) (by omega) (by omega) (by decide) (fun c2 h7 x7 g7=>?_) (fun c2 h7 x7 g7=>?_)
 rotate_left
 ·have w7:=w5.extX 0 rfl x7 g7
  have t7:=w7.top
  refine ⟨_,rfl,by omega,?_⟩
  rintro p6 h8 rfl e8
  have w8:=w7.new e8 (by omega)
  have t8:=w8.top
  obtain ⟨h9,e9,w9,n9,_⟩:=w8.st (cx:=ctx) 0 (f:=0) (u:=.agg [.int .i64 (w64 (5+0)),.nilslice]) rfl (by omega) ty59 rfl (Nat.zero_le _) rfl rfl
  have hz:rdDist b 6 12=none:=by unfold rdDist; rw [if_pos (by omega)]
  have hac:¬ rdAcc b 6:=fun q=>by have:=q.1; omega
  refine ⟨h9,e9,.ptr h3.next 0,h9,rfl,?_⟩
  rw [fa_rr1]
  refine ⟨23,w9.ld1 1 rfl ty24 rfl rfl,fun q=>absurd q (by decide),fun _=>hs2.on fun tm3 hs3=>?_⟩
  refine wpS.at hs3 vr43_1 rfl rfl (hs3.on fun tm4 hs4=>thenC.nx (hs4.sealK fun tm5 hs5=>?_))
  refine wpS.at hs5 vr43_6 rfl rfl ⟨.ptr h3.next 0,h9,rfl,?_⟩
  rw [fa_rr1]
  refine ⟨23,w9.ld1 1 rfl ty24 rfl rfl,fun q=>absurd q (by decide),fun _=>hs5.on fun tm6 hs6=>?_⟩
  exact bad tm6 h9 0 23 _ _ hz (by rw [if_neg hac]) (w9.more (by omega)) (hs6.sub (by kernel_rfl))
 have w7:=w5.extX 0 rfl x7 g7
 have t7:=w7.top
 have f4:=fnum_lt b 0 4
 refine ⟨_,rfl,by omega,?_⟩
 rintro p6 h8 rfl e8
 have w8:=w7.new e8 (by omega)
 have t8:=w8.top
 have el:w64 (5+((fnum b 0 4:Nat):Int))=((fnum b 0 4+5:Nat):Int):=by rw [w64_id (by omega) (by omega)]; omega
 obtain ⟨h9,e9,w9,n9,_⟩:=w8.st (cx:=ctx) 0 (f:=0) (u:=.agg [.int .i64 (fnum b 0 4+5:Nat),.nilslice]) rfl (by omega) ty59 rfl (Nat.zero_le _) rfl rfl
 have t9:=w9.top
 refine ⟨h9,by rw [el]; exact e9,.ptr h3.next 0,h9,rfl,?_⟩
 rw [fa_rr1]
 refine ⟨0,w9.ld1 1 rfl ty24 rfl rfl,fun _=>⟨_,w9.ld1 0 rfl ty3 rfl rfl,fun c3=>hs2.on fun tm3 hs3=>?_,fun c3=>hs2.on fun tm3 hs3=>?_⟩,fun q=>absurd rfl q⟩
 ·-- too accurate
  have hz:rdDist b 6 12=none:=by unfold rdDist; rw [if_neg (by omega),if_pos (by omega)]
  have hac:rdAcc b 6:=⟨by omega,by omega⟩
  obtain ⟨h10,e10,w10,n10,_⟩:=w9.st (cx:=ctx) 1 (f:=0+2) (u:=.int .i64 31) rfl (by omega) ty24 rfl (Nat.zero_le _) rfl rfl
  refine wpS.at hs3 vr43_1 rfl rfl ⟨.ptr h3.next 0,h9,rfl,?_⟩
  rw [fa_rr1]
  refine ⟨h10,e10,hs3.on fun tm4 hs4=>thenC.nx (hs4.sealK fun tm5 hs5=>?_)⟩
  refine wpS.at hs5 vr43_6 rfl rfl ⟨.ptr h3.next 0,h10,rfl,?_⟩
  rw [fa_rr1]
  refine ⟨31,w10.ld1 1 rfl ty24 rfl rfl,fun q=>absurd q (by decide),fun _=>hs5.on fun tm6 hs6=>?_⟩
  exact bad tm6 h10 (0+4) 31 _ _ hz (by rw [if_pos hac]) (w10.more (by omega)) (hs6.sub (by kernel_rfl))
 have hun:rdDist b 6 12=(rdProbs b 12 (12+2) (2^(fnum b 0 4+5)) 4 []).map fun x=>(fnum b 0 4+5,x.1,x.2):=by
  unfold rdDist
  rw [if_neg (by omega),if_neg (by omega)]
 have hac:¬ rdAcc b 6:=fun q=>by have:=q.2; omega
 have pw:2^(fnum b 0 4+5)≤2^6:=Nat.pow_le_pow_right (by decide) (by omega)
 refine wpS.at hs3 vr43_1 rfl rfl (hs3.on fun tm4 hs4=>thenC.nx (hs4.sealK fun tm5 hs5=>?_))
 refine wpS.at hs5 vr43_6 rfl rfl ⟨.ptr h3.next 0,h9,rfl,?_⟩
 rw [fa_rr1]
 refine ⟨0,w9.ld1 1 rfl ty24 rfl rfl,fun _=>?_,fun q=>absurd rfl q⟩
 rw [fa_dist0]
 refine ⟨_,w9.ld1 0 rfl ty3 rfl rfl,((1*2^(fnum b 0 4+5):Nat):Int),by rw [wrapN_u64 (by omega)]; exact shlN_i64 (a:=1) (by omega) (by omega),?_⟩
 rw [Nat.one_mul]
 refine rProbs_ok (p:=4) (symbols:=12) (w9.get 1 rfl) (w9.lt 1 rfl) (by omega) (by omega) (by omega) (by decide) (by omega) (fun hz0 h10 p1 x10 g10=>⟨_,rfl,?_⟩) (fun l q v h10 hz0 x10 g10 ow10 hv10 hq10 hl10=>⟨_,rfl,?_⟩)
 ·have hz:rdDist b 6 12=none:=by rw [hun,hz0]; rfl
  have w10:=w9.extX 1 rfl x10 g10
  have t10:=w10.top
  rw [fa_dist1]
  obtain ⟨h11,e11,w11,n11,_⟩:=w10.st (cx:=ctx) 0 (f:=0+1) (u:=.nilslice) rfl (by omega) ty23 rfl (Nat.zero_le _) rfl rfl
  refine ⟨h11,e11,hs5.on fun tm6 hs6=>?_⟩
  exact bad tm6 h11 p1 23 _ _ hz (by rw [if_neg hac]) (w11.more (by omega)) (hs6.sub (by kernel_rfl))
 ·have hz:rdDist b 6 12=some (fnum b 0 4+5,l,q):=by rw [hun,hz0]; rfl
  have w10:=w9.extX 1 rfl x10 g10
  have t10:=w10.top
  rw [fa_dist1]
  have hlt:h7.next<h9.next:=w9.lt 0 rfl
  have hlt1:h.next<h9.next:=w9.lt 3 rfl
  have hlt2:h1.next<h9.next:=w9.lt 2 rfl
  obtain ⟨h11,e11,w11,n11,k11⟩:=w10.st (cx:=ctx) 0 (f:=0+1) (u:=v) (cs':=.ls [.int .i64 (fnum b 0 4+5:Nat),v]) rfl (by omega) ty23 (by rw [ow10.one1.1]; rfl) (Nat.zero_le _) (by rw [ow10.one1.1]; exact ow10.one1.2) (by rw [ow10.one1.1]; rfl)
  refine ⟨h11,e11,hs5.on fun tm6 hs6=>?_⟩
  refine wpS.at hs6 vr43_5 rfl rfl ⟨.ptr h3.next 0,h11,rfl,?_⟩
  rw [fa_rr1]
  refine ⟨0,w11.ld1 1 rfl ty24 rfl rfl,fun q=>absurd rfl q,fun _=>⟨.ptr h3.next 0,h11,rfl,?_⟩⟩
  rw [fa_rr0]
  refine ⟨b,q,w11.ldA 1 rfl ty112 rfl rfl,rNextF_ok (by omega) hq10 ⟨_,_,rfl,_,v,w11.ldA 0 rfl ty59 rfl rfl,?_⟩⟩
  obtain ⟨h12,e12,w12,n12,k12⟩:=w11.st (cx:=ctx) 3 (f:=0) (u:=.agg [.int .i64 (fnum b 0 4+5:Nat),v]) (cs':=.ls [.int .i64 (fnum b 0 4+5:Nat),v]) rfl (by omega) ty59 rfl (Nat.zero_le _) (allOne_iff.2 fun u hu=>by
   rcases List.mem_cons.1 hu with rfl | hu
   ·rfl
   ·exact allOne_iff.1 ow10.one1.2 u hu) rfl
  obtain ⟨h13,e13,w13,n13,k13⟩:=w12.st (cx:=ctx) 2 (f:=0) (u:=.agg [.int .i64 0,.int .i64 0]) rfl (by omega) ty26 rfl (Nat.zero_le _) rfl rfl
  have ow13:=ow10.keep (h':=h13) (by omega) fun b' hb'=>by
   have:=hv10 b' hb'
   rw [k13 b' (by omega),k12 b' (by omega),k11 b' (by omega)]
  have ew:w64 ((a:Int)+(((q+7)/8:Nat):Int))=((a+(q+7)/8:Nat):Int):=by rw [w64_id (by omega) (by omega)]; rfl
  refine ⟨h12,e12,h13,e13,hs6.on fun tm7 hs7=>hs7.slt fun tm8 hs8=>hs8.slt fun tm9 hs9=>endW.ok (leave.cell (hs9.get rfl) (w13.ldA 3 rfl ty59 rfl rfl) (leave.tmp (hs9.get rfl) (leave.cell (hs9.get rfl) (w13.ldA 2 rfl ty26 rfl rfl) rfl))) ?_⟩
  rw [ew]
  exact hgood _ l q v h13 hz (w13.ex0.mono (by omega)) ow13 (fun b' hb'=>by have:=hv10 b' hb'; omega) hq10 hl10
end Go.Proofs.YtnpeieeomokomaaGreat
