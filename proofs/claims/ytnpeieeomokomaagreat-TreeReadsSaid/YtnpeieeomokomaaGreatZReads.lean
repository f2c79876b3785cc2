/- Reads. No condition. -/
import Derived.Test.YtnpeieeomokomaaGreatZTO
import Derived.Test.YtnpeieeomokomaaGreatZTK
import Derived.Test.YtnpeieeomokomaaGreatZCk
import Derived.Test.YtnpeieeomokomaaGreatZX
import Derived.ProofKit
namespace Go.Proofs.YtnpeieeomokomaaGreat
open Go.Sim
theorem slice_to {s:List UInt8} {y:Nat} {h:H} (h2:y≤s.length):aslice ctx 9 h (.str s) none (some (.int .i64 y)) none=some (.str (s.take y)):=by
 unfold aslice
 have e2:asNatI (y:Int)=some y:=rfl
 have e3:lenB s 0=s.length:=by rw [lenB_eq]; omega
 simp only [ty9,Go.Sim.bnd,e2,e3]
 rw [Nat.ble_eq_true_of_le h2,cond_true]
 simp only
 unfold sliceS
 rw [List.drop_zero,Nat.sub_zero]
set_option maxRecDepth 100000 in
set_option maxHeartbeats 2000000 in
theorem rTreeRead_ok {s:List UInt8} {at':Int} {h:H} {Q:V→H→Prop} (hs:s.length≤1500) (hn:h.next+2100≤T.top) (hlow:h.low≤T.top)
  (hq:∀ h' v',Ext h h' 2000→Ow h' v' tint (rdTree s at').l.length (ints (rdTree s at').l)→(∀ b,vblk v'=some b→h.next≤b)→Q (.tuple [v',.int .i64 ((rdTree s at').next:Nat),flt (rdTree s at').e (rdTree s at').fat]) h') :
  RF P ctx 11 [.str s,.int .i64 at'] h Q:=by
 generalize hR:rdTree s at'=R at hq
 unfold rdTree at hR
 have bad:∀ e fat,R=⟨[],0,e,fat⟩→∀ h',Ext h h' 2000→Q (.tuple [.nilslice,.int .i64 0,flt e fat]) h':=fun e fat he h' x=>by
  subst he
  exact hq h' .nilslice x (Ow.nil _ _) fun b hb=>(by cases hb)
 refine RF.enterS ctx_ok fn11 (ble _ _ rfl) (ble _ _ rfl) vb11 ⟨by omega,?_⟩
 rintro p0 h1 rfl e1
 have w1:=(Vw.nil (S:=none0) (h:=h)).new e1 (by omega)
 have t1:=w1.top
 have l1:=w1.low
 have fin:∀ {h2:H} {c:Nat} {tm:Tm} {rest:List (Nat×O)} {x y e fat n:Int} {v:V} {i:Nat},Vw none0 h h2 c rest→rest[i]? = some (h.next,oFl x y)→c≤2000→(∀ h',Ext h h' 2000→(∀ b,b≠h.next→h'.get b=h2.get b)→h'.next=h2.next→Q (.tuple [v,.int .i64 n,flt e fat]) h') →
   ∃ h3,ast ctx 26 h2 (.ptr h.next 0) (.agg [.int .i64 e,.int .i64 fat])=some h3∧∀ tm,Has tm [(4,v),(5,.int .i64 n),(6,.ptr h.next 0)]→endW ctx ⟨88,[.tmp 4,.tmp 5,.cell 6 26],b11⟩ Q .ret ⟨88,tm,[],h3⟩:=by
  intro h2 c tm rest x y e fat n v i w hi hc hQ
  have tw:=w.top
  obtain ⟨h3,e3,w3,n3,k3⟩:=w.st (cx:=ctx) i (f:=0) (u:=.agg [.int .i64 e,.int .i64 fat]) hi (by omega) ty26 rfl (Nat.zero_le _) rfl rfl
  have g3:h3.get h.next=some (oFl e fat):=w3.get i (by
   have:i<rest.length:=(List.getElem?_eq_some_iff.1 hi).1
   rw [List.getElem?_set_self this])
  exact ⟨h3,e3,fun tm hs=>endW.ok (leave.tmp (hs.get rfl) (leave.tmp (hs.get rfl) (leave.cell (hs.get rfl) (ald_agg ty26 rfl g3 rfl) rfl))) (hQ h3 (w3.ex0.mono hc) k3 n3)⟩
 have oor:(at'<0∨(s.length:Int)<at')→∀ tm,Has tm [(4,.nilslice),(5,.int .i64 0),(6,.ptr h.next 0),(20,.bool true),(1,.int .i64 at'),(0,.str s)]→W11 false r11_0 ⟨88,tm,[],h1⟩ (thenC (sealK L11 fun s1=>W11 false r11_1 s1 (endW ctx ⟨88,[.tmp 4,.tmp 5,.cell 6 26],b11⟩ Q)) (endW ctx ⟨88,[.tmp 4,.tmp 5,.cell 6 26],b11⟩ Q)):=by
  intro c tm hs0
  rw [if_pos c] at hR
  obtain ⟨h3,e3,F⟩:=fin (tm:=tm) (i:=0) w1 rfl (by omega) fun h' x _ _=>bad 2 0 hR.symm h' x
  exact wpS.at hs0 vr11_0 rfl rfl ⟨h3,e3,hs0.on fun tm1 hs1=>thenC.rt (F tm1 (hs1.sub (by kernel_rfl)))⟩
 refine ⟨fun c=>Has.nil.on fun tm hs0=>oor (.inl c) tm (hs0.sub (by kernel_rfl)),fun c1=>⟨fun c=>Has.nil.on fun tm hs0=>oor (.inr c) tm (hs0.sub (by kernel_rfl)),fun c2=>Has.nil.on fun tm hs0=>?_⟩⟩
 have c2:¬ (s.length:Int)<at':=c2
 rw [if_neg (by omega)] at hR
 obtain ⟨a,rfl⟩:∃ a:Nat,at'=a:=⟨at'.toNat,by omega⟩
 rw [Int.toNat_natCast] at hR
 refine wpS.at hs0 vr11_0 rfl rfl (hs0.on fun tm1 hs1=>thenC.nx (hs1.sealK fun tm2 hs2=>?_))
 clear hs0 hs1 oor
 refine wpS.at hs2 vr11_1 rfl rfl ⟨fun c=>?_,fun c=>?_⟩
 ·have c:(a:Int)=s.length:=c
  rw [List.getElem?_eq_none (by omega)] at hR
  obtain ⟨h3,e3,F⟩:=fin (tm:=tm2) (i:=0) w1 rfl (by omega) fun h' x _ _=>bad 5 a hR.symm h' x
  exact ⟨h3,e3,hs2.on fun tm3 hs3=>F tm3 (hs3.sub (by kernel_rfl))⟩
 have c:¬ (a:Int)=s.length:=c
 have hal:a<s.length:=by omega
 obtain ⟨ch,hch⟩:∃ ch,s[a]? = some ch:=⟨_,List.getElem?_eq_getElem hal⟩
 have hct:=ch.toNat_lt
 rw [hch] at hR
 simp only at hR
 have ech:w64 ((ch.toNat:Nat):Int)=((ch.toNat:Nat):Int):=w64n (by omega)
 have ea1:w64 ((a:Int)+1)=((a+1:Nat):Int):=by rw [w64_id (by omega) (by omega)]; rfl
 have ea2:w64 (((a+1:Nat):Int)+((ch.toNat:Nat):Int))=((a+1+ch.toNat:Nat):Int):=by rw [w64_id (by omega) (by omega)]; rfl
 refine ⟨_,index_str hch,fun c3=>?_,fun c3=>⟨_,index_str hch,?_⟩⟩
 ·-- direct
  rw [if_pos (by omega)] at hR
  refine rDirect_ok (by omega) hch (by omega) (by omega) fun h8 v9 x8 ow8 hv8=>?_
  rw [hR] at ow8 ⊢
  have w8:=w1.ext x8
  have t8:=w8.top
  have lt0:=w1.lt 0 rfl
  obtain ⟨h13,e13,F⟩:=fin (tm:=tm2) (v:=v9) (n:=(R.next:Nat)) (e:=R.e) (fat:=R.fat) (i:=0) w8 rfl (by omega) fun h' x k n=>hq h' v9 x (ow8.keep (by omega) fun b hb=>k b (by have:=hv8 b hb; omega)) fun b hb=>by have:=hv8 b hb; omega
  exact ⟨v9,_,_,_,rfl,h13,e13,hs2.on fun tm3 hs3=>F tm3 (hs3.sub (by kernel_rfl))⟩
 rw [if_neg (by omega)] at hR
 rw [ech,ea1,ea2]
 refine ⟨fun c4=>?_,fun c4=>⟨_,slice_to (y:=a+1+ch.toNat) (by have:¬ (s.length:Int)<((a+1+ch.toNat:Nat):Int):=c4; omega),?_⟩⟩
 ·have c4:(s.length:Int)<((a+1+ch.toNat:Nat):Int):=c4
  rw [if_pos (by omega)] at hR
  obtain ⟨h3,e3,F⟩:=fin (tm:=tm2) (i:=0) w1 rfl (by omega) fun h' x _ _=>bad 5 s.length hR.symm h' x
  exact ⟨h3,e3,hs2.on fun tm3 hs3=>F tm3 (hs3.sub (by kernel_rfl))⟩
 have c4:¬ (s.length:Int)<((a+1+ch.toNat:Nat):Int):=c4
 rw [if_neg (by omega)] at hR
 have htl:(s.take (a+1+ch.toNat)).length=a+1+ch.toNat:=by rw [List.length_take]; omega
 have hbd:(s.take (a+1+ch.toNat)).drop (a+1)=(s.drop (a+1)).take ch.toNat:=by rw [List.drop_take,show a+1+ch.toNat-(a+1)=ch.toNat by omega]
 unfold rdFse at hR
 rw [← hbd] at hR
 have hbl:((s.take (a+1+ch.toNat)).drop (a+1)).length=ch.toNat:=by rw [List.length_drop,htl]; omega
 have lt0:=w1.lt 0 rfl
 refine rRead_ok (s:=s.take (a+1+ch.toNat)) (a:=a+1) (by omega) (by omega) (by omega) (by omega) (by omega) (fun hd h13 x13=>?_) fun log l p v h13 hd x13 ow13 hv13 hp hl12=>?_
 ·rw [hd] at hR
  simp only at hR
  have w13:=w1.ext x13
  have t13:=w13.top
  refine ⟨_,_,_,_,_,rfl,by omega,?_⟩
  rintro p19 h20 rfl e20
  have w20:=w13.new e20 (by omega)
  have t20:=w20.top
  refine ⟨by omega,?_⟩
  rintro p21 h22 rfl e22
  have w22:=w20.new e22 (by omega)
  have t22:=w22.top
  obtain ⟨h23,e23,w23,n23,_⟩:=w22.st (cx:=ctx) 1 (f:=0) (u:=.agg [.int .i64 0,.nilslice]) rfl (by omega) ty59 rfl (Nat.zero_le _) rfl rfl
  obtain ⟨h24,e24,w24,n24,_⟩:=w23.st (cx:=ctx) 0 (f:=0) (u:=flt (if rdAcc ((s.take (a+1+ch.toNat)).drop (a+1)) 6 then 31 else 23) (a+1:Nat)) rfl (by omega) ty26 rfl (Nat.zero_le _) rfl rfl
  have l24:=w24.low
  have hne:(if rdAcc ((s.take (a+1+ch.toNat)).drop (a+1)) 6 then (31:Int) else 23)≠0:=by split <;> decide
  obtain ⟨h28,e28,F⟩:=fin (tm:=tm2) (i:=2) w24 rfl (by omega) fun h' x _ _=>bad _ _ hR.symm h' x
  exact ⟨h23,e23,h24,e24,_,w24.ld1 0 rfl ty24 rfl rfl,fun _=>⟨⟨by omega,by omega⟩,_,_,w24.ldA 0 rfl ty26 rfl rfl,h28,e28,hs2.on fun tm3 hs3=>F tm3 (hs3.sub (by kernel_rfl))⟩,fun q=>absurd hne q⟩
 rw [hd] at hR
 simp only at hR
 have hgd:=rdDist_good hd
 have w13:=w1.ext x13
 have t13:=w13.top
 refine ⟨_,_,_,_,_,rfl,by omega,?_⟩
 rintro p19 h20 rfl e20
 obtain ⟨_,x20,_⟩:=made_new e20 (by omega)
 have w20:=w13.new e20 (by omega)
 have t20:=w20.top
 refine ⟨by omega,?_⟩
 rintro p21 h22 rfl e22
 obtain ⟨_,x22,_⟩:=made_new e22 (by omega)
 have w22:=w20.new e22 (by omega)
 have t22:=w22.top
 have ow22:=(ow13.ext x20).ext x22
 have hvl:∀ b,vblk v=some b→b<h13.next:=fun b hb=>ow13.blk hb
 have hle:h13.next≤h20.next:=x20.le
 obtain ⟨h23,e23,w23,n23,k23⟩:=w22.st (cx:=ctx) 1 (f:=0) (u:=.agg [.int .i64 log,v]) (cs':=.ls [.int .i64 log,v]) rfl (by omega) ty59 rfl (Nat.zero_le _) (show allOne [v]=true from ow22.one1.2) rfl
 obtain ⟨h24,e24,w24,n24,k24⟩:=w23.st (cx:=ctx) 0 (f:=0) (u:=flt 0 0) rfl (by omega) ty26 rfl (Nat.zero_le _) rfl rfl
 have t24:=w24.top
 have l24:=w24.low
 have ow24:=ow22.keep (h':=h24) (by omega) fun b hb=>by
  have:=hvl b hb
  rw [k24 b (by omega),k23 b (by omega)]
 have esl:=slice_str (s:=s) (x:=a+1+(p+7)/8) (y:=a+1+ch.toNat) (h:=h24) (by omega) (by omega)
 unfold sliceS at esl
 have hsl:(s.drop (a+1+(p+7)/8)).take (a+1+ch.toNat-(a+1+(p+7)/8))=((s.take (a+1+ch.toNat)).drop (a+1)).drop ((p+7)/8):=by
  rw [List.drop_drop,List.drop_take]
 rw [hsl] at esl
 have hbl2:(((s.take (a+1+ch.toNat)).drop (a+1)).drop ((p+7)/8)).length≤2000:=by rw [List.length_drop]; omega
 generalize ((s.take (a+1+ch.toNat)).drop (a+1)).drop ((p+7)/8)=body at hR esl hbl2
 refine ⟨h23,e23,h24,e24,_,w24.ld1 0 rfl ty24 rfl rfl,fun q=>absurd rfl q,fun _=>⟨⟨by omega,by omega⟩,_,_,w24.ldA 1 rfl ty59 rfl rfl,body,esl,?_⟩⟩
 refine rReadTwo_ok (h:=topH h24) (ow24.keep (h':=topH h24) (Nat.le_refl _) fun _ _=>rfl).sl hgd hbl2 (by show h24.next+1600≤_; omega) (Nat.le_refl _) fun h33 v34 x33 ow33 hv33=>⟨v34,_,rfl,?_⟩
 have t33:=x33.top
 have t33:h33.next≤h24.next+1500:=t33
 obtain ⟨_,x36⟩:=x33.drawn (by omega)
 refine ⟨by omega,?_⟩
 rintro h36 rfl
 have ow36:=ow33.keep (h':=lowM h24 h33) (Nat.le_refl _) fun _ _=>rfl
 have hv36:∀ b,vblk v34=some b→h24.next≤b:=hv33
 generalize lowM h24 h33=h36 at x36 ow36
 have w36:=w24.ext x36
 have lt24:=w24.lt 2 rfl
 refine ⟨fun c7=>?_,fun c7=>rRgt_ok ow36.sl (by have:=(rdTwo_in (s:=body) hgd).2; omega) ⟨_,rfl,fun c8=>?_,fun c8=>?_⟩⟩
 ·rw [if_pos c7] at hR
  obtain ⟨h37,e37,F⟩:=fin (tm:=tm2) (i:=2) w36 rfl (by omega) fun h' x _ _=>bad _ _ hR.symm h' x
  exact ⟨h37,e37,hs2.on fun tm3 hs3=>F tm3 (hs3.sub (by kernel_rfl))⟩
 ·rw [if_neg c7,if_neg c8] at hR
  obtain ⟨h37,e37,F⟩:=fin (tm:=tm2) (i:=2) w36 rfl (by omega) fun h' x _ _=>bad _ _ hR.symm h' x
  exact ⟨h37,e37,hs2.on fun tm3 hs3=>F tm3 (hs3.sub (by kernel_rfl))⟩
 ·rw [if_neg c7,if_pos (by omega)] at hR
  subst hR
  obtain ⟨h37,e37,F⟩:=fin (tm:=tm2) (v:=v34) (n:=(a+1+ch.toNat:Nat)) (e:=0) (fat:=0) (i:=2) w36 rfl (by omega) fun h' x k n=>hq h' v34 x (ow36.keep (by omega) fun b hb=>k b (by have:=hv36 b hb; omega)) fun b hb=>by have:=hv36 b hb; omega
  exact ⟨h37,e37,hs2.on fun tm3 hs3=>F tm3 (hs3.sub (by kernel_rfl))⟩
end Go.Proofs.YtnpeieeomokomaaGreat
namespace Go.Proofs.YtnpeieeomokomaaGreat
open Go.Sim
set_option maxRecDepth 100000 in
set_option maxHeartbeats 1000000 in
theorem rTreeLengths_ok {s:List UInt8} {at':Int} {h:H} {Q:V→H→Prop} (hs:s.length≤1500) (hn:h.next+2700≤T.top) (hlow:h.low≤T.top)
  (hq:∀ h' v',Ext h h' 2600→Sl h' v' 1 (rdLens s at').l.length (ints (rdLens s at').l)→(∀ b,vblk v'=some b→h.next≤b)→Q (.tuple [v',.int .i64 ((rdLens s at').next:Nat),flt (rdLens s at').e (rdLens s at').fat]) h') :
  RF P ctx 14 [.str s,.int .i64 at'] h Q:=by
 generalize hR:rdLens s at'=R at hq
 unfold rdLens at hR
 refine RF.enterS ctx_ok fn14 (ble _ _ rfl) (ble _ _ rfl) vb14 ⟨by omega,?_⟩
 rintro p0 h1 rfl e1
 have w1:=(Vw.nil (S:=none0) (h:=h)).new e1 (by omega)
 have t1:=w1.top
 have l1:=w1.low
 have hlen:=rdTree_len s at'
 refine rTreeRead_ok hs (by omega) (by omega) fun h3 v4 x3 ow3 hv3=>⟨_,_,_,_,rfl,?_⟩
 have w3:=w1.ext x3
 have t3:=w3.top
 have lt0:=w1.lt 0 rfl
 refine ⟨by omega,?_⟩
 rintro p8 h9 rfl e9
 obtain ⟨_,x9,_⟩:=made_new e9 (by omega)
 have w9:=w3.new e9 (by omega)
 have t9:=w9.top
 obtain ⟨h10,e10,w10,n10,k10⟩:=w9.st (cx:=ctx) 0 (f:=0) (u:=flt (rdTree s at').e (rdTree s at').fat) rfl (by omega) ty26 rfl (Nat.zero_le _) rfl rfl
 have t10:=w10.top
 have l10:=w10.low
 have ow10:=(ow3.ext x9).keep (h':=h10) (by omega) fun b hb=>k10 b (by have:=ow3.blk hb; omega)
 refine ⟨h10,e10,_,w10.ld1 0 rfl ty24 rfl rfl,fun c=>?_,fun c=>?_⟩
 ·rw [if_neg c] at hR
  obtain ⟨h12,e12,w12,n12,_⟩:=w10.st (cx:=ctx) 1 (f:=0) (u:=flt (rdTree s at').e (rdTree s at').fat) rfl (by omega) ty26 rfl (Nat.zero_le _) rfl rfl
  refine ⟨⟨by omega,by omega⟩,_,_,w10.ldA 0 rfl ty26 rfl rfl,h12,e12,endL.ok (leaveL.cell (a:=6) (w12.ldA 1 rfl ty26 rfl rfl) rfl) ?_⟩
  have:=hq h12 .nilslice (w12.ex0.mono (by omega))
  rw [← hR] at this
  exact this ⟨by simp,.inl ⟨rfl,rfl⟩⟩ fun b hb=>(by cases hb)
 ·have c0:(rdTree s at').e=0:=by omega
  rw [if_pos c0] at hR
  obtain ⟨hr,hf⟩:=rdTree_ok c0
  refine rLengths_ok ow10.sl hlen hr (by omega) fun h14 v15 x14 ow14 hv15=>⟨_,_,rfl,?_⟩
  have w14:=w10.ext x14
  have t14:=w14.top
  obtain ⟨h19,e19,w19,n19,k19⟩:=w14.st (cx:=ctx) 1 (f:=0) (u:=flt 0 0) rfl (by omega) ty26 rfl (Nat.zero_le _) rfl rfl
  have l10':=w10.lt 1 rfl
  have ow19:=ow14.keep (h':=h19) (by omega) fun b hb=>k19 b (by have:=hv15 b hb; omega)
  refine ⟨h19,e19,endL.ok (leaveL.cell (a:=6) (w19.ldA 1 rfl ty26 rfl rfl) rfl) ?_⟩
  have:=hq h19 v15 (w19.ex0.mono (by omega))
  rw [← hR] at this
  exact this ow19.sl fun b hb=>by have:=hv15 b hb; have:=w10.le; omega
set_option maxRecDepth 100000 in
theorem sameInts_ok {v w:V} {l:List Int} {h:H} {Q:V→H→Prop} (sl:Sl h v 1 l.length (ints l)) (sw:Sl h w 1 l.length (ints l)) (hl:l.length<4611686018427387904) (hn:h.next≤T.top) (hlow:h.low≤T.top) (hq:Q (.bool true) h) :
  RF P ctx 12 [v,w] h Q:=by
 refine RF.enterS ctx_ok fn12 (ble _ _ rfl) (ble _ _ rfl) vb12 ⟨_,sl.len ty23 rfl,_,sw.len ty23 rfl,fun q=>absurd rfl q,fun _=>Has.nil.on fun tm hs=>?_⟩
 refine wpC.round (fun k tm h'=>∃ i:Nat,i≤l.length∧k=l.length-i∧h'=h∧Has tm [(5,.int .i64 i),(0,v),(1,w)]) l.length ⟨0,by omega,by omega,rfl,hs.sub (by kernel_rfl)⟩ ?_
 clear hs
 rintro k tm h' ⟨i,h1,rfl,rfl,hs⟩
 refine wpC.at hs vl12_0 rfl rfl ⟨_,sl.len ty23 rfl,fun c=>?_,fun c=>hs.on fun tm' hs'=>?_⟩
 ·have hi:i<l.length:=by omega
  have hg:l[i]? = some l[i]:=List.getElem?_eq_getElem hi
  obtain ⟨b,o,e1,e2⟩:=sl.at1 (u:=.int .i64 l[i]) hi ty23 rfl ty3 rfl rfl (by rw [List.getElem?_map,hg]; rfl)
  obtain ⟨b2,o2,e3,e4⟩:=sw.at1 (u:=.int .i64 l[i]) hi ty23 rfl ty3 rfl rfl (by rw [List.getElem?_map,hg]; rfl)
  have e:w64 ((i:Int)+1)=((i+1:Nat):Int):=by rw [w64_id (by omega) (by omega)]; rfl
  refine ⟨⟨hn,hlow⟩,b,o,e1,_,e2,b2,o2,e3,_,e4,fun q=>absurd rfl q,fun _=>hs.on fun tm' hs'=>⟨rfl,rfl,l.length-(i+1),by omega,i+1,by omega,rfl,rfl,?_⟩⟩
  rw [← e]; exact hs'.sub (by kernel_rfl)
 ·refine thenC.left (wpS.at hs' vr12_1 rfl rfl (hs'.on fun tm2 hs2=>endW.r1 (hs2.get rfl) hq))
end Go.Proofs.YtnpeieeomokomaaGreat
namespace Go.Proofs.YtnpeieeomokomaaGreat
open Go.Sim
theorem fn9_some:(ctx.fn.get 9).isSome=true:=by kernel_rfl
theorem awake_ok {h:H} {Q:V→H→Prop} (hq:Q (.bool true) h):RF P ctx 9 [] h Q:=by
 obtain ⟨h',e⟩:=saysTrue_iff awake_run
 have s:SimF P 9 [] H0 (.ret (.bool true) h'):=X.sound ctx_ok orc_ok e
 exact ⟨_,h,⟨Option.isSome_iff_exists.1 fn9_some,s.frame⟩,hq⟩
theorem _root_.Go.Sim.Sl.keep {h h':H} {v:V} {esz n:Nat} {xs:List V} (s:Sl h v esz n xs) (hn:h.next≤h'.next) (hg:∀ b,vblk v=some b→h'.get b=h.get b):Sl h' v esz n xs:=by
 obtain ⟨h1,h2⟩:=s
 refine ⟨h1,h2.imp id ?_⟩
 rintro ⟨b,o,cp,cs,k,w,op,rfl,h3,h4,h5⟩
 exact ⟨b,o,cp,cs,k,w,op,rfl,Nat.lt_of_lt_of_le h3 hn,by rw [hg b rfl]; exact h4,h5⟩
theorem eqF_self (a:Int):eqF a a=true:=by rw [eqF_eq]; simp
theorem flt_eql (x y:Nat) (a b c d:Int):abin ctx .eql 26 (t x) (t y) (.agg [.int .i64 a,.int .i64 b]) (.agg [.int .i64 c,.int .i64 d])=(match (match some (eqF a c) with | some true=>(match some (eqF b d) with | some true=>some true | r=>r) | r=>r) with | some r=>some (.bool r) | none=>none):=by kernel_rfl
theorem flt_neq (x y:Nat) (a b c d:Int):abin ctx .neq 26 (t x) (t y) (.agg [.int .i64 a,.int .i64 b]) (.agg [.int .i64 c,.int .i64 d])=(match (match some (eqF a c) with | some true=>(match some (eqF b d) with | some true=>some true | r=>r) | r=>r) with | some r=>some (.bool (!r)) | none=>none):=by kernel_rfl
set_option maxRecDepth 100000 in
set_option maxHeartbeats 1000000 in
theorem reads_all {s:List UInt8} {a:Int} {h:H} {Q:V→H→Prop} (hn:h.next+12000≤T.top) (hlow:h.low≤T.top) (hq:∀ h',Q (.bool true) h'):RF P ctx 3 [.str s,.int .i64 a] h Q:=by
 refine RF.enterS ctx_ok fn3 (ble _ _ rfl) (ble _ _ rfl) vb3 ⟨fun _=>awake_ok ⟨true,rfl,fun _=>hq _,fun g=>(by cases g)⟩,fun c=>?_⟩
 have hs:s.length≤200:=by have:¬ (200:Int)<(s.length:Int):=c; omega
 have hl:=rdTree_len s a
 refine treeRead_ok (by omega) (by omega) hlow fun h4 v5 x4 ow5 _=>⟨_,_,_,_,rfl,?_⟩
 have t4:=x4.top
 refine ⟨by omega,?_⟩
 rintro p9 h10 rfl e10
 have w10:=((Vw.nil (S:=none0) (h:=h)).ext x4).new e10 (by omega)
 obtain ⟨_,x10,_⟩:=made_new e10 (by omega)
 have t10:=w10.top
 obtain ⟨h11,e11,w11,n11,k11⟩:=w10.st (cx:=ctx) 0 (f:=0) (u:=flt (rdTree s a).e (rdTree s a).fat) rfl (by omega) ty26 rfl (Nat.zero_le _) rfl rfl
 have l11:=w11.low
 have ow11:=(ow5.ext x10).keep (h':=h11) (by omega) fun b hb=>k11 b (by have:=ow5.blk hb; omega)
 refine ⟨h11,e11,rTreeRead_ok (by omega) (by omega) (by omega) fun h13 v14 x13 ow13 _=>⟨_,_,_,_,rfl,?_⟩⟩
 have w13:=w11.ext x13
 have t13:=w13.top
 refine ⟨by omega,?_⟩
 rintro p18 h19 rfl e19
 have w19:=w13.new e19 (by omega)
 obtain ⟨_,x19,_⟩:=made_new e19 (by omega)
 have t19:=w19.top
 obtain ⟨h20,e20,w20,n20,k20⟩:=w19.st (cx:=ctx) 0 (f:=0) (u:=flt (rdTree s a).e (rdTree s a).fat) rfl (by omega) ty26 rfl (Nat.zero_le _) rfl rfl
 have t20:=w20.top
 have l20:=w20.low
 have ow20:=((ow11.ext x13).ext x19).keep (h':=h20) (by omega) fun b hb=>k20 b (by have:=(ow11.ext x13).blk hb; omega)
 have owr20:=(ow13.ext x19).keep (h':=h20) (by omega) fun b hb=>k20 b (by have:=ow13.blk hb; omega)
 refine ⟨h20,e20,sameInts_ok ow20.sl owr20.sl (by omega) (by omega) (by omega) ⟨true,rfl,fun _=>⟨fun q=>absurd rfl q,fun _=>⟨_,_,w20.ldA 1 rfl ty26 rfl rfl,_,_,w20.ldA 0 rfl ty26 rfl rfl,false,by rw [flt_neq,eqF_self,eqF_self]; rfl,fun g=>(by cases g),fun _=>Has.nil.on fun tm hs0=>?_⟩⟩,fun g=>(by cases g)⟩⟩
 refine wpS.at hs0 vr3_0 rfl rfl (treeLengths_ok (by omega) (by omega) (by omega) fun h21 v2 x21 s21 hv2=>⟨_,_,_,_,rfl,?_⟩)
 have w21:=w20.ext x21
 have t21:=w21.top
 obtain ⟨h22,e22,w22,n22,k22⟩:=w21.st (cx:=ctx) 1 (f:=0) (u:=flt (rdLens s a).e (rdLens s a).fat) rfl (by omega) ty26 rfl (Nat.zero_le _) rfl rfl
 have l22:=w22.low
 refine ⟨h22,e22,rTreeLengths_ok (by omega) (by omega) (by omega) fun h23 v9 x23 s23 hv9=>⟨_,_,_,_,rfl,?_⟩⟩
 have w23:=w22.ext x23
 have t23:=w23.top
 obtain ⟨h24,e24,w24,n24,k24⟩:=w23.st (cx:=ctx) 0 (f:=0) (u:=flt (rdLens s a).e (rdLens s a).fat) rfl (by omega) ty26 rfl (Nat.zero_le _) rfl rfl
 have l24:=w24.low
 have hll:(rdLens s a).l.length<4611686018427387904:=by
  unfold rdLens
  split
  ·show (lens _).length<_; rw [lens_len]; omega
  ·show 0<_; omega
 have b1:h4.next<h20.next:=w20.lt 1 rfl
 have b2:h13.next<h20.next:=w20.lt 0 rfl
 have b3:=w22.le
 have b4:=x21.le
 have sA:Sl h24 v2 1 (rdLens s a).l.length (ints (rdLens s a).l):=((s21.keep (h':=h22) (by omega) fun b hb=>k22 b (by have:=hv2 b hb; omega)).ext x23).keep (by omega) fun b hb=>k24 b (by have:=hv2 b hb; omega)
 have sB:Sl h24 v9 1 (rdLens s a).l.length (ints (rdLens s a).l):=s23.keep (by omega) fun b hb=>k24 b (by have:=hv9 b hb; omega)
 refine ⟨h24,e24,sameInts_ok sA sB hll (by omega) (by omega) ⟨true,rfl,fun _=>⟨fun _=>⟨_,_,w24.ldA 1 rfl ty26 rfl rfl,_,_,w24.ldA 0 rfl ty26 rfl rfl,true,by rw [flt_eql,eqF_self,eqF_self],fun _=>awake_ok ⟨true,rfl,fun _=>hs0.on fun tm2 hs2=>endW.r1 (hs2.get rfl) (hq _),fun g=>(by cases g)⟩,fun g=>(by cases g)⟩,fun q=>absurd rfl q⟩,fun g=>(by cases g)⟩⟩
end Go.Proofs.YtnpeieeomokomaaGreat
namespace Go.Proofs.YtnpeieeomokomaaGreat
open Go.Sim Go.ChangeShapes Go.WideShapes Go.ChangeAt Go.RowKit
set_option maxRecDepth 100000 in
theorem laidOut:laidOutB Tryz.prog=true:=by kernel_rfl
set_option maxRecDepth 100000 in
theorem treeReads_any {W:World} {base:Nat} {v0 v1:Value} (w0:Value.okWide Tryz.prog W .any base 9 v0) (w1:Value.okWide Tryz.prog W .any base 3 v1) :
  Calls Tryz.prog 3 #[v0,v1] W fun e W'=>e = .returned (.bool true)∧Below W.heap.size W W':=by
 obtain ⟨s,rfl⟩:=okWide_string Tryz.underlying9 w0
 obtain ⟨a,rfl⟩:=okWide_int Tryz.underlying3 w1
 obtain ⟨r,h',⟨_,sf⟩,rfl⟩:=reads_all (a:=a) (s:=s.data.toList) (h:=H0) (Q:=fun r _=>r = .bool true) (of_decide_eq_true (by kernel_rfl)) (Nat.le_refl _) fun _=>rfl
 have k:=sf.says (fun q hq=>by
  simp only [List.mem_cons,List.not_mem_nil,or_false] at hq
  rcases hq with rfl | rfl
  ·exact (plain_str _).2 _
  ·exact (plain_int _ _).2 _) W
 simpa [V.conc] using k
set_option maxRecDepth 100000 in
theorem treeReads_lifted (os:Os) (started:os.Started) (H:Type) (enc:TypeId×Value→H) :
  ReturnsInHanded {} Tryz.checked os 3 .any (Rows.treeReadsSpec.pre6 enc Tryz.prog Tryz.f3 Rows.treeReadsRow.domain false) (Rows.treeReadsSpec.post enc Tryz.prog Tryz.f3 false true false false):=by
 refine returnsInHanded_of_change (C:=Tryz.checked) own started (by kernel_rfl) Tryz.func3
  (ChangeSpec.witness6 (enc:=enc) (C:=Tryz.checked) false ⟨#[],#[.string ⟨#[]⟩,.int .i64 0],[]⟩ 8 (by kernel_rfl) (by kernel_rfl) (by kernel_rfl) (by kernel_rfl)) ?_
 intro W base args ds gs before hval0 hW _ _
 have hval:∀ (j:Nat) t v,Tryz.f3.params[j]? = some t→args[j]? = some v→Value.okWide Tryz.prog W .any base t v:=hval0
 have hW':=hW
 obtain ⟨p,q,hA0,hV,rfl,_,_⟩:=hW
 have hA:DataW.TrodAll enc Tryz.prog W 0 (fun _=>true) true Tryz.f3.params.toList args.toList ds p:=hA0
 rw [Tryz.params3] at hA hval
 obtain ⟨v0,v1,d0,d1,p0,p1,rfl,rfl,rfl,h0,h1⟩:=trodAll_two hA
 obtain ⟨rfl,rfl⟩:=trodVars_none hV
 refine (treeReads_any (hval 0 9 v0 rfl rfl) (hval 1 3 v1 rfl rfl)).mono fun e W' ⟨he,hb⟩=>⟨_,he,?_⟩
 exact post_same laidOut (by rw [Tryz.params3]; kernel_rfl) hW' hb rfl Tryz.underlying4 rfl rfl (by exact (rfl:([]:List MemPlace)=[]))
theorem treeReads_joined:joinedFacts Tryz.prog 3 Tryz.f3 Rows.treeReadsSpec Rows.treeReadsRow=true:=by kernel_rfl
theorem treeReads_named:Tryz.prog.funcNamed Rows.treeReadsRow.func=some 3:=by kernel_rfl
theorem treeReads_inst:Tryz.f3.isInstance Tryz.prog Rows.treeReadsRow.origin Rows.treeReadsRow.targs:=of_decide_eq_true (by kernel_rfl)
theorem treeReads_wrap:Tryz.f3.isWrapper Tryz.prog Rows.treeReadsRow.wrapper Rows.treeReadsRow.mainSum:=by unfold Func.isWrapper; first | (rw [if_pos (by decide +kernel)]; kernel_rfl) | (rw [if_neg (by decide +kernel)]; exact ⟨rfl,rfl⟩)
theorem treeReads_holds:Rows.TreeReadsSaid :=
 OpenClaim.holds_of_wide 3 Tryz.f3 rfl rfl rfl rfl rfl rfl rfl ⟨rfl,rfl,rfl,rfl,rfl⟩ rfl rfl rfl rfl rfl treeReads_named Tryz.func3 treeReads_joined treeReads_inst treeReads_wrap
  (fun os started H enc _=>treeReads_lifted os started H enc)
end Go.Proofs.YtnpeieeomokomaaGreat
