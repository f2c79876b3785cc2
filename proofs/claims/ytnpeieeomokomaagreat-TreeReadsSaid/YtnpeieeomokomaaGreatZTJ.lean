/- TJ. No condition. -/
import Derived.Test.YtnpeieeomokomaaGreatZTI
namespace Go.Proofs.YtnpeieeomokomaaGreat
open Go.Sim
section
variable {cx:Ctx}
theorem asNat_n (n:Nat):asNatI (n:Int)=some n:=rfl
theorem _root_.Go.Sim.Ow.full {h:H} {v:V} {te ti:TI} {n t e:Nat} {xs:List V} (s:Ow h v te n xs) (hn:0<n) (ht:cx.ty.get t=some ti) (hd:ti.desc = .slice e) (he:cx.ty.get e=some te) (h0:0<te.size) :
  ∃ b,aslice cx t h v none (some (.int .i64 (n:Nat))) (some (.int .i64 (n:Nat)))=some (.slice b 0 n (.exact n))∧vblk v=some b∧Sl h (.slice b 0 n (.exact n)) te.size n xs:=by
 obtain ⟨h1,⟨rfl,hz⟩ | ⟨b,cs,rfl,hb,hg,hw,hl,hc⟩⟩:=s
 ·omega
 ·refine ⟨b,?_,rfl,h1,.inr ⟨b,0,_,cs,_,_,_,rfl,hb,hg,fun i hi=>by rw [Nat.zero_add]; exact hc i hi⟩⟩
  unfold aslice
  simp only [ht,hd,he,hg]
  have e1:Nat.beq (rkOf te).n te.size=true:=Nat.beq_refl _
  have e2:Nat.blt 0 (rkOf te).n=true:=(blt_iff _ _).2 h0
  have e3:Nat.beq 0 (0*(rkOf te).n)=true:=by rw [Nat.zero_mul]; rfl
  have e4:Nat.ble (n*(rkOf te).n) cs.len=true:=Nat.ble_eq_true_of_le (by rw [hl]; exact Nat.le_refl _)
  have e5:Nat.ble n n=true:=Nat.ble_eq_true_of_le (Nat.le_refl _)
  simp only [e1,e2,e3,e4,Bool.and_self,cond_true,Option.isNone_some,cond_false,Go.Sim.bnd,asNat_n,e5,Nat.zero_mul,Nat.zero_add,Nat.sub_zero]
  cases Nat.beq n 0 <;> rfl
theorem _root_.Go.Sim.Sl.appFull {h:H} {x:V} {te ti:TI} {b n m t e:Nat} {xs ys:List V} (s:Sl h (.slice b 0 n (.exact n)) te.size n xs) (hn0:0<n) (hx:Sl h x te.size m ys) (hm:0<m) (ht:cx.ty.get t=some ti) (hd:ti.desc = .slice e) (he:cx.ty.get e=some te) (hok:teOk te=true)
  (ho:allOne ys=true) (hsz:(n+m)*te.size≤262143) (hby:(n+m)*te.bytes≤1099511627776) (hn:h.next<T.top) :
  ∃ v' h',aappend cx t h (.slice b 0 n (.exact n)) x=some (v',h')∧Ow h' v' te (n+m) (xs++ys)∧Ext h h' 1∧vblk v'=some h.next:=by
 have hs0:0<te.size:=by
  unfold teOk at hok
  simp only [Bool.and_eq_true] at hok
  exact (blt_iff _ _).1 hok.1.1
 have hap:aappend cx t h (.slice b 0 n (.exact n)) x=Go.Sim.appTo te h m ys (.slice b 0 n (.exact n)):=by
  unfold aappend
  rw [ht]
  simp only [hd,he,hok,cond_true,hx.src hs0 hm]
 have hmul:(n+m)*te.size=n*te.size+m*te.size:=Nat.add_mul _ _ _
 obtain ⟨h0,⟨hv,_⟩ | ⟨b',o,cp,cs,k,w,op,hv,hb,hg,hc⟩⟩:=s
 ·cases hv
 ·cases hv
  obtain ⟨cs',h1,h2⟩:=Cs.ofL_some (l:=xs++ys) (by rw [List.length_append,h0,hx.1]; omega)
  obtain ⟨h3,h4⟩:=Cs.ofL_eq h1
  refine ⟨.slice h.next 0 (n+m) (.skip 0),h.new (.cells cs' (rkOf te) true true),?_,⟨by rw [List.length_append,h0,hx.1,hmul],.inr ⟨h.next,cs',rfl,by rw [new_next]; omega,get_new_self _ hn,h2,by rw [h3,List.length_append,h0,hx.1,hmul],fun i _=>h4 i⟩⟩,Ext.new _ hn,rfl⟩
  rw [hap]
  unfold Go.Sim.appTo
  simp only [hg]
  unfold appExact
  have e1:Nat.ble (n+m) n=false:=by
   cases hb:Nat.ble (n+m) n with
   | false=>rfl
   | true=>have:=Nat.le_of_ble_eq_true hb; omega
  rw [e1,cond_false]
  have e2:appR cs 0 (n*te.size) ys=some cs':=by
   unfold appR
   rw [Cs.range_is (Nat.mul_pos hn0 hs0) h0 (fun i hi=>hc i hi)]
   simp only [ho,cond_true,h1]
  rw [e2]
  exact growNew_is hby hn
end
theorem slice_room {h:H} {p n:Nat} (hn:n≤256):aslice ctx 206 h (.ptr p 0) none (some (.int .i64 (n:Nat))) (some (.int .i64 (n:Nat)))=some (.slice p 0 n (.exact n)):=by
 unfold aslice
 have e5:Nat.ble n n=true:=Nat.ble_eq_true_of_le (Nat.le_refl _)
 have e6:Nat.ble n 256=true:=Nat.ble_eq_true_of_le hn
 simp only [ty206,ty3,Go.Sim.bnd,asNat_n,e5,e6,cond_true,Option.isNone_some,Bool.and_false,cond_false,Nat.zero_mul,Nat.zero_add,Nat.sub_zero]
 cases Nat.beq n 0 <;> rfl
theorem room256_is:∃ cs,cond (allOne (V.cells (.agg (List.replicate 256 (.int .i64 (0:Int)))))) (Cs.ofL (V.cells (.agg (List.replicate 256 (.int .i64 (0:Int)))))) none=some cs∧Row cs 256 (ints (List.replicate 256 0)):=by
 obtain ⟨cs,h1,h2⟩:=Cs.ofL_some (l:=List.replicate 256 (.int .i64 (0:Int))) (by rw [List.length_replicate]; decide)
 obtain ⟨h3,h4⟩:=Cs.ofL_eq h1
 have e1:V.cells (.agg (List.replicate 256 (.int .i64 (0:Int))))=List.replicate 256 (.int .i64 (0:Int)):=by kernel_rfl
 have e2:allOne (List.replicate 256 (.int .i64 (0:Int)))=true:=by kernel_rfl
 refine ⟨cs,by rw [e1,e2,cond_true,h1],h2,by rw [h3,List.length_replicate],by rw [ints_repl,List.length_replicate],fun i _=>by rw [h4,ints_repl]⟩
theorem set_rep {l:List Int} {i n:Nat} (hl:l.length=i) (hi:i<n) (y:Int):(l++List.replicate (n-i) 0).set i y=(l++[y])++List.replicate (n-(i+1)) 0:=by
 obtain ⟨k,hk⟩:∃ k,n-i=k+1:=⟨n-i-1,by omega⟩
 rw [hk,show n-(i+1)=k by omega,List.replicate_succ,List.set_append_right i y (by omega),hl,Nat.sub_self]
 simp
theorem rep_next {l:List Int} {i n:Nat} (hi:i<n):l++List.replicate (n-i) 0=(l++[0])++List.replicate (n-(i+1)) 0:=by
 obtain ⟨k,hk⟩:∃ k,n-i=k+1:=⟨n-i-1,by omega⟩
 rw [hk,show n-(i+1)=k by omega,List.replicate_succ]
 simp
set_option maxRecDepth 100000 in
theorem turned_ok {v:V} {l:List Int} {m:Nat} {h:H} {Q:V→H→Prop} (sl:Sl h v 1 l.length (ints l)) (hl:l.length≤256) (hx:∀ x∈l,-1000000≤x∧x≤1000000) (hm:m≤1000000) (hn:h.next+1≤T.top)
  (hq:∀ h' v',Ext h h' 1→Sl h' v' 1 l.length (ints (trn m l))→(∃ b cs k op,v' = .slice b 0 l.length (.exact l.length)∧h.next≤b∧h'.get b=some (.cells cs k true op))→Q v' h'):RF P ctx 91 [v,.int .i64 m] h Q:=by
 obtain ⟨cs0,er,row0⟩:=room256_is
 refine RF.enterS ctx_ok fn91 (ble _ _ rfl) (ble _ _ rfl) vb91 (wpCs_some er ⟨by omega,?_⟩)
 rintro p0 h1 rfl e1
 have w1:=(Vw.nil (S:=none0) (h:=h)).new e1 (by omega)
 have t1:=w1.top
 have s1:=sl.ext w1.ex0
 refine ⟨_,s1.len ty23 rfl,_,s1.len ty23 rfl,_,slice_room hl,_,s1.len ty23 rfl,Has.nil.on fun tm hs=>?_⟩
 refine wpC.round (fun k tm h'=>∃ (i:Nat) (cs:Cs),i≤l.length∧k=l.length-i∧Vw none0 h h' 1 [(h.next,.cells cs ⟨0,206+1,0⟩ true false)]∧Row cs 256 (ints (trn m (l.take i)++List.replicate (256-i) 0)) ∧
  Has tm [(16,.int .i64 i),(15,.int .i64 l.length),(14,v),(6,.slice h.next 0 l.length (.exact l.length)),(1,.int .i64 m)]) l.length ⟨0,cs0,by omega,by omega,w1,row0,hs.sub (by kernel_rfl)⟩ ?_
 clear hs s1 w1 t1 e1 h1
 rintro k tm h' ⟨i,cs,hi1,rfl,w,row,hs⟩
 have tw:=w.top
 refine wpC.at hs vl91_0 rfl rfl ⟨fun c=>?_,fun c=>hs.on fun tm' hs'=>?_⟩
 ·have hil:i<l.length:=by omega
  have hg:l[i]? = some l[i]:=List.getElem?_eq_getElem hil
  obtain ⟨b,o,a1,a2⟩:=(sl.ext w.ex0).at1 (u:=.int .i64 l[i]) hil ty23 rfl ty3 rfl rfl (by rw [List.getElem?_map,hg]; rfl)
  have hb:=hx l[i] (List.getElem_mem hil)
  have htk:trn m (l.take (i+1))=trn m (l.take i)++[if l[i]≠0 then (m:Int)+1-l[i] else 0]:=by
   rw [List.take_add_one,hg]
   unfold trn
   rw [List.map_append]
   rfl
  have htl:(trn m (l.take i)).length=i:=by rw [trn_len,List.length_take]; omega
  generalize l[i]=x at a2 hb htk
  have e:w64 ((i:Int)+1)=((i+1:Nat):Int):=by rw [w64_id (by omega) (by omega)]; rfl
  refine ⟨b,o,a1,x,a2,fun c2=>?_,fun c2=>hs.on fun tm' hs'=>?_⟩
  ·rw [if_pos c2] at htk
   have ex:w64 (w64 ((m:Int)+1)-x)=(m:Int)+1-x:=by rw [w64_id (n:=(m:Int)+1) (by omega) (by omega),w64_id (by omega) (by omega)]
   obtain ⟨h2,cs2,e2,row2,w2,n2⟩:=w.set (cx:=ctx) 0 (j:=i) (u:=.int .i64 ((m:Int)+1-x)) row rfl (by omega) (by omega) ty3 rfl rfl rfl rfl
   rw [← ints_set,set_rep htl (by omega),← htk] at row2
   refine ⟨h.next,i,aidx_row ty23 rfl ty3 rfl hil,h2,by rw [ex]; exact e2,hs.on fun tm' hs'=>⟨rfl,rfl,l.length-(i+1),by omega,i+1,cs2,by omega,rfl,w2,row2,?_⟩⟩
   rw [← e]; exact hs'.sub (by kernel_rfl)
  ·rw [if_neg c2] at htk
   rw [rep_next (by omega),← htk] at row
   refine ⟨rfl,rfl,l.length-(i+1),by omega,i+1,cs,by omega,rfl,w,row,?_⟩
   rw [← e]; exact hs'.sub (by kernel_rfl)
 ·have hil:i=l.length:=by omega
  subst hil
  rw [List.take_length] at row
  refine thenC.left (wpS.at hs' vr91_1 rfl rfl (hs'.on fun tm2 hs2=>endW.r1 (hs2.get rfl) ?_))
  refine hq h' _ w.ex0 ⟨by rw [ints_len,trn_len,Nat.mul_one],.inr ⟨h.next,0,_,cs,_,_,_,rfl,w.lt 0 rfl,w.get 0 rfl,fun j hj=>?_⟩⟩ ⟨_,cs,_,_,rfl,Nat.le_refl _,w.get 0 rfl⟩
  rw [Nat.zero_add,row.2.2.2 j (by omega),ints_app,List.getElem?_append_left (by rw [ints_len,trn_len]; omega)]
set_option maxRecDepth 100000 in
theorem lengths_ok {v:V} {l:List Int} {h:H} {Q:V→H→Prop} (ow:Ow h v tint l.length (ints l)) (hr:rgtV l=0) (hn:h.next+4≤T.top)
  (hq:∀ h' v',Ext h h' 3→Sl h' v' 1 (l.length+1) (ints (lens l))→(∀ b,vblk v'=some b→h.next≤b)→Q (.tuple [v',.int .i64 0]) h'):RF P ctx 46 [v] h Q:=by
 unfold rgtV at hr
 have c1:¬ (l.length<1∨255<l.length):=fun g=>by rw [if_pos g] at hr; cases hr
 rw [if_neg c1] at hr
 have c2:inB l=true:=by
  by_cases g:inB l=true
  ·exact g
  ·rw [if_neg g] at hr; cases hr
 rw [if_pos c2] at hr
 have c3:wok l:=by
  by_cases g:wok l
  ·exact g
  ·rw [if_neg g] at hr; cases hr
 have hb:nbits (wrest l)≤12:=by
  refine nbits_bound ?_
  have h2:2^nbits (wsum l)≤2^11:=Nat.pow_le_pow_right (by decide) c3.2.1
  unfold wrest
  omega
 have hin:∀ x∈l,0≤x∧x≤11:=fun x hx=>by
  have:=List.all_eq_true.1 c2 x hx
  simpa using this
 refine RF.enterS ctx_ok fn46 (ble _ _ rfl) (ble _ _ rfl) vb46 (implied_ok ow.sl (by omega) ?_)
 unfold impV
 rw [if_neg c1,if_pos c2,if_pos c3]
 obtain ⟨b,e7,_,s7⟩:=ow.full (cx:=ctx) (by omega) ty23 rfl ty3 (by decide)
 obtain ⟨v8,h9,e8,s8,x9⟩:=build1i (h:=h) ((nbits (wrest l):Nat):Int) (by omega)
 have t9:=x9.top
 obtain ⟨v10,h11,e10,ow10,x11,_⟩:=(s7.ext x9).appFull (cx:=ctx) (m:=1) (by omega) s8 (by decide) ty23 rfl ty3 rfl rfl (by show (l.length+1)*1≤_; omega) (by show (l.length+1)*8≤_; omega) (by omega)
 have t11:=x11.top
 refine ⟨_,_,_,rfl,fun q=>absurd rfl q,fun _=>⟨_,ow.sl.len ty23 rfl,_,ow.sl.len ty23 rfl,_,e7,v8,h9,e8,trivial,v10,h11,e10,?_⟩⟩
 have el:(l++[((nbits (wrest l):Nat):Int)]).length=l.length+1:=by simp
 refine turned_ok (l:=l++[((nbits (wrest l):Nat):Int)]) (by rw [el,ints_app]; exact ow10.sl) (by rw [el]; omega) (fun x hx=>?_) (by have:=c3.2.1; omega) (by omega) fun h13 v14 x13 s14 hb14=>⟨_,rfl,?_⟩
 ·rcases List.mem_append.1 hx with hx | hx
  ·have:=hin x hx; omega
  ·rw [List.mem_singleton.1 hx]; omega
 ·rw [el] at s14
  refine hq h13 v14 ((x9.trans (x11.trans x13)).mono (by omega)) s14 fun b hb=>?_
  obtain ⟨b',_,_,_,rfl,hb',_⟩:=hb14
  cases hb
  have:=x9.le
  have:=x11.le
  omega
end Go.Proofs.YtnpeieeomokomaaGreat
namespace Go.Proofs.YtnpeieeomokomaaGreat
open Go.Sim
theorem fa_place0 {p o:Nat} {h:H} {k:V→H→Prop}:wpFA ctx 103 0 h (.ptr p o) k=k (.ptr p (o+0)) h:=by kernel_rfl
theorem fa_place1 {p o:Nat} {h:H} {k:V→H→Prop}:wpFA ctx 103 1 h (.ptr p o) k=k (.ptr p (o+1)) h:=by kernel_rfl
theorem fa_read0 {p o:Nat} {h:H} {k:V→H→Prop}:wpFA ctx 105 0 h (.ptr p o) k=k (.ptr p (o+0)) h:=by kernel_rfl
theorem fa_read1 {p o:Nat} {h:H} {k:V→H→Prop}:wpFA ctx 105 1 h (.ptr p o) k=k (.ptr p (o+2)) h:=by kernel_rfl
abbrev oRg (s:List UInt8) (a:Nat) (v:V):O:=.cells (.ls [.str s,.int .i64 a,v]) ⟨0,105+1,0⟩ true false
theorem nilDr {h:H} (hn:h.next≤T.top) (hl:h.low≤T.top) {K:H→Prop} (hk:K h):∀ h2,h2=lowM h (topH h)→K h2:=by
 intro h2 e2
 rw [(low_id hn hl).2] at e2
 subst e2
 exact hk
theorem placeLeft_ok {s:List UInt8} {p a:Nat} {v:V} {h:H} {Q:V→H→Prop} (hg:h.get p=some (oRg s a v)) (hs:s.length≤1000000) (ha:a≤s.length) (hn:h.next≤T.top) (hl:h.low≤T.top) (hq:Q (.int .i64 (s.length-a:Nat)) h):RF P ctx 77 [.ptr p 0] h Q:=by
 refine RF.enterS ctx_ok fn77 (ble _ _ rfl) (ble _ _ rfl) vb77 ⟨⟨hn,hl⟩,.ptr p 0,topH h,rfl,(low_id hn hl).1,nilDr hn hl ?_⟩
 rw [fa_place0]
 refine ⟨s,ald_one ty9 rfl hg rfl,.ptr p 0,topH h,rfl,(low_id hn hl).1,nilDr hn hl ?_⟩
 rw [fa_place1]
 refine ⟨a,ald_one ty3 rfl hg rfl,?_⟩
 rw [show w64 (Int.ofNat s.length-(a:Int))=((s.length-a:Nat):Int) by rw [show Int.ofNat s.length=(s.length:Int) from rfl,w64_id (by omega) (by omega)]; omega]
 exact hq
theorem placeNext_ok {s:List UInt8} {p a:Nat} {b:UInt8} {v:V} {h:H} {Q:V→H→Prop} (hg:h.get p=some (oRg s a v)) (hp:p<h.next) (hs:s.length≤1000000) (ha:s[a]? = some b) (hn:h.next≤T.top) (hl:h.low≤T.top)
  (hq:∀ h',ExtX (· = p) h h' 0→h'.get p=some (oRg s (a+1) v)→Q (.int .i64 (b.toNat:Nat)) h'):RF P ctx 78 [.ptr p 0] h Q:=by
 have hal:=(List.getElem?_eq_some_iff.1 ha).1
 have w:=Vw.one (S:=(· = p)) hg hp rfl
 refine RF.enterS ctx_ok fn78 (ble _ _ rfl) (ble _ _ rfl) vb78 ⟨.ptr p 0,h,rfl,?_⟩
 rw [fa_place1]
 refine ⟨a,w.ld1 0 rfl ty3 rfl rfl,.ptr p 0,h,rfl,?_⟩
 rw [fa_place1]
 have e:w64 ((a:Int)+1)=((a+1:Nat):Int):=by rw [w64_id (by omega) (by omega)]; rfl
 obtain ⟨h9,e9,w9,n9,_⟩:=w.st (cx:=ctx) 0 (f:=0+1) (u:=.int .i64 (a+1:Nat)) rfl hn ty3 rfl (Nat.zero_le _) rfl rfl
 have hn9:h9.next≤T.top:=by omega
 have hl9:h9.low≤T.top:=Nat.le_trans w9.low hl
 refine ⟨h9,by rw [e]; exact e9,⟨hn9,hl9⟩,.ptr p 0,topH h9,rfl,(low_id hn9 hl9).1,nilDr hn9 hl9 ?_⟩
 rw [fa_place0]
 refine ⟨s,w9.ld1 0 rfl ty9 rfl rfl,.ptr p 0,topH h9,rfl,(low_id hn9 hl9).1,nilDr hn9 hl9 ?_⟩
 rw [fa_place1]
 refine ⟨_,w9.ld1 0 rfl ty3 rfl rfl,(b.toNat:Nat),?_,?_⟩
 ·rw [show w64 (((a+1:Nat):Int)-1)=(a:Int) by rw [w64_id (by omega) (by omega)]; omega]
  exact index_str ha
 ·have hb:=b.toNat_lt
  rw [w64n (by omega)]
  exact hq h9 w9.ex (w9.get 0 rfl)
theorem _root_.Go.Sim.Sep.head {S:Nat→Prop} {b0 p:Nat} {o o':O} {l:List (Nat×O)} {v:V} (s:Sep S b0 ((p,o) :: l) v):Sep S b0 ((p,o') :: l) v:=s.less fun q hq=>by
 rcases List.mem_cons.1 hq with rfl | hq
 ·exact ⟨_,List.mem_cons_self ..,rfl⟩
 ·exact ⟨q,List.mem_cons_of_mem _ hq,rfl⟩
set_option maxRecDepth 100000 in
set_option maxHeartbeats 1000000 in
theorem half_ok {S:Nat→Prop} {hb h:H} {c p a:Nat} {rest:List (Nat×O)} {s:List UInt8} {b:UInt8} {v:V} {l:List Int} {many:Int} {Q:V→H→Prop} (w:Vw S hb h c ((p,oRg s a v) :: rest)) (ow:Ow h v tint l.length (ints l)) (sp:Sep S hb.next ((p,oRg s a v) :: rest) v) (hs:s.length≤1000000) (ha:s[a]? = some b) (hl:l.length≤1000)
  (hn:hb.next+c+5≤T.top) (hlow:hb.low≤T.top)
  (hq:∀ h' v',Vw S hb h' (c+4) ((p,oRg s (a+1) v') :: rest)→Ow h' v' tint (l++((b.toNat/16:Nat):Int) :: (if 1<many then [((b.toNat % 16:Nat):Int)] else [])).length (ints (l++((b.toNat/16:Nat):Int) :: (if 1<many then [((b.toNat % 16:Nat):Int)] else []))) →
   Sep S hb.next ((p,oRg s (a+1) v') :: rest) v'→Q (.tuple []) h'):RF P ctx 79 [.ptr p 0,.int .i64 many] h Q:=by
 have hbt:=b.toNat_lt
 have tw:=w.top
 have lw:=w.low
 refine RF.enterS ctx_ok fn79 (ble _ _ rfl) (ble _ _ rfl) vb79 ⟨.ptr p 0,h,rfl,?_⟩
 rw [fa_read0]
 refine placeNext_ok (w.get 0 rfl) (w.lt 0 rfl) hs ha (by omega) (by omega) fun h5 x5 g5=>⟨_,rfl,.ptr p 0,h5,rfl,?_⟩
 have w5:=w.extX 0 rfl x5 g5
 have ow5:=ow.keep (h':=h5) x5.le fun b' hb'=>x5.get _ (ow.blk hb') fun q=>(sp b' hb').2 _ (List.mem_cons_self ..) q.symm
 have sp5:Sep S hb.next ((p,oRg s (a+1) v) :: rest) v:=sp.head
 have t5:=w5.top
 rw [fa_read1]
 obtain ⟨v13,h14,e13,sl14,x14⟩:=build1i (h:=h5) ((b.toNat/16:Nat):Int) (by omega)
 have w14:=w5.ext x14
 have t14:=w14.top
 obtain ⟨v15,h16,e15,A⟩:=Ow.append (c:=ctx) (te:=tint) (m:=1) (ow5.ext x14) sl14 (by decide) ty23 rfl ty3 rfl rfl (by show (l.length+1)*1≤_; omega) (by show (l.length+1)*8≤_; omega) (by omega)
 obtain ⟨w16,ow16,sp16⟩:=w14.grow (k:=(l++[((b.toNat/16:Nat):Int)]).length) (xs:=ints (l++[((b.toNat/16:Nat):Int)])) sp5 (by rw [ints_app,List.length_append]; exact A)
 have t16:=w16.top
 obtain ⟨h21,e21,w21,n21,k21⟩:=w16.st (cx:=ctx) 0 (f:=0+2) (u:=v15) (cs':=.ls [.str s,.int .i64 (a+1:Nat),v15]) rfl (by omega) ty23 (by rw [ow16.one1.1]; rfl) (Nat.zero_le _) (by rw [ow16.one1.1]; exact ow16.one1.2) (by rw [ow16.one1.1]; rfl)
 have ow21:=ow16.keep (h':=h21) (by omega) fun b' hb'=>k21 b' fun q=>(sp16 b' hb').2 _ (List.mem_cons_self ..) q.symm
 have sp21:Sep S hb.next ((p,oRg s (a+1) v15) :: rest) v15:=sp16.head
 refine ⟨v,w5.ld1 0 rfl ty23 rfl rfl,((b.toNat/2^4:Nat):Int),shrN_i64 (n:=4) (by decide),v13,h14,e13,trivial,v15,h16,e15,.ptr p 0,h16,rfl,?_⟩
 rw [fa_read1]
 refine ⟨h21,e21,fun c1=>⟨.ptr p 0,h21,rfl,?_⟩,fun c1=>?_⟩
 rotate_left
 ·rw [if_neg (by omega)] at hq
  exact hq h21 v15 (w21.more (by omega)) ow21 sp21
 rw [if_pos (by omega)] at hq
 rw [fa_read1]
 have t21:=w21.top
 obtain ⟨v28,h29,e28,sl29,x29⟩:=build1i (h:=h21) ((b.toNat % 16:Nat):Int) (by omega)
 have w29:=w21.ext x29
 have t29:=w29.top
 have el:(l++[((b.toNat/16:Nat):Int)]).length=l.length+1:=by simp
 obtain ⟨v30,h31,e30,A2⟩:=Ow.append (c:=ctx) (te:=tint) (m:=1) (ow21.ext x29) sl29 (by decide) ty23 rfl ty3 rfl rfl (by rw [el]; show (l.length+1+1)*1≤_; omega) (by rw [el]; show (l.length+1+1)*8≤_; omega) (by omega)
 obtain ⟨w31,ow31,sp31⟩:=w29.grow (k:=(l++[((b.toNat/16:Nat):Int),((b.toNat % 16:Nat):Int)]).length) (xs:=ints (l++[((b.toNat/16:Nat):Int),((b.toNat % 16:Nat):Int)])) sp21 (by
  have e1:l++[((b.toNat/16:Nat):Int),((b.toNat % 16:Nat):Int)]=(l++[((b.toNat/16:Nat):Int)])++[((b.toNat % 16:Nat):Int)]:=by simp
  rw [e1,ints_app,List.length_append]; exact A2)
 have t31:=w31.top
 obtain ⟨h36,e36,w36,n36,k36⟩:=w31.st (cx:=ctx) 0 (f:=0+2) (u:=v30) (cs':=.ls [.str s,.int .i64 (a+1:Nat),v30]) rfl (by omega) ty23 (by rw [ow31.one1.1]; rfl) (Nat.zero_le _) (by rw [ow31.one1.1]; exact ow31.one1.2) (by rw [ow31.one1.1]; rfl)
 have ow36:=ow31.keep (h':=h36) (by omega) fun b' hb'=>k36 b' fun q=>(sp31 b' hb').2 _ (List.mem_cons_self ..) q.symm
 refine ⟨v15,w21.ld1 0 rfl ty23 rfl rfl,((b.toNat % 16:Nat):Int),?_,v28,h29,e28,trivial,v30,h31,e30,.ptr p 0,h31,rfl,?_⟩
 ·rw [show b.toNat % 16=b.toNat &&& 15 from (and_mask b.toNat 4).symm]
  exact andN_i64 (a:=b.toNat) (b:=15) (by omega) (by decide)
 rw [fa_read1]
 exact ⟨h36,e36,hq h36 v30 (w36.more (by omega)) ow36 sp31.head⟩
end Go.Proofs.YtnpeieeomokomaaGreat
namespace Go.Proofs.YtnpeieeomokomaaGreat
open Go.Sim
theorem nibs_succ (s:List UInt8) (a n:Nat):nibs s a (n+1)=nibs s a n++[((if n % 2=0 then (s[a+n/2]?.getD 0).toNat/16 else (s[a+n/2]?.getD 0).toNat % 16:Nat):Int)]:=by
 unfold nibs
 rw [List.range_succ,List.map_append]
 rfl
theorem nibs_half {s:List UInt8} {a j many:Nat} {b:UInt8} (hb:s[a+j]? = some b) (hj:2*j<many) :
  nibs s a (min (2*(j+1)) many)=nibs s a (min (2*j) many)++((b.toNat/16:Nat):Int) :: (if (1:Int)<((many-2*j:Nat):Int) then [((b.toNat % 16:Nat):Int)] else []):=by
 rw [show min (2*j) many=2*j by omega]
 have e1:nibs s a (2*j+1)=nibs s a (2*j)++[((b.toNat/16:Nat):Int)]:=by
  rw [nibs_succ,if_pos (by omega),show a+2*j/2=a+j by omega,hb]; rfl
 by_cases c:1<many-2*j
 ·rw [if_pos (by omega),show min (2*(j+1)) many=2*j+1+1 by omega,nibs_succ,e1,if_neg (by omega),show a+(2*j+1)/2=a+j by omega,hb]
  simp
 ·rw [if_neg (by omega),show min (2*(j+1)) many=2*j+1 by omega,e1]
abbrev oFl (e a:Int):O:=.cells (.ls [.int .i64 e,.int .i64 a]) ⟨0,26+1,0⟩ true false
set_option maxRecDepth 100000 in
set_option maxHeartbeats 2000000 in
theorem readDirect_ok {s:List UInt8} {a:Nat} {ch:UInt8} {h:H} {Q:V→H→Prop} (hs:s.length≤1000000) (ha:s[a]? = some ch) (hc:127<ch.toNat) (hn:h.next+400≤T.top) (hlow:h.low≤T.top)
  (hq:∀ h' v',Ext h h' 350→Ow h' v' tint (rdDirect s a ch.toNat).l.length (ints (rdDirect s a ch.toNat).l)→(∀ b,vblk v'=some b→h.next≤b) →
   Q (.tuple [v',.int .i64 ((rdDirect s a ch.toNat).next:Nat),flt (rdDirect s a ch.toNat).e (rdDirect s a ch.toNat).fat]) h') :
  RF P ctx 39 [.str s,.int .i64 a] h Q:=by
 have hal:=(List.getElem?_eq_some_iff.1 ha).1
 have hch:=ch.toNat_lt
 generalize hR:rdDirect s a ch.toNat=R at hq
 unfold rdDirect at hR
 generalize hmany:ch.toNat-127=many at hR
 have bad:∀ e fat,R=⟨[],0,e,fat⟩→∀ h',Ext h h' 350→Q (.tuple [.nilslice,.int .i64 0,flt e fat]) h':=fun e fat he h' x=>by
  subst he
  exact hq h' .nilslice x (Ow.nil _ _) fun b hb=>(by cases hb)
 refine RF.enterS ctx_ok fn39 (ble _ _ rfl) (ble _ _ rfl) vb39 ⟨by omega,?_⟩
 rintro pf h1 rfl e1
 have w1:=(Vw.nil (S:=none0) (h:=h)).new e1 (by omega)
 have t1:=w1.top
 refine ⟨fun c=>by omega,fun _=>⟨fun c=>absurd c (by show ¬ ((s.length:Int)<a); omega),fun _=>Has.nil.on fun tm hs0=>?_⟩⟩
 refine wpS.at hs0 vr39_0 rfl rfl (hs0.on fun tm1 hs1=>thenC.nx (hs1.sealK fun tm2 hs2=>?_))
 clear hs0 hs1
 refine wpS.at hs2 vr39_3 rfl rfl ⟨by omega,?_⟩
 rintro p h3 rfl e3
 have w3:=w1.new e3 (by omega)
 have t3:=w3.top
 have l3:=w3.low
 refine ⟨.ptr h1.next 0,h3,rfl,?_⟩
 rw [fa_read0]
 refine placeLeft_ok (w3.get 0 rfl) hs (by omega) (by omega) (by omega) ⟨_,rfl,fun c=>by omega,fun _=>⟨.ptr h1.next 0,h3,rfl,?_⟩⟩
 rw [fa_read0]
 refine placeNext_ok (w3.get 0 rfl) (w3.lt 0 rfl) hs ha (by omega) (by omega) fun h5 x5 g5=>⟨_,rfl,?_⟩
 have w5:=w3.extX 0 rfl x5 g5
 have t5:=w5.top
 have l5:=w5.low
 have em:w64 (((ch.toNat:Nat):Int)-127)=((many:Nat):Int):=by rw [w64_id (by omega) (by omega)]; omega
 rw [em]
 refine ⟨fun c=>by omega,fun _=>⟨.ptr h1.next 0,h5,rfl,?_⟩⟩
 rw [fa_read0]
 refine placeLeft_ok (w5.get 0 rfl) hs (by omega) (by omega) (by omega) ⟨_,rfl,by decide,?_⟩
 have eh:w64 (Int.tdiv (w64 (((many:Nat):Int)+1)) 2)=(((many+1)/2:Nat):Int):=by
  rw [w64_id (n:=((many:Nat):Int)+1) (by omega) (by omega),show ((many:Nat):Int)+1=((many+1:Nat):Int) from rfl,show Int.tdiv ((many+1:Nat):Int) 2=(((many+1)/2:Nat):Int) from rfl,w64n (by omega)]
 rw [eh]
 refine ⟨fun c=>?_,fun c=>hs2.on fun tm3 hs3=>?_⟩
 ·-- cut off
  obtain ⟨h9,e9,w9,n9,_⟩:=w5.st (cx:=ctx) 1 (f:=0) (u:=.agg [.int .i64 5,.int .i64 s.length]) rfl (by omega) ty26 rfl (Nat.zero_le _) rfl rfl
  refine ⟨h9,e9,hs2.on fun tm3 hs3=>endW.ok (leave.tmp (hs3.get rfl) (leave.tmp (hs3.get rfl) (leave.cell (hs3.get rfl) (w9.ldA 1 rfl ty26 rfl rfl) rfl))) ?_⟩
  refine bad 5 s.length ?_ h9 (w9.ex0.mono (by omega))
  rw [← hR,if_pos (by omega)]
 rw [if_neg (by omega)] at hR
 refine wpC.round (fun k tm h'=>∃ (j:Nat) (v':V),2*j≤many+1∧k=many+1-2*j∧Vw none0 h h' (2+4*j) [(h1.next,oRg s (a+1+j) v'),(h.next,oFl 0 0)]∧Ow h' v' tint (nibs s (a+1) (min (2*j) many)).length (ints (nibs s (a+1) (min (2*j) many)))∧Sep none0 h.next [(h1.next,oRg s (a+1+j) v'),(h.next,oFl 0 0)] v' ∧
  Has tm [(7,.ptr h1.next 0),(8,.int .i64 (many:Nat)),(1,.int .i64 a),(6,.ptr h.next 0)]) (many+1) ⟨0,.nilslice,by omega,rfl,w5,by rw [show nibs s (a+1) (min (2*0) many)=[] by rw [show min (2*0) many=0 by omega]; rfl]; exact Ow.nil _ _,fun b hb=>(by cases hb),hs3.sub (by kernel_rfl)⟩ ?_
 clear hs2 hs3 w5 t5 l5 g5 x5 e3 w3 t3 l3
 rintro k tm h' ⟨j,v',hj1,rfl,w,ow,sp,hs0⟩
 have tw:=w.top
 have lw:=w.low
 have hnl:(nibs s (a+1) (min (2*j) many)).length=min (2*j) many:=nibs_len _ _ _
 refine wpC.at hs0 vl39_1 rfl rfl ⟨.ptr h1.next 0,h',rfl,?_⟩
 rw [fa_read1]
 refine ⟨v',w.ld1 0 rfl ty23 rfl rfl,_,ow.sl.len ty23 rfl,fun c1=>⟨.ptr h1.next 0,h',rfl,?_⟩,fun c1=>hs0.on fun tm' hs'=>?_⟩
 ·rw [fa_read1]
  rw [hnl] at c1
  have hjm:2*j<many:=by omega
  have hb:s[a+1+j]? = some s[a+1+j]:=List.getElem?_eq_getElem (by omega)
  have ew:w64 (((many:Nat):Int)-((nibs s (a+1) (min (2*j) many)).length:Nat))=((many-2*j:Nat):Int):=by rw [hnl,w64_id (by omega) (by omega)]; omega
  refine ⟨v',w.ld1 0 rfl ty23 rfl rfl,_,ow.sl.len ty23 rfl,?_⟩
  rw [ew]
  refine half_ok w ow sp hs hb (by omega) (by omega) (by omega) fun h2 v2 w2 ow2 sp2=>⟨rfl,hs0.on fun tm' hs'=>⟨rfl,rfl,many+1-2*(j+1),by omega,j+1,v2,by omega,rfl,w2.more (by omega),?_,sp2,hs'.sub (by kernel_rfl)⟩⟩
  rw [nibs_half hb hjm]
  exact ow2
 ·rw [hnl] at c1
  have hjm:min (2*j) many=many:=by omega
  rw [hjm] at ow
  have hj2:j=(many+1)/2:=by omega
  refine thenC.left (wpS.at hs' vr39_2 rfl rfl ⟨.ptr h1.next 0,h',rfl,?_⟩)
  rw [fa_read1]
  refine ⟨v',w.ld1 0 rfl ty23 rfl rfl,right_ok ow.sl (by rw [nibs_len]; omega) ⟨_,rfl,fun c2=>?_,fun c2=>⟨⟨by omega,by omega⟩,.ptr h1.next 0,topH h',rfl,(low_id (by omega) (by omega)).1,nilDr (by omega) (by omega) ?_⟩⟩⟩
  ·rw [if_neg c2] at hR
   obtain ⟨h9,e9,w9,n9,_⟩:=w.st (cx:=ctx) 1 (f:=0) (u:=.agg [.int .i64 21,.int .i64 a]) rfl (by omega) ty26 rfl (Nat.zero_le _) rfl rfl
   refine ⟨h9,e9,hs'.on fun tm3 hs3=>hs3.slt fun tm4 hs4=>endW.ok (leave.tmp (hs4.get rfl) (leave.tmp (hs4.get rfl) (leave.cell (hs4.get rfl) (w9.ldA 1 rfl ty26 rfl rfl) rfl))) ?_⟩
   exact bad 21 a hR.symm h9 (w9.ex0.mono (by omega))
  ·rw [if_pos (by omega)] at hR
   rw [fa_read1]
   refine ⟨v',w.ld1 0 rfl ty23 rfl rfl,.ptr h1.next 0,topH h',rfl,(low_id (by omega) (by omega)).1,nilDr (by omega) (by omega) ?_⟩
   rw [fa_read0,fa_place1]
   obtain ⟨h9,e9,w9,n9,k9⟩:=w.st (cx:=ctx) 1 (f:=0) (u:=.agg [.int .i64 0,.int .i64 0]) rfl (by omega) ty26 rfl (Nat.zero_le _) rfl rfl
   refine ⟨_,w.ld1 0 rfl ty3 rfl rfl,h9,e9,hs'.on fun tm3 hs3=>hs3.slt fun tm4 hs4=>endW.ok (leave.tmp (hs4.get rfl) (leave.tmp (hs4.get rfl) (leave.cell (hs4.get rfl) (w9.ldA 1 rfl ty26 rfl rfl) rfl))) ?_⟩
   have:=hq h9 v' (w9.ex0.mono (by omega))
   rw [← hR,← hj2] at this
   exact this (ow.keep (by omega) fun b hb=>k9 b fun q=>(sp b hb).2 _ (List.mem_cons_of_mem _ (List.mem_cons_self ..)) q.symm) fun b hb=>by
    rcases (sp b hb).1 with q | q
    ·exact q.elim
    ·exact q
end Go.Proofs.YtnpeieeomokomaaGreat
