/- TK. No condition. -/
import Derived.Test.YtnpeieeomokomaaGreatZTJ
import Derived.Test.YtnpeieeomokomaaGreatZZ
namespace Go.Proofs.YtnpeieeomokomaaGreat
open Go.Sim
theorem slice_from {s:List UInt8} {x:Nat} {h:H} (h1:x≤s.length):aslice ctx 9 h (.str s) (some (.int .i64 (x:Nat))) none none=some (.str (s.drop x)):=by
 have:=slice_str (s:=s) (h:=h) h1 (Nat.le_refl _)
 have e:sliceS s x s.length=s.drop x:=by
  unfold sliceS
  rw [List.take_of_length_le (by rw [List.length_drop]; exact Nat.le_refl _)]
 rw [e] at this
 rw [← this]
 unfold aslice
 have e3:lenB s 0=s.length:=by rw [lenB_eq]; omega
 simp only [ty9,Go.Sim.bnd,e3]
 have e4:asNatI ((s.length:Nat):Int)=some s.length:=rfl
 simp only [e4,Nat.ble_eq_true_of_le (Nat.le_refl s.length),cond_true]
structure Inn where
 l:List Int
 e:Int
 fat:Nat
def rdInner (b:List UInt8):Inn:=match rdDist b 6 12 with
 | none=>⟨[],if rdAcc b 6 then 31 else 23,0⟩
 | some (log,l,p)=>if (rdTwo log l (b.drop ((p+7)/8))).1≠0 then ⟨[],(rdTwo log l (b.drop ((p+7)/8))).1,(p+7)/8⟩ else ⟨(rdTwo log l (b.drop ((p+7)/8))).2,0,0⟩
set_option maxRecDepth 100000 in
set_option maxHeartbeats 2000000 in
theorem inner_ok {b:List UInt8} {h:H} {Q:V→H→Prop} (hb:b.length≤2000) (hn:h.next+1600≤T.top) (hlow:h.low≤T.top)
  (hq:∀ h' v',Ext h h' 1500→Ow h' v' tint (rdInner b).l.length (ints (rdInner b).l)→(∀ b',vblk v'=some b'→h.next≤b')→Q (.tuple [v',flt (rdInner b).e ((rdInner b).fat:Nat)]) h'):RF P ctx 40 [.str b] h Q:=by
 generalize hR:rdInner b=R at hq
 unfold rdInner at hR
 refine RF.enterS ctx_ok fn40 (ble _ _ rfl) (ble _ _ rfl) vb40 ⟨by omega,?_⟩
 rintro p0 h1 rfl e1
 have w1:=(Vw.nil (S:=none0) (h:=h)).new e1 (by omega)
 have t1:=w1.top
 have l1:=w1.low
 have n1:h1.next=h.next+1:=by rw [e1,new_next]
 refine distRead_ok hb (by omega) (by omega) (fun hz h3 x3=>⟨_,_,_,_,_,rfl,?_⟩) (fun log l p v h3 hz x3 ow3 hv hp hl=>⟨_,_,_,_,_,rfl,?_⟩)
 ·rw [hz] at hR
  simp only at hR
  have w3:=w1.ext x3
  have t3:=w3.top
  refine ⟨by omega,?_⟩
  rintro p9 h10 rfl e10
  have w10:=w3.new e10 (by omega)
  have t10:=w10.top
  obtain ⟨h11,e11,w11,n11,_⟩:=w10.st (cx:=ctx) 0 (f:=0) (u:=.agg [.int .i64 0,.nilslice]) rfl (by omega) ty59 rfl (Nat.zero_le _) rfl rfl
  have t11:=w11.top
  obtain ⟨h12,e12,w12,n12,_⟩:=w11.st (cx:=ctx) 1 (f:=0) (u:=.agg [.int .i64 (if rdAcc b 6 then 31 else 23),.int .i64 0]) rfl (by omega) ty26 rfl (Nat.zero_le _) rfl rfl
  have l12:=w12.low
  have t12:=w12.top
  obtain ⟨h16,e16,w16,n16,_⟩:=w12.st (cx:=ctx) 1 (f:=0) (u:=.agg [.int .i64 (if rdAcc b 6 then 31 else 23),.int .i64 0]) rfl (by omega) ty26 rfl (Nat.zero_le _) rfl rfl
  have hne:(if rdAcc b 6 then (31:Int) else 23)≠0:=by split <;> decide
  refine ⟨h11,e11,h12,e12,_,w12.ld1 1 rfl ty24 rfl rfl,fun _=>⟨⟨by omega,by omega⟩,_,_,w12.ldA 1 rfl ty26 rfl rfl,h16,e16,endL.ok (leaveL.cell (a:=3) (w16.ldA 1 rfl ty26 rfl rfl) rfl) ?_⟩,fun q=>absurd hne q⟩
  have:=hq h16 .nilslice (w16.ex0.mono (by omega))
  rw [← hR] at this
  exact this (Ow.nil _ _) fun b' hb'=>(by cases hb')
 ·rw [hz] at hR
  simp only at hR
  have hg:=rdDist_good hz
  have w3:=w1.ext x3
  have t3:=w3.top
  refine ⟨by omega,?_⟩
  rintro p9 h10 rfl e10
  obtain ⟨_,x10,_⟩:=made_new e10 (by omega)
  have w10:=w3.new e10 (by omega)
  have t10:=w10.top
  obtain ⟨h11,e11,w11,n11,k11⟩:=w10.st (cx:=ctx) 0 (f:=0) (u:=.agg [.int .i64 (log:Nat),v]) (cs':=.ls [.int .i64 (log:Nat),v]) rfl (by omega) ty59 rfl (Nat.zero_le _) (allOne_iff.2 fun u hu=>by
   rcases List.mem_cons.1 hu with rfl | hu
   ·rfl
   ·exact allOne_iff.1 ow3.one1.2 u hu) rfl
  have ow11:=(ow3.ext x10).keep (h':=h11) (by omega) fun b' hb'=>k11 b' (by have:=ow3.blk hb'; omega)
  have t11:=w11.top
  obtain ⟨h12,e12,w12,n12,k12⟩:=w11.st (cx:=ctx) 1 (f:=0) (u:=.agg [.int .i64 0,.int .i64 0]) rfl (by omega) ty26 rfl (Nat.zero_le _) rfl rfl
  have ow12:=ow11.keep (h':=h12) (by omega) fun b' hb'=>k12 b' (by have:=hv b' hb'; omega)
  have l12:=w12.low
  have t12:=w12.top
  have sT:Sl (topH h12) v 1 l.length (ints l):=ow12.sl
  refine ⟨h11,e11,h12,e12,_,w12.ld1 1 rfl ty24 rfl rfl,fun q=>absurd rfl q,fun _=>⟨⟨by omega,by omega⟩,_,_,w12.ldA 0 rfl ty59 rfl rfl,_,slice_from (by omega),?_⟩⟩
  refine readTwo_ok sT hg (by rw [List.length_drop]; omega) (show h12.next+1300≤T.top by omega) (Nat.le_refl _) fun h21 v22 x21 ow21 hv22=>⟨_,_,rfl,?_⟩
  have xd:=Ext.drawn x21 (by omega)
  have t21:=x21.top
  refine ⟨show h21.next≤T.top by have:(topH h12).next=h12.next:=rfl; omega,?_⟩
  intro h24 e24
  have ow24:Ow h24 v22 tint (rdTwo log l (b.drop ((p+7)/8))).2.length (ints (rdTwo log l (b.drop ((p+7)/8))).2):=by rw [e24]; exact ow21
  rw [← e24] at xd
  have w24:=w12.ext xd.2
  have t24:=w24.top
  clear e24
  refine ⟨fun c=>?_,fun c=>?_⟩
  ·rw [if_pos c] at hR
   obtain ⟨h25,e25,w25,n25,_⟩:=w24.st (cx:=ctx) 1 (f:=0) (u:=.agg [.int .i64 (rdTwo log l (b.drop ((p+7)/8))).1,.int .i64 ((p+7)/8:Nat)]) rfl (by omega) ty26 rfl (Nat.zero_le _) rfl rfl
   refine ⟨h25,e25,endL.ok (leaveL.cell (a:=3) (w25.ldA 1 rfl ty26 rfl rfl) rfl) ?_⟩
   have:=hq h25 .nilslice (w25.ex0.mono (by omega))
   rw [← hR] at this
   exact this (Ow.nil _ _) fun b' hb'=>(by cases hb')
  ·rw [if_neg c] at hR
   obtain ⟨h25,e25,w25,n25,k25⟩:=w24.st (cx:=ctx) 1 (f:=0) (u:=.agg [.int .i64 0,.int .i64 0]) rfl (by omega) ty26 rfl (Nat.zero_le _) rfl rfl
   refine ⟨h25,e25,endL.ok (leaveL.cell (a:=3) (w25.ldA 1 rfl ty26 rfl rfl) rfl) ?_⟩
   have:=hq h25 v22 (w25.ex0.mono (by omega))
   rw [← hR] at this
   have hle:h.next<h12.next:=w12.lt 1 rfl
   exact this (ow24.keep (by omega) fun b' hb'=>k25 b' (by have:=hv22 b' hb'; have e:(topH h12).next=h12.next:=rfl; omega)) fun b' hb'=>by
    have:=hv22 b' hb'
    have e:(topH h12).next=h12.next:=rfl
    omega
end Go.Proofs.YtnpeieeomokomaaGreat
namespace Go.Proofs.YtnpeieeomokomaaGreat
open Go.Sim
noncomputable def opsR:List Go.Oper:=d10_3.toList
noncomputable def oR (i:Nat):Go.Oper:=(opsR[i]?).getD default
theorem opsR_is:opsR=[oR 0,oR 1,oR 2,oR 3,oR 4,oR 5]:=by kernel_rfl
theorem oR0:(oR 0).op = .load 23 (t 4)∧(oR 0).dst=some 77∧(oR 0).guard=none:=⟨by kernel_rfl,by kernel_rfl,by kernel_rfl⟩
theorem oR1:(oR 1).op = .load 3 (t 5)∧(oR 1).dst=some 78∧(oR 1).guard=none:=⟨by kernel_rfl,by kernel_rfl,by kernel_rfl⟩
theorem oR2:(oR 2).op = .load 26 (t 6)∧(oR 2).dst=some 79∧(oR 2).guard=none:=⟨by kernel_rfl,by kernel_rfl,by kernel_rfl⟩
theorem oR3:(oR 3).op = .store 23 (t 4) (t 77)∧(oR 3).dst=none∧(oR 3).guard=none:=⟨by kernel_rfl,by kernel_rfl,by kernel_rfl⟩
theorem oR4:(oR 4).op = .store 3 (t 5) (t 78)∧(oR 4).dst=none∧(oR 4).guard=none:=⟨by kernel_rfl,by kernel_rfl,by kernel_rfl⟩
theorem oR5:(oR 5).op = .store 26 (t 6) (t 79)∧(oR 5).dst=none∧(oR 5).guard=none:=⟨by kernel_rfl,by kernel_rfl,by kernel_rfl⟩
theorem okR:drawOk opsR=some 5:=by kernel_rfl
def tmR (tm:Tm) (a b e:Nat) (x y z:V):Tm:=Tb.set (Tb.set (Tb.set (putAll tm [(4,.ptr a 0),(5,.ptr b 0),(6,.ptr e 0)]) 77 x) 78 y) 79 z
theorem so3 (tm:Tm) (a b e:Nat) (x y z:V):storeOk opsR (befores opsR []) 5 3 (tmR tm a b e x y z) (oR 3)=((cond (!(Nat.beq a b) && true) (cond (!(Nat.beq a e) && true) true false) false && true) || false):=by kernel_rfl
theorem so4 (tm:Tm) (a b e:Nat) (x y z:V):storeOk opsR (befores opsR []) 5 4 (tmR tm a b e x y z) (oR 4)=((cond (!(Nat.beq b e) && true) true false && true) || false):=by kernel_rfl
theorem wR (tm:Tm) (d:List AD) (h:H) (Q:AX→St→Prop):W10 false r10_5 ⟨80,tm,d,h⟩ Q=wpDr P ctx false opsR ⟨80,tm,d,h⟩ (thenC (fun s1=>Q .ret s1) Q):=by kernel_rfl
theorem gR (tm:Tm) (a b e:Nat) (x y z:V):getV (tmR tm a b e x y z) 4 = .ptr a 0∧getV (tmR tm a b e x y z) 5 = .ptr b 0∧getV (tmR tm a b e x y z) 6 = .ptr e 0∧getV (tmR tm a b e x y z) 77=x∧getV (tmR tm a b e x y z) 78=y∧getV (tmR tm a b e x y z) 79=z :=
 ⟨by kernel_rfl,by kernel_rfl,by kernel_rfl,by kernel_rfl,by kernel_rfl,by kernel_rfl⟩
abbrev oInt (x:Int):O:=.cells (.ls [.int .i64 x]) ⟨0,3+1,0⟩ true false
set_option maxRecDepth 100000 in
theorem ret_ok {hb h:H} {c a b e p7:Nat} {o7:O} {v:V} {n x y:Int} {tm:Tm} {d:List AD} {Q:AX→St→Prop} (w:Vw none0 hb h c [(p7,o7),(e,oFl x y),(b,oInt n),(a,oVar v)]) (hv:v.cells=[v]∧allOne [v]=true) (hs:Has tm [(4,.ptr a 0),(5,.ptr b 0),(6,.ptr e 0)]) (hn:h.next≤T.top) (hl:h.low≤T.top)
  (hq:∀ tm' h',Has tm' [(4,.ptr a 0),(5,.ptr b 0),(6,.ptr e 0)]→Vw none0 hb h' c [(p7,o7),(e,oFl x y),(b,oInt n),(a,oVar v)]→h'.next=h.next→(∀ i,i≠a→i≠b→i≠e→h'.get i=h.get i)→Q .ret ⟨80,tm',d,h'⟩) :
  W10 false r10_5 ⟨80,tm,d,h⟩ Q:=by
 rw [wR]
 have la:=w.lt 3 rfl
 have lb:=w.lt 2 rfl
 have le:=w.lt 1 rfl
 have hab:a≠b:=Nat.ne_of_lt (w.bk.2.2.2.2.2.2.2.2.2.1)
 have hbe:b≠e:=Nat.ne_of_lt (w.bk.2.2.2.2.2.2.1)
 have hae:a≠e:=Nat.ne_of_lt (Nat.lt_trans (w.bk.2.2.2.2.2.2.2.2.2.1) (w.bk.2.2.2.2.2.2.1))
 have et:=putAll_same hs rfl
 have ga:(topH h).get a=some (oVar v):=w.get 3 rfl
 have w1:=w.upd 3 (o':=oVar v) rfl hn
 have n1:(h.upd a (some (oVar v))).next=h.next:=rfl
 have k1:∀ i,i≠a→(h.upd a (some (oVar v))).get i=h.get i:=fun i hi=>get_upd_ne _ (by omega) hi
 have a3:ast ctx 23 (topH h) (.ptr a 0) v=some ((topH h).upd a (some (oVar v))):=ast_at ty23 ga (by rw [hv.1]; rfl) (Nat.zero_le _) (by rw [hv.1]; exact hv.2) (by rw [hv.1]; rfl)
 have L1:lowM h ((topH h).upd a (some (oVar v)))=h.upd a (some (oVar v)):=lowM_upd (by omega)
 have l1:(h.upd a (some (oVar v))).low≤T.top:=by rw [H.low_upd]; omega
 generalize hh1:h.upd a (some (oVar v))=h1 at w1 n1 k1 L1 l1
 have w2:=w1.upd 2 (o':=oInt n) rfl (by omega)
 have n2:(h1.upd b (some (oInt n))).next=h1.next:=rfl
 have k2:∀ i,i≠b→(h1.upd b (some (oInt n))).get i=h1.get i:=fun i hi=>get_upd_ne _ (by omega) hi
 have gb:(topH h1).get b=some (oInt n):=w1.get 2 rfl
 have a4:ast ctx 3 (topH h1) (.ptr b 0) (.int .i64 n)=some ((topH h1).upd b (some (oInt n))):=ast_at ty3 gb rfl (Nat.zero_le _) rfl rfl
 have L2:lowM h1 ((topH h1).upd b (some (oInt n)))=h1.upd b (some (oInt n)):=lowM_upd (by omega)
 generalize hh2:h1.upd b (some (oInt n))=h2 at w2 n2 k2 L2
 have w3:=w2.upd 1 (o':=oFl x y) rfl (by omega)
 have n3:(h2.upd e (some (oFl x y))).next=h2.next:=rfl
 have k3:∀ i,i≠e→(h2.upd e (some (oFl x y))).get i=h2.get i:=fun i hi=>get_upd_ne _ (by omega) hi
 have a5:ast ctx 26 h2 (.ptr e 0) (.agg [.int .i64 x,.int .i64 y])=some (h2.upd e (some (oFl x y))):=ast_at ty26 (w2.get 1 rfl) rfl (Nat.zero_le _) rfl rfl
 generalize h2.upd e (some (oFl x y))=h3 at w3 n3 k3 a5
 obtain ⟨g4,g5,g6,g77,g78,g79⟩:=gR tm a b e v (.int .i64 n) (.agg [.int .i64 x,.int .i64 y])
 refine ⟨orc0,5,.normal,⟨80,tmR tm a b e v (.int .i64 n) (.agg [.int .i64 x,.int .i64 y]),d,h3⟩,orc0_ok,okR,?_,?_⟩
 ·have so3':=so3 tm a b e v (.int .i64 n) (.agg [.int .i64 x,.int .i64 y])
  have so4':=so4 tm a b e v (.int .i64 n) (.agg [.int .i64 x,.int .i64 y])
  rw [beq_ne hab,beq_ne hae] at so3'
  rw [beq_ne hbe] at so4'
  generalize hbs:befores opsR []=bs at so3' so4' ⊢
  generalize hops:opsR=ops at so3' so4' ⊢
  have hl6:ops=[oR 0,oR 1,oR 2,oR 3,oR 4,oR 5]:=by rw [← hops]; exact opsR_is
  have main:drawF ctx orc0 false ih0 ops bs 5 5 0 [oR 0,oR 1,oR 2,oR 3,oR 4,oR 5] ⟨80,tm,d,h⟩=some (.done .normal ⟨80,tmR tm a b e v (.int .i64 n) (.agg [.int .i64 x,.int .i64 y]),d,h3⟩):=by
   refine drawF_val (v:=v) oR0.2.2 (aop_load oR0.1 (congrArg some (hs.get rfl)) (ald_one ty23 rfl ga rfl)) oR0.2.1 rfl hn hl ?_
   have hs1:Has (Tb.set tm 77 v) [(5,.ptr b 0),(6,.ptr e 0)]:=⟨(show getV (Tb.set tm 77 v) 5=getV tm 5 by kernel_rfl).trans (hs.get rfl),(show getV (Tb.set tm 77 v) 6=getV tm 6 by kernel_rfl).trans (hs.get rfl),trivial⟩
   refine drawF_val (v:=.int .i64 n) oR1.2.2 (aop_load oR1.1 (congrArg some (hs1.get rfl)) (ald_one ty3 rfl (show (topH h).get b=_ from w.get 2 rfl) rfl)) oR1.2.1 rfl hn hl ?_
   have hs2:Has (Tb.set (Tb.set tm 77 v) 78 (.int .i64 n)) [(6,.ptr e 0)]:=⟨(show getV (Tb.set (Tb.set tm 77 v) 78 (.int .i64 n)) 6=getV tm 6 by kernel_rfl).trans (hs.get rfl),trivial⟩
   refine drawF_val (v:=.agg [.int .i64 x,.int .i64 y]) oR2.2.2 (aop_load oR2.1 (congrArg some (hs2.get rfl)) (ald_agg ty26 rfl (show (topH h).get e=_ from w.get 1 rfl) rfl)) oR2.2.1 rfl hn hl ?_
   have etm:Tb.set (Tb.set (Tb.set tm 77 v) 78 (.int .i64 n)) 79 (.agg [.int .i64 x,.int .i64 y])=tmR tm a b e v (.int .i64 n) (.agg [.int .i64 x,.int .i64 y]):=by unfold tmR; rw [et]
   rw [etm]
   refine drawF_st oR3.2.2 (aop_store oR3.1 (congrArg some g4) (congrArg some g77) a3) oR3.2.1 (so3'.trans rfl) ?_
   rw [L1]
   refine drawF_st oR4.2.2 (aop_store oR4.1 (congrArg some g5) (congrArg some g78) a4) oR4.2.1 (so4'.trans rfl) ?_
   rw [L2]
   exact opsF_st oR5.2.2 (aop_store oR5.1 (congrArg some g6) (congrArg some g79) a5) oR5.2.1
  rw [← hl6] at main
  exact main
 ·exact hq _ h3 ⟨g4,g5,g6,trivial⟩ w3 (by omega) fun i h1 h2 h3=>by rw [k3 i h3,k2 i h2,k1 i h1]
theorem defer_eq {a0 a1 a2 a3:V} {h:H} {k:H→Prop}:W38 false b38 ⟨12,setArgs [a0,a1,a2,a3] 0 (Tb.leaf undefV),[],h⟩ (endV ctx ⟨12,[],b38⟩ k) =
  (wpFA ctx 26 0 h a0 (fun v0 h1=>∃ (x2:Int),ald ctx 24 h1 v0=some (.int .i64 x2)∧((x2≠(0:Int)→∃ h3,ast ctx 23 h1 a1 .nilslice=some h3∧∃ h4,ast ctx 3 h3 a2 (.int .i64 (0:Int))=some h4∧wpFA ctx 26 1 h4 a0 (fun v5 h6=>∃ (x7:Int),ald ctx 3 h6 v5=some (.int .i64 x7)∧∃ (x8:Int),ald ctx 3 h6 a3=some (.int .i64 x8)∧wpFA ctx 26 1 h6 a0 (fun v9 h10=>∃ h11,ast ctx 3 h10 v9 (.int .i64 (w64 (x7+x8)))=some h11∧(([]:List AD)=[]∧k h11))))∧(¬(x2≠(0:Int))→(([]:List AD)=[]∧k h1))))):=by kernel_rfl
theorem fa_fl0 {p o:Nat} {h:H} {k:V→H→Prop}:wpFA ctx 26 0 h (.ptr p o) k=k (.ptr p (o+0)) h:=by kernel_rfl
theorem fa_fl1 {p o:Nat} {h:H} {k:V→H→Prop}:wpFA ctx 26 1 h (.ptr p o) k=k (.ptr p (o+1)) h:=by kernel_rfl
set_option maxRecDepth 100000 in
theorem defer_ok {hb h:H} {c a b e p7:Nat} {v:V} {n x y sh:Int} {k:H→Prop} (w:Vw none0 hb h c [(p7,oInt sh),(e,oFl x y),(b,oInt n),(a,oVar v)]) (hn:h.next≤T.top)
  (hq1:x≠0→∀ h',Vw none0 hb h' c [(p7,oInt sh),(e,oFl x (w64 (y+sh))),(b,oInt 0),(a,oVar .nilslice)]→h'.next=h.next→k h') (hq2:x=0→k h):RV P ctx 80 38 [.ptr e 0,.ptr a 0,.ptr b 0,.ptr p7 0] h k:=by
 refine ⟨_,fn38,ble _ _ rfl,ble _ _ rfl,by decide,wpS_out _ (?_:W38 false b38 _ _)⟩
 refine (defer_eq (k:=k)).symm ▸ ?_
 rw [fa_fl0]
 refine ⟨x,w.ld1 1 rfl ty24 rfl rfl,fun c1=>?_,fun c1=>⟨rfl,hq2 (by omega)⟩⟩
 obtain ⟨h3,e3,w3,n3,_⟩:=w.st (cx:=ctx) 3 (f:=0) (u:=.nilslice) rfl hn ty23 rfl (Nat.zero_le _) rfl rfl
 obtain ⟨h4,e4,w4,n4,_⟩:=w3.st (cx:=ctx) 2 (f:=0) (u:=.int .i64 0) rfl (by omega) ty3 rfl (Nat.zero_le _) rfl rfl
 obtain ⟨h5,e5,w5,n5,_⟩:=w4.st (cx:=ctx) 1 (f:=0+1) (u:=.int .i64 (w64 (y+sh))) rfl (by omega) ty3 rfl (Nat.zero_le _) rfl rfl
 refine ⟨h3,e3,h4,e4,?_⟩
 rw [fa_fl1]
 refine ⟨y,w4.ld1 1 rfl ty3 rfl rfl,sh,w4.ld1 0 rfl ty3 rfl rfl,?_⟩
 rw [fa_fl1]
 exact ⟨h5,e5,rfl,hq1 c1 h5 w5 (by omega)⟩
end Go.Proofs.YtnpeieeomokomaaGreat
namespace Go.Proofs.YtnpeieeomokomaaGreat
open Go.Sim
section
variable {P:Program} {c:Ctx}
theorem _root_.Go.Sim.endQ.ok {n m:Nat} {rs:List Go.ResultVar} {body:Go.Code} {tm:Tm} {d:List AD} {h0 h:H} {vs:List V} {Q:V→H→Prop} (e:leave c rs tm h rs []=some vs) (hq:Q (tupled vs) h):endQ c ⟨n,rs,body⟩ Q ⟨m,tm,d,h0⟩ h:=by
 unfold endQ
 rw [e]
 exact hq
theorem _root_.Go.Sim.endW1.nd {n m:Nat} {rs:List Go.ResultVar} {body:Go.Code} {tm:Tm} {h:H} {vs:List V} {Q:V→H→Prop} (e:leave c rs tm h rs []=some vs) (hq:Q (tupled vs) h):endW1 P c ⟨n,rs,body⟩ Q .ret ⟨m,tm,[],h⟩:=endQ.ok e hq
theorem _root_.Go.Sim.endW1.df {fi:FI} {m f:Nat} {cap:List V} {tm:Tm} {h:H} {Q:V→H→Prop} (r:RV P c fi.n f cap h (endQ c fi Q ⟨m,tm,[.fn f cap []],h⟩)):endW1 P c fi Q .ret ⟨m,tm,[.fn f cap []],h⟩:=r
end
theorem rdFse_inner (b:List UInt8) (a fin:Nat):rdFse b a fin=if (rdInner b).e≠0 then ⟨[],0,(rdInner b).e,((a+1+(rdInner b).fat:Nat):Int)⟩ else if rgtV (rdInner b).l=0 then ⟨(rdInner b).l,fin,0,0⟩ else ⟨[],0,21,a⟩:=by
 unfold rdFse rdInner
 cases h:rdDist b 6 12 with
 | none =>
  simp only
  by_cases ha:rdAcc b 6
  ·simp only [if_pos ha]; rfl
  ·simp only [if_neg ha]; rfl
 | some x =>
  obtain ⟨log,l,p⟩:=x
  simp only
  generalize rdTwo log l (b.drop ((p+7)/8))=t
  obtain ⟨e,r⟩:=t
  by_cases c:e≠0
  ·simp only [if_pos c]
   congr 1
  ·have:e=0:=by omega
   subst this
   rfl
theorem rdInner_len (b:List UInt8):(rdInner b).l.length≤255:=by
 unfold rdInner
 split
 ·simp
 ·rename_i log l p hd
  split
  ·simp
  ·exact (rdTwo_in (rdDist_good hd)).2
theorem rdInner_fat {b:List UInt8}:(rdInner b).fat≤b.length+1:=by
 unfold rdInner
 cases h:rdDist b 6 12 with
 | none=>simp
 | some x =>
  obtain ⟨log,l,p⟩:=x
  have hp:p≤8*b.length:=by
   unfold rdDist at h
   split at h
   ·cases h
   ·split at h
    ·cases h
    ·cases hr:rdProbs b 12 (12+2) (2^(fnum b 0 4+5)) 4 [] with
     | none=>rw [hr] at h; cases h
     | some y =>
      rw [hr] at h
      simp only [Option.map_some,Option.some.injEq,Prod.mk.injEq] at h
      obtain ⟨_,_,rfl⟩:=h
      have key:∀ {f left p:Nat} {l r:List Int} {q:Nat},rdProbs b 12 f left p l=some (r,q)→p≤8*b.length→q≤8*b.length:=by
       intro f
       induction f with
       | zero=>intro left p l r q h; cases h
       | succ f ih =>
        intro left p l r q h hp
        unfold rdProbs at h
        split at h
        ·cases h; exact hp
        ·rename_i hl0
         cases ho:rdOne b left p with
         | none=>rw [ho] at h; cases h
         | some z =>
          obtain ⟨v,p'⟩:=z
          rw [ho] at h
          have hp':=(rdOne_le (by omega) ho).2
          simp only at h
          split at h
          ·cases h
          ·split at h
           ·cases hz:rdZeros b 12 (12+1) p' (l.length+1) with
            | none=>rw [hz] at h; cases h
            | some u =>
             obtain ⟨n,p2⟩:=u
             rw [hz] at h
             have hzl:∀ {f p n m q:Nat},rdZeros b 12 f p n=some (m,q)→q≤8*b.length:=by
              intro f
              induction f with
              | zero=>intro p n m q h; cases h
              | succ f ih =>
               intro p n m q h
               unfold rdZeros at h
               split at h
               ·cases h
               ·split at h
                ·cases h
                ·split at h
                 ·exact ih h
                 ·cases h; omega
             exact ih h (hzl hz)
           ·exact ih h hp'
      rename_i hlen _
      exact key hr (by omega)
  simp only
  split
  ·show (p+7)/8≤_; omega
  ·show 0≤_; omega
set_option maxRecDepth 100000 in
set_option maxHeartbeats 4000000 in
theorem treeRead_ok {s:List UInt8} {at':Int} {h:H} {Q:V→H→Prop} (hs:s.length≤1500) (hn:h.next+2100≤T.top) (hlow:h.low≤T.top)
  (hq:∀ h' v',Ext h h' 2000→Ow h' v' tint (rdTree s at').l.length (ints (rdTree s at').l)→(∀ b,vblk v'=some b→h.next≤b)→Q (.tuple [v',.int .i64 ((rdTree s at').next:Nat),flt (rdTree s at').e (rdTree s at').fat]) h') :
  RF P ctx 10 [.str s,.int .i64 at'] h Q:=by
 generalize hR:rdTree s at'=R at hq
 unfold rdTree at hR
 refine RF.enterDS ctx_ok fn10 (ble _ _ rfl) (ble _ _ rfl) vb10 ⟨rfl,by omega,?_⟩
 rintro p0 h1 rfl e1
 have w1:=(Vw.nil (S:=none0) (h:=h)).new e1 (by omega)
 have t1:=w1.top
 refine ⟨rfl,by omega,?_⟩
 rintro p2 h3 rfl e3
 have w3:=w1.new e3 (by omega)
 have t3:=w3.top
 refine ⟨by omega,?_⟩
 rintro p4 h5 rfl e5
 have w5:=w3.new e5 (by omega)
 have t5:=w5.top
 have l5:=w5.low
 have out:∀ (tm:Tm) (h':H) (v:V),Vw none0 h h' 2000 [(h3.next,oFl R.e R.fat),(h1.next,oInt (R.next:Nat)),(h.next,oVar v)]→Ow h' v tint R.l.length (ints R.l)→(∀ b,vblk v=some b→h.next≤b)→Has tm [(4,.ptr h.next 0),(5,.ptr h1.next 0),(6,.ptr h3.next 0)] →
   ∃ vs,leave ctx [.cell 4 23,.cell 5 3,.cell 6 26] tm h' [.cell 4 23,.cell 5 3,.cell 6 26] []=some vs∧Q (tupled vs) h':=fun tm h' v w ow hv hs =>
  ⟨_,leave.cell (hs.get rfl) (w.ld1 2 rfl ty23 rfl rfl) (leave.cell (hs.get rfl) (w.ld1 1 rfl ty3 rfl rfl) (leave.cell (hs.get rfl) (w.ldA 0 rfl ty26 rfl rfl) rfl)),hq h' v w.ex0 ow hv⟩
 have bad3:∀ (e fat:Int) (h2:H) (c:Nat) (rest:List (Nat×O)) (x y n:Int) (v:V),Vw none0 h h2 c (rest++[(h3.next,oFl x y),(h1.next,oInt n),(h.next,oVar v)])→rest.length≤1→c≤2000→h2.next≤T.top→∃ h6 h7 h8,ast ctx 23 h2 (.ptr h.next 0) .nilslice=some h6∧ast ctx 3 h6 (.ptr h1.next 0) (.int .i64 0)=some h7∧ast ctx 26 h7 (.ptr h3.next 0) (.agg [.int .i64 e,.int .i64 fat])=some h8 ∧
   Vw none0 h h8 c (rest++[(h3.next,oFl e fat),(h1.next,oInt 0),(h.next,oVar .nilslice)])∧h8.next=h2.next:=by
  intro e fat h2 c rest x y n v w hr hc ht
  rcases rest with _ | ⟨p,rest⟩
  ·obtain ⟨h6,e6,w6,n6,_⟩:=w.st (cx:=ctx) 2 (f:=0) (u:=.nilslice) rfl ht ty23 rfl (Nat.zero_le _) rfl rfl
   obtain ⟨h7,e7,w7,n7,_⟩:=w6.st (cx:=ctx) 1 (f:=0) (u:=.int .i64 0) rfl (by omega) ty3 rfl (Nat.zero_le _) rfl rfl
   obtain ⟨h8,e8,w8,n8,_⟩:=w7.st (cx:=ctx) 0 (f:=0) (u:=.agg [.int .i64 e,.int .i64 fat]) rfl (by omega) ty26 rfl (Nat.zero_le _) rfl rfl
   exact ⟨h6,h7,h8,e6,e7,e8,w8,by omega⟩
  ·rcases rest with _ | ⟨p2,rest⟩
   ·obtain ⟨h6,e6,w6,n6,_⟩:=w.st (cx:=ctx) 3 (f:=0) (u:=.nilslice) rfl ht ty23 rfl (Nat.zero_le _) rfl rfl
    obtain ⟨h7,e7,w7,n7,_⟩:=w6.st (cx:=ctx) 2 (f:=0) (u:=.int .i64 0) rfl (by omega) ty3 rfl (Nat.zero_le _) rfl rfl
    obtain ⟨h8,e8,w8,n8,_⟩:=w7.st (cx:=ctx) 1 (f:=0) (u:=.agg [.int .i64 e,.int .i64 fat]) rfl (by omega) ty26 rfl (Nat.zero_le _) rfl rfl
    exact ⟨h6,h7,h8,e6,e7,e8,w8,by omega⟩
   ·simp at hr
 have oor:(at'<0∨(s.length:Int)<at')→∀ tm,Has tm [(4,.ptr h.next 0),(5,.ptr h1.next 0),(6,.ptr h3.next 0),(16,.bool true),(1,.int .i64 at'),(0,.str s)]→W10 false r10_0 ⟨80,tm,[],h5⟩ (thenC (sealK L10 fun s1=>W10 false r10_7 s1 (endW1 P ctx ⟨80,[.cell 4 23,.cell 5 3,.cell 6 26],b10⟩ Q)) (endW1 P ctx ⟨80,[.cell 4 23,.cell 5 3,.cell 6 26],b10⟩ Q)):=by
  intro c tm hs0
  rw [if_pos c] at hR
  obtain ⟨h6,h7,h8,e6,e7,e8,w8,_⟩:=bad3 2 0 h5 3 [] 0 0 0 .nilslice w5 (Nat.zero_le _) (by omega) (by omega)
  refine wpS.at hs0 vr10_0 rfl rfl ⟨h6,e6,h7,e7,h8,e8,hs0.on fun tm1 hs1=>?_⟩
  subst hR
  obtain ⟨vs,ev,hqv⟩:=out tm1 h8 .nilslice (w8.more (by omega)) (Ow.nil _ _) (fun b hb=>(by cases hb)) (hs1.sub (by kernel_rfl))
  exact thenC.rt (endW1.nd ev hqv)
 refine ⟨fun c=>Has.nil.on fun tm hs0=>oor (.inl c) tm (hs0.sub (by kernel_rfl)),fun c1=>⟨fun c=>Has.nil.on fun tm hs0=>oor (.inr c) tm (hs0.sub (by kernel_rfl)),fun c2=>Has.nil.on fun tm hs0=>?_⟩⟩
 have c2:¬ (s.length:Int)<at':=c2
 rw [if_neg (by omega)] at hR
 obtain ⟨a,rfl⟩:∃ a:Nat,at'=a:=⟨at'.toNat,by omega⟩
 rw [Int.toNat_natCast] at hR
 refine wpS.at hs0 vr10_0 rfl rfl (hs0.on fun tm1 hs1=>thenC.nx (hs1.sealK fun tm2 hs2=>?_))
 clear hs0 hs1 oor
 refine wpS.at hs2 vr10_7 rfl rfl ⟨fun c=>?_,fun c=>⟨rfl,by omega,?_⟩⟩
 ·have c:(a:Int)=s.length:=c
  rw [List.getElem?_eq_none (by omega)] at hR
  obtain ⟨h6,h7,h8,e6,e7,e8,w8,_⟩:=bad3 5 a h5 3 [] 0 0 0 .nilslice w5 (Nat.zero_le _) (by omega) (by omega)
  refine ⟨h6,e6,h7,e7,h8,e8,hs2.on fun tm3 hs3=>?_⟩
  subst hR
  obtain ⟨vs,ev,hqv⟩:=out tm3 h8 .nilslice (w8.more (by omega)) (Ow.nil _ _) (fun b hb=>(by cases hb)) (hs3.sub (by kernel_rfl))
  exact endW1.nd ev hqv
 have c:¬ (a:Int)=s.length:=c
 have hal:a<s.length:=by omega
 obtain ⟨ch,hch⟩:∃ ch,s[a]? = some ch:=⟨_,List.getElem?_eq_getElem hal⟩
 have hct:=ch.toNat_lt
 rw [hch] at hR
 simp only at hR
 rintro p7 h6 rfl e6
 have w6:=w5.new e6 (by omega)
 have t6:=w6.top
 obtain ⟨h7,e7,w7,n7,_⟩:=w6.st (cx:=ctx) 0 (f:=0) (u:=.int .i64 0) rfl (by omega) ty3 rfl (Nat.zero_le _) rfl rfl
 have l7:=w7.low
 have tail1:∀ (tm:Tm) (h':H) (x y sh fat:Int) (n:Int) (v:V),Vw none0 h h' 2000 [(h5.next,oInt sh),(h3.next,oFl x y),(h1.next,oInt n),(h.next,oVar v)]→x≠0→w64 (y+sh)=fat→R=⟨[],0,x,fat⟩→Has tm [(4,.ptr h.next 0),(5,.ptr h1.next 0),(6,.ptr h3.next 0)] →
   endW1 P ctx ⟨80,[.cell 4 23,.cell 5 3,.cell 6 26],b10⟩ Q .ret ⟨80,tm,[.fn 38 [.ptr h3.next 0,.ptr h.next 0,.ptr h1.next 0,.ptr h5.next 0] []],h'⟩:=by
  intro tm h' x y sh fat n v w hx hf hRR hs
  have tw:=w.top
  refine endW1.df (defer_ok w (by omega) (fun _ h'' w'' n''=>?_) fun q=>absurd q hx)
  subst hRR
  rw [hf] at w''
  obtain ⟨vs,ev,hqv⟩:=out tm h'' .nilslice (w''.drop 1) (Ow.nil _ _) (fun b hb=>(by cases hb)) hs
  exact endQ.ok ev hqv
 have tail0:∀ (tm:Tm) (h':H) (sh:Int) (v:V),Vw none0 h h' 2000 [(h5.next,oInt sh),(h3.next,oFl 0 R.fat),(h1.next,oInt (R.next:Nat)),(h.next,oVar v)]→R.e=0→Ow h' v tint R.l.length (ints R.l)→(∀ b,vblk v=some b→h.next≤b)→Has tm [(4,.ptr h.next 0),(5,.ptr h1.next 0),(6,.ptr h3.next 0)] →
   endW1 P ctx ⟨80,[.cell 4 23,.cell 5 3,.cell 6 26],b10⟩ Q .ret ⟨80,tm,[.fn 38 [.ptr h3.next 0,.ptr h.next 0,.ptr h1.next 0,.ptr h5.next 0] []],h'⟩:=by
  intro tm h' sh v w hx ow hv hs
  have tw:=w.top
  refine endW1.df (defer_ok w (by omega) (fun q=>absurd rfl q) fun _=>?_)
  rw [← hx] at w
  obtain ⟨vs,ev,hqv⟩:=out tm h' v (w.drop 1) ow hv hs
  exact endQ.ok ev hqv
 have ech:w64 ((ch.toNat:Nat):Int)=((ch.toNat:Nat):Int):=w64n (by omega)
 have ea1:w64 ((a:Int)+1)=((a+1:Nat):Int):=by rw [w64_id (by omega) (by omega)]; rfl
 have ea2:w64 (((a+1:Nat):Int)+((ch.toNat:Nat):Int))=((a+1+ch.toNat:Nat):Int):=by rw [w64_id (by omega) (by omega)]; rfl
 refine ⟨h7,e7,rfl,_,index_str hch,?_⟩
 rw [ech,ea1,ea2]
 refine ⟨fun c3=>?_,fun c3=>?_⟩
 ·-- direct
  rw [if_pos (by omega)] at hR
  refine readDirect_ok (by omega) hch (by omega) (by omega) (by omega) fun h8 v9 x8 ow8 hv8=>?_
  rw [hR] at ow8 ⊢
  have w8:=w7.ext x8
  have t8:=w8.top
  have hlt:h5.next<h7.next:=w7.lt 0 rfl
  have lt0:h.next<h7.next:=w7.lt 3 rfl
  have lt1:h1.next<h7.next:=w7.lt 2 rfl
  have lt3:h3.next<h7.next:=w7.lt 1 rfl
  obtain ⟨h13,e13,w13,n13,k13⟩:=w8.st (cx:=ctx) 3 (f:=0) (u:=v9) (cs':=.ls [v9]) rfl (by omega) ty23 (by rw [ow8.one1.1]; rfl) (Nat.zero_le _) (by rw [ow8.one1.1]; exact ow8.one1.2) (by rw [ow8.one1.1]; rfl)
  obtain ⟨h14,e14,w14,n14,k14⟩:=w13.st (cx:=ctx) 2 (f:=0) (u:=.int .i64 (R.next:Nat)) rfl (by omega) ty3 rfl (Nat.zero_le _) rfl rfl
  obtain ⟨h15,e15,w15,n15,k15⟩:=w14.st (cx:=ctx) 1 (f:=0) (u:=.agg [.int .i64 R.e,.int .i64 R.fat]) rfl (by omega) ty26 rfl (Nat.zero_le _) rfl rfl
  have ow15:=ow8.keep (h':=h15) (by omega) fun b hb=>by
   have:=hv8 b hb
   rw [k15 b (by omega),k14 b (by omega),k13 b (by omega)]
  refine ⟨v9,_,_,_,rfl,h13,e13,h14,e14,h15,e15,hs2.on fun tm3 hs3=>?_⟩
  by_cases ce:R.e=0
  ·rw [ce] at w15
   exact tail0 tm3 h15 0 v9 (w15.more (by omega)) ce ow15 (fun b hb=>by have:=hv8 b hb; omega) (hs3.sub (by kernel_rfl))
  ·have hRR:R=⟨[],0,R.e,R.fat⟩∧-4611686018427387904≤R.fat∧R.fat≤4611686018427387904:=by
    subst hR
    unfold rdDirect at ce ⊢
    split
    ·exact ⟨rfl,by show _≤((s.length:Nat):Int); omega,by show ((s.length:Nat):Int)≤_; omega⟩
    ·rename_i c4
     rw [if_neg c4] at ce
     split
     ·rename_i c5
      rw [if_pos c5] at ce
      exact absurd rfl ce
     ·exact ⟨rfl,by show _≤((a:Nat):Int); omega,by show ((a:Nat):Int)≤_; omega⟩
   exact tail1 tm3 h15 R.e R.fat 0 R.fat (R.next:Nat) v9 (w15.more (by omega)) ce (by rw [Int.add_zero,w64_id (by omega) (by omega)]) hRR.1 (hs3.sub (by kernel_rfl))
 rw [if_neg (by omega)] at hR
 refine ⟨fun c4=>?_,fun c4=>?_⟩
 ·have c4:(s.length:Int)<((a+1+ch.toNat:Nat):Int):=c4
  rw [if_pos (by omega)] at hR
  obtain ⟨h16,h17,h18,e16,e17,e18,w18,n18⟩:=bad3 5 s.length h7 4 [(h5.next,oInt 0)] 0 0 0 .nilslice w7 (Nat.le_refl _) (by omega) (by omega)
  refine ⟨h16,e16,h17,e17,h18,e18,hs2.on fun tm3 hs3=>?_⟩
  exact tail1 tm3 h18 5 s.length 0 s.length 0 .nilslice (w18.more (by omega)) (by decide) (by rw [Int.add_zero,w64_id (by omega) (by omega)]) hR.symm (hs3.sub (by kernel_rfl))
 have c4:¬ (s.length:Int)<((a+1+ch.toNat:Nat):Int):=c4
 rw [if_neg (by omega),rdFse_inner] at hR
 have hbl:((s.drop (a+1)).take ch.toNat).length≤1500:=by rw [List.length_take,List.length_drop]; omega
 have hbf:=rdInner_fat (b:=(s.drop (a+1)).take ch.toNat)
 have key:∀ tm3,Has tm3 [(4,.ptr h.next 0),(5,.ptr h1.next 0),(6,.ptr h3.next 0),(1,.int .i64 a),(8,.int .i64 (ch.toNat:Nat)),(0,.str s),(7,.ptr h5.next 0)] →
   W10 false r10_1 ⟨80,tm3,[.fn 38 [.ptr h3.next 0,.ptr h.next 0,.ptr h1.next 0,.ptr h5.next 0] []],h7⟩ (fun e s1=>(thenC (sealK L10 fun s1=>W10 false r10_6 s1 (sealQ L10 (endW1 P ctx ⟨80,[.cell 4 23,.cell 5 3,.cell 6 26],b10⟩ Q))) (sealQ L10 (endW1 P ctx ⟨80,[.cell 4 23,.cell 5 3,.cell 6 26],b10⟩ Q))) (exitB 0 e) s1):=by
  intro tm3 hs3
  obtain ⟨h10,e10,w10,n10,_⟩:=w7.st (cx:=ctx) 2 (f:=0) (u:=.int .i64 (a+1+ch.toNat:Nat)) rfl (by omega) ty3 rfl (Nat.zero_le _) rfl rfl
  have l10:=w10.low
  have t10:=w10.top
  have esl:=slice_str (s:=s) (x:=a+1) (y:=a+1+ch.toNat) (h:=h10) (by omega) (by omega)
  unfold sliceS at esl
  rw [show a+1+ch.toNat-(a+1)=ch.toNat by omega] at esl
  generalize (s.drop (a+1)).take ch.toNat=body at hR hbl hbf esl
  refine wpS.at hs3 vr10_1 rfl rfl ?_
  rw [ea1,ea2]
  refine ⟨h10,e10,_,w10.ld1 2 rfl ty3 rfl rfl,_,esl,inner_ok (by omega) (by omega) (by omega) fun h11 v11 x11 ow11 hv11=>⟨v11,_,_,rfl,?_⟩⟩
  have w11:=w10.ext x11
  have t11:=w11.top
  have lt0:h.next<h10.next:=w10.lt 3 rfl
  have lt1:h1.next<h10.next:=w10.lt 2 rfl
  have lt3:h3.next<h10.next:=w10.lt 1 rfl
  have lt5:h5.next<h10.next:=w10.lt 0 rfl
  obtain ⟨h13,e13,w13,n13,k13⟩:=w11.st (cx:=ctx) 3 (f:=0) (u:=v11) (cs':=.ls [v11]) rfl (by omega) ty23 (by rw [ow11.one1.1]; rfl) (Nat.zero_le _) (by rw [ow11.one1.1]; exact ow11.one1.2) (by rw [ow11.one1.1]; rfl)
  obtain ⟨h14,e14,w14,n14,k14⟩:=w13.st (cx:=ctx) 1 (f:=0) (u:=.agg [.int .i64 (rdInner body).e,.int .i64 ((rdInner body).fat:Nat)]) rfl (by omega) ty26 rfl (Nat.zero_le _) rfl rfl
  obtain ⟨h15,e15,w15,n15,k15⟩:=w14.st (cx:=ctx) 0 (f:=0) (u:=.int .i64 (a+1:Nat)) rfl (by omega) ty3 rfl (Nat.zero_le _) rfl rfl
  have hvb:∀ b,vblk v11=some b→b≠h.next∧b≠h1.next∧b≠h3.next∧b≠h5.next:=fun b hb=>by have:=hv11 b hb; omega
  have ow15:=ow11.keep (h':=h15) (by omega) fun b hb=>by
   have:=hvb b hb
   rw [k15 b (by omega),k14 b (by omega),k13 b (by omega)]
  have l15:=w15.low
  have t15:=w15.top
  refine ⟨h13,e13,h14,e14,h15,e15,hs3.on fun tm4 hs4=>thenC.out (hs4.sealK fun tm5 hs5=>?_)⟩
  refine wpS.at hs5 vr10_6 rfl rfl ?_
  rw [fa_fl0]
  have fin:∀ (tm:Tm) (h2:H) (x y sh n:Int),Vw none0 h h2 1600 [(h5.next,oInt sh),(h3.next,oFl x y),(h1.next,oInt n),(h.next,oVar v11)]→(x≠0∧(∃ fat,w64 (y+sh)=fat∧R=⟨[],0,x,fat⟩)∨x=0∧y=R.fat∧n=(R.next:Nat)∧R.e=0∧Ow h2 v11 tint R.l.length (ints R.l))→Has tm [(4,.ptr h.next 0),(5,.ptr h1.next 0),(6,.ptr h3.next 0)] →
    W10 false r10_5 ⟨80,tm,[.fn 38 [.ptr h3.next 0,.ptr h.next 0,.ptr h1.next 0,.ptr h5.next 0] []],h2⟩ (sealQ L10 (sealQ L10 (endW1 P ctx ⟨80,[.cell 4 23,.cell 5 3,.cell 6 26],b10⟩ Q))):=by
   intro tm h2 x y sh n w hcase hs
   have tw:=w.top
   have lw:=w.low
   refine ret_ok w ow11.one1 hs (by omega) (by omega) fun tm' h' hs' w' n' k'=>hs'.slt fun tm6 hs6=>hs6.slt fun tm7 hs7=>?_
   rcases hcase with ⟨hx,fat,hf,hRR⟩ | ⟨hx,hy,hnn,he,ow⟩
   ·exact tail1 tm7 h' x y sh fat n v11 (w'.more (by omega)) hx hf hRR (hs7.sub (by kernel_rfl))
   ·subst hx hy hnn
    exact tail0 tm7 h' sh v11 (w'.more (by omega)) he (ow.keep (by omega) fun b hb=>by have:=hvb b hb; exact k' b this.1 this.2.1 this.2.2.1) (fun b hb=>by have:=hv11 b hb; omega) (hs7.sub (by kernel_rfl))
  refine ⟨_,w15.ld1 1 rfl ty24 rfl rfl,fun c6=>?_,fun c6=>hs5.on fun tm6 hs6=>?_⟩
  ·rw [if_neg (fun q=>q c6)] at hR
   refine ⟨v11,w15.ld1 3 rfl ty23 rfl rfl,right_ok ow15.sl (by have:=rdInner_len body; omega) ⟨_,rfl,fun c7=>hs5.on fun tm6 hs6=>?_,fun c7=>hs5.on fun tm6 hs6=>?_⟩⟩
   ·rw [if_neg c7] at hR
    obtain ⟨h16,e16,w16,n16,_⟩:=w15.st (cx:=ctx) 1 (f:=0) (u:=.agg [.int .i64 21,.int .i64 a]) rfl (by omega) ty26 rfl (Nat.zero_le _) rfl rfl
    obtain ⟨h17,e17,w17,n17,_⟩:=w16.st (cx:=ctx) 0 (f:=0) (u:=.int .i64 0) rfl (by omega) ty3 rfl (Nat.zero_le _) rfl rfl
    refine wpS.at hs6 vr10_2 rfl rfl ⟨h16,e16,h17,e17,hs6.on fun tm7 hs7=>thenC.nx (hs7.sealK fun tm8 hs8=>?_)⟩
    exact fin tm8 h17 21 a 0 _ (w17.more (by omega)) (.inl ⟨by decide,a,by rw [Int.add_zero,w64_id (by omega) (by omega)],hR.symm⟩) (hs8.sub (by kernel_rfl))
   ·rw [if_pos (by omega)] at hR
    refine wpS.at hs6 vr10_2 rfl rfl (hs6.on fun tm7 hs7=>thenC.nx (hs7.sealK fun tm8 hs8=>?_))
    have hff:(rdInner body).fat=0:=by
     revert c6
     unfold rdInner
     split
     ·intro _; rfl
     ·split
      ·rename_i c8; intro q; exact absurd q c8
      ·intro _; rfl
    rw [c6,hff] at w15
    subst hR
    exact fin tm8 h15 0 0 (a+1:Nat) _ (w15.more (by omega)) (.inr ⟨rfl,rfl,rfl,rfl,ow15⟩) (hs8.sub (by kernel_rfl))
  ·rw [if_pos c6] at hR
   refine wpS.at hs6 vr10_2 rfl rfl (hs6.on fun tm7 hs7=>thenC.nx (hs7.sealK fun tm8 hs8=>?_))
   exact fin tm8 h15 _ _ (a+1:Nat) _ (w15.more (by omega)) (.inl ⟨c6,_,by rw [w64_id (by omega) (by omega)],by rw [← hR]; congr 1; omega⟩) (hs8.sub (by kernel_rfl))
 exact ⟨fun _=>hs2.on fun tm3 hs3=>key tm3 (hs3.sub (by kernel_rfl)),fun _=>hs2.on fun tm3 hs3=>key tm3 (hs3.sub (by kernel_rfl))⟩
end Go.Proofs.YtnpeieeomokomaaGreat
namespace Go.Proofs.YtnpeieeomokomaaGreat
open Go.Sim
set_option maxRecDepth 100000 in
theorem rdTree_ok {s:List UInt8} {a:Int} (h:(rdTree s a).e=0):rgtV (rdTree s a).l=0∧(rdTree s a).fat=0:=by
 unfold rdTree at h ⊢
 split
 ·rename_i c; rw [if_pos c] at h; cases h
 ·rename_i c
  rw [if_neg c] at h
  split
  ·rename_i hc; rw [hc] at h; cases h
  ·rename_i ch hc
   rw [hc] at h
   simp only at h
   split
   ·rename_i c2
    rw [if_pos c2] at h
    unfold rdDirect at h ⊢
    split
    ·rename_i c3; rw [if_pos c3] at h; cases h
    ·rename_i c3
     rw [if_neg c3] at h
     split
     ·rename_i c4; exact ⟨c4,rfl⟩
     ·rename_i c4; rw [if_neg c4] at h; cases h
   ·rename_i c2
    rw [if_neg c2] at h
    split
    ·rename_i c3; rw [if_pos c3] at h; cases h
    ·rename_i c3
     rw [if_neg c3,rdFse_inner] at h
     rw [rdFse_inner]
     split
     ·rename_i c4; rw [if_pos c4] at h; exact absurd h c4
     ·rename_i c4
      rw [if_neg c4] at h
      split
      ·rename_i c5; exact ⟨c5,rfl⟩
      ·rename_i c5; rw [if_neg c5] at h; cases h
def rdLens (s:List UInt8) (a:Int):Rd:=if (rdTree s a).e=0 then ⟨lens (rdTree s a).l,(rdTree s a).next,0,0⟩ else ⟨[],0,(rdTree s a).e,(rdTree s a).fat⟩
theorem lens_len (l:List Int):(lens l).length=l.length+1:=by unfold lens; rw [trn_len]; simp
set_option maxRecDepth 100000 in
set_option maxHeartbeats 1000000 in
theorem treeLengths_ok {s:List UInt8} {at':Int} {h:H} {Q:V→H→Prop} (hs:s.length≤1500) (hn:h.next+2200≤T.top) (hlow:h.low≤T.top)
  (hq:∀ h' v',Ext h h' 2100→Sl h' v' 1 (rdLens s at').l.length (ints (rdLens s at').l)→(∀ b,vblk v'=some b→h.next≤b)→Q (.tuple [v',.int .i64 ((rdLens s at').next:Nat),flt (rdLens s at').e (rdLens s at').fat]) h') :
  RF P ctx 13 [.str s,.int .i64 at'] h Q:=by
 generalize hR:rdLens s at'=R at hq
 unfold rdLens at hR
 refine RF.enterS ctx_ok fn13 (ble _ _ rfl) (ble _ _ rfl) vb13 ⟨by omega,?_⟩
 rintro p0 h1 rfl e1
 have w1:=(Vw.nil (S:=none0) (h:=h)).new e1 (by omega)
 have t1:=w1.top
 have l1:=w1.low
 have n1:h1.next=h.next+1:=by rw [e1,new_next]
 refine treeRead_ok hs (by omega) (by omega) fun h3 v4 x3 ow3 hv3=>⟨_,_,_,_,rfl,?_⟩
 have w3:=w1.ext x3
 have t3:=w3.top
 obtain ⟨h8,e8,w8,n8,k8⟩:=w3.st (cx:=ctx) 0 (f:=0) (u:=.agg [.int .i64 (rdTree s at').e,.int .i64 (rdTree s at').fat]) rfl (by omega) ty26 rfl (Nat.zero_le _) rfl rfl
 have l8:=w8.low
 have t8:=w8.top
 have ow8:=ow3.keep (h':=h8) (by omega) fun b hb=>k8 b (by have:=hv3 b hb; omega)
 refine ⟨h8,e8,_,w8.ld1 0 rfl ty24 rfl rfl,fun c=>?_,fun c=>?_⟩
 ·rw [if_neg c] at hR
  obtain ⟨h12,e12,w12,n12,_⟩:=w8.st (cx:=ctx) 0 (f:=0) (u:=.agg [.int .i64 (rdTree s at').e,.int .i64 (rdTree s at').fat]) rfl (by omega) ty26 rfl (Nat.zero_le _) rfl rfl
  refine ⟨⟨by omega,by omega⟩,_,_,w8.ldA 0 rfl ty26 rfl rfl,h12,e12,endL.ok (leaveL.cell (a:=6) (w12.ldA 0 rfl ty26 rfl rfl) rfl) ?_⟩
  have:=hq h12 .nilslice (w12.ex0.mono (by omega))
  rw [← hR] at this
  exact this ⟨by simp,.inl ⟨rfl,rfl⟩⟩ fun b hb=>(by cases hb)
 ·have c0:(rdTree s at').e=0:=by omega
  rw [if_pos c0] at hR
  obtain ⟨hr,hf⟩:=rdTree_ok c0
  refine lengths_ok ow8 hr (by omega) fun h14 v15 x14 s14 hv15=>⟨_,_,rfl,?_⟩
  have w14:=w8.ext x14
  have t14:=w14.top
  have l14:=w14.low
  obtain ⟨h19,e19,w19,n19,k19⟩:=w14.st (cx:=ctx) 0 (f:=0) (u:=.agg [.int .i64 (rdTree s at').e,.int .i64 (rdTree s at').fat]) rfl (by omega) ty26 rfl (Nat.zero_le _) rfl rfl
  refine ⟨⟨by omega,by omega⟩,_,_,w14.ldA 0 rfl ty26 rfl rfl,h19,e19,endL.ok (leaveL.cell (a:=6) (w19.ldA 0 rfl ty26 rfl rfl) rfl) ?_⟩
  have:=hq h19 v15 (w19.ex0.mono (by omega))
  rw [← hR,lens_len] at this
  rw [c0,hf]
  refine this ?_ fun b hb=>by have:=hv15 b hb; have:=w8.le; omega
  obtain ⟨q1,q2⟩:=s14
  refine ⟨q1,q2.imp id ?_⟩
  rintro ⟨b,o,cp,cs,k,w,op,rfl,hb,hg,hc⟩
  have hbe:b≠h.next:=by
   have:=hv15 b rfl
   have:=w8.lt 0 rfl
   omega
  exact ⟨b,o,cp,cs,k,w,op,rfl,by omega,by rw [k19 b hbe]; exact hg,hc⟩
end Go.Proofs.YtnpeieeomokomaaGreat
