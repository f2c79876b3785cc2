/- TN. No condition. -/
import Derived.Test.YtnpeieeomokomaaGreatZTM
import Derived.Test.YtnpeieeomokomaaGreatZTI
namespace Go.Proofs.YtnpeieeomokomaaGreat
open Go.Sim
open Go (Oper)
theorem _root_.Go.Sim.aop_idx {c:Ctx} {o:Oper} {t:Nat} {a x:Go.Operand} {e:Go.Operand→Option V} {h:H} {p v w:V} (ho:o.op = .indexAddr t a x) (he:e a=some p) (hx:e x=some v) (hs:aidx c t p v=some w):aop c o e h=some (.val w h):=by
 unfold aop
 simp only [ho,he,hx,hs]
 rfl
theorem _root_.Go.Sim.opsF_val {c:Ctx} {orc:Nat→List V→H→Option (V×H)} {b:Bool} {ih:Bool→Code→St→Option Out} {o:Oper} {ops l:List Oper} {n t:Nat} {tm:Tm} {d:List AD} {h:H} {v:V} {res:Option Out} (hg:o.guard=none) (ha:aop c o (evx tm) h=some (.val v h)) (hd:o.dst=some t) (ht:Nat.blt t n=true)
  (e:opsF c orc b ih ops l ⟨n,Tb.set tm t v,d,h⟩=res):opsF c orc b ih ops (o :: l) ⟨n,tm,d,h⟩=res:=by
 have hw:wantedB ops tm o=true:=by unfold wantedB; rw [hg]
 have hst:stepOp c orc b ih o ⟨n,tm,d,h⟩=some (.normal,⟨n,Tb.set tm t v,d,h⟩):=by
  unfold stepOp
  simp only [ha]
  unfold putD
  simp only [hd,ht,cond_true]
 show cond (wantedB ops tm o) (match stepOp c orc b ih o ⟨n,tm,d,h⟩ with | some (.normal,s')=>_ | some (x,s')=>_ | none=>none) _=_
 rw [hw,cond_true,hst]
 exact e
abbrev oBr (s:List UInt8) (left:Nat):O:=.cells (.ls [.str s,.int .i64 left]) ⟨0,120+1,0⟩ true false
abbrev oCl (c:Cl):O:=.cells (.ls (cellV c)) ⟨0,131+1,0⟩ true false
noncomputable def opsE:List Oper:=d44_1.toList
noncomputable def oE (i:Nat):Oper:=(opsE[i]?).getD default
theorem opsE_is:opsE=[oE 0,oE 1,oE 2,oE 3,oE 4,oE 5,oE 6,oE 7,oE 8,oE 9]:=by kernel_rfl
theorem okE:drawOk opsE=some 8:=by kernel_rfl
section
variable (tm:Tm) (y16 y9 v62 v66 v67 v68 v69 v71 v72 v73 v74 v75 v76 v77 v78 v81 v82 v83 v84 v85 v86 v87:V) (j x:Int) (pa ps pq pr:Nat)
abbrev TE0:Tm:=Tb.set (Tb.set (Tb.set (Tb.set (Tb.set (Tb.set (Tb.set (Tb.set (Tb.set (Tb.set (Tb.set (Tb.set (Tb.set (Tb.set (Tb.set (Tb.set (Tb.set (Tb.set (Tb.set (Tb.set (Tb.set (Tb.set (Tb.set (Tb.set (Tb.set (Tb.set (Tb.set (Tb.set (Tb.set (Tb.set (Tb.set (Tb.set (putAll tm [(16,y16),(9,y9),(17,(.int .i64 j)),(11,.ptr pa 0),(7,.ptr ps 0)]) 61 y16) 62 v62) 63 (.bool false)) 64 y9) 65 (.int .i64 j)) 66 v66) 67 v67) 68 v68) 69 v69) 18 (.ptr pq 0)) 70 y16) 71 v71) 72 v72) 73 v73) 74 v74) 16 v74) 75 v75) 76 v76) 77 v77) 78 v78) 79 (.bool false)) 81 v81) 82 v82) 83 v83) 84 v84) 80 v84) 85 v85) 86 v86) 87 v87) 19 (.ptr pr 0)) 20 (.int .u64 x)) 21 v87
variable (t0:Tm) (s:List UInt8) (left:Nat) (z w:Int)
def TE1:Tm:=Tb.set t0 88 (.int .i64 j)
def TE2:Tm:=Tb.set (TE1 j t0) 89 (brd s left)
def TE3:Tm:=Tb.set (TE2 j t0 s left) 90 (.ptr pq 2)
def TE4:Tm:=Tb.set (TE3 j pq t0 s left) 91 (.int .i64 z)
def TE5:Tm:=Tb.set (TE4 j pq t0 s left z) 92 (.int .u64 x)
def TE6:Tm:=Tb.set (TE5 j x pq t0 s left z) 93 (.int .i64 (w64 x))
def TE7:Tm:=Tb.set (TE6 j x pq t0 s left z) 94 (.int .i64 (w64 (addF z (w64 x))))
def TE9:Tm:=Tb.set (TE7 j x pq t0 s left z) 95 (.ptr pa w.toNat)
variable (h:H)
theorem aE0:aop ctx (oE 0) (evx (TE0 tm y16 y9 v62 v66 v67 v68 v69 v71 v72 v73 v74 v75 v76 v77 v78 v81 v82 v83 v84 v85 v86 v87 j x pa ps pq pr)) h=some (.val (.int .i64 j) h):=by kernel_rfl
theorem eE1:(oE 1).op = .load 120 (t 19)∧evx (TE1 j (TE0 tm y16 y9 v62 v66 v67 v68 v69 v71 v72 v73 v74 v75 v76 v77 v78 v81 v82 v83 v84 v85 v86 v87 j x pa ps pq pr)) (t 19)=some (.ptr pr 0):=⟨by kernel_rfl,by kernel_rfl⟩
theorem aE2:aop ctx (oE 2) (evx (TE2 j (TE0 tm y16 y9 v62 v66 v67 v68 v69 v71 v72 v73 v74 v75 v76 v77 v78 v81 v82 v83 v84 v85 v86 v87 j x pa ps pq pr) s left)) h=some (.val (.ptr pq 2) h):=by kernel_rfl
theorem eE3:(oE 3).op = .load 3 (t 90)∧evx (TE3 j pq (TE0 tm y16 y9 v62 v66 v67 v68 v69 v71 v72 v73 v74 v75 v76 v77 v78 v81 v82 v83 v84 v85 v86 v87 j x pa ps pq pr) s left) (t 90)=some (.ptr pq 2):=⟨by kernel_rfl,by kernel_rfl⟩
theorem aE4:aop ctx (oE 4) (evx (TE4 j pq (TE0 tm y16 y9 v62 v66 v67 v68 v69 v71 v72 v73 v74 v75 v76 v77 v78 v81 v82 v83 v84 v85 v86 v87 j x pa ps pq pr) s left z)) h=some (.val (.int .u64 x) h):=by kernel_rfl
theorem aE5:aop ctx (oE 5) (evx (TE5 j x pq (TE0 tm y16 y9 v62 v66 v67 v68 v69 v71 v72 v73 v74 v75 v76 v77 v78 v81 v82 v83 v84 v85 v86 v87 j x pa ps pq pr) s left z)) h=some (.val (.int .i64 (w64 x)) h):=by kernel_rfl
theorem aE6:aop ctx (oE 6) (evx (TE6 j x pq (TE0 tm y16 y9 v62 v66 v67 v68 v69 v71 v72 v73 v74 v75 v76 v77 v78 v81 v82 v83 v84 v85 v86 v87 j x pa ps pq pr) s left z)) h=some (.val (.int .i64 (w64 (addF z (w64 x)))) h):=by kernel_rfl
theorem eE7:(oE 7).op = .store 120 (t 7) (t 89)∧evx (TE7 j x pq (TE0 tm y16 y9 v62 v66 v67 v68 v69 v71 v72 v73 v74 v75 v76 v77 v78 v81 v82 v83 v84 v85 v86 v87 j x pa ps pq pr) s left z) (t 7)=some (.ptr ps 0)∧evx (TE7 j x pq (TE0 tm y16 y9 v62 v66 v67 v68 v69 v71 v72 v73 v74 v75 v76 v77 v78 v81 v82 v83 v84 v85 v86 v87 j x pa ps pq pr) s left z) (t 89)=some (brd s left):=⟨by kernel_rfl,by kernel_rfl,by kernel_rfl⟩
theorem eE8:(oE 8).op = .indexAddr 126 (t 11) (t 88)∧evx (TE7 j x pq (TE0 tm y16 y9 v62 v66 v67 v68 v69 v71 v72 v73 v74 v75 v76 v77 v78 v81 v82 v83 v84 v85 v86 v87 j x pa ps pq pr) s left z) (t 11)=some (.ptr pa 0)∧evx (TE7 j x pq (TE0 tm y16 y9 v62 v66 v67 v68 v69 v71 v72 v73 v74 v75 v76 v77 v78 v81 v82 v83 v84 v85 v86 v87 j x pa ps pq pr) s left z) (t 88)=some (.int .i64 j):=⟨by kernel_rfl,by kernel_rfl,by kernel_rfl⟩
theorem eE9:(oE 9).op = .store 3 (t 95) (t 94)∧evx (TE9 j x pa pq (TE0 tm y16 y9 v62 v66 v67 v68 v69 v71 v72 v73 v74 v75 v76 v77 v78 v81 v82 v83 v84 v85 v86 v87 j x pa ps pq pr) s left z w) (t 95)=some (.ptr pa w.toNat)∧evx (TE9 j x pa pq (TE0 tm y16 y9 v62 v66 v67 v68 v69 v71 v72 v73 v74 v75 v76 v77 v78 v81 v82 v83 v84 v85 v86 v87 j x pa ps pq pr) s left z w) (t 94)=some (.int .i64 (w64 (addF z (w64 x)))):=⟨by kernel_rfl,by kernel_rfl,by kernel_rfl⟩
theorem soE7:storeOk opsE (befores opsE []) 8 7 (TE7 j x pq (TE0 tm y16 y9 v62 v66 v67 v68 v69 v71 v72 v73 v74 v75 v76 v77 v78 v81 v82 v83 v84 v85 v86 v87 j x pa ps pq pr) s left z) (oE 7)=((cond (!(Nat.beq ps pq) && true) true false && true) || false):=by kernel_rfl
theorem gE9:getV (TE9 j x pa pq (TE0 tm y16 y9 v62 v66 v67 v68 v69 v71 v72 v73 v74 v75 v76 v77 v78 v81 v82 v83 v84 v85 v86 v87 j x pa ps pq pr) s left z w) 16=v74∧getV (TE9 j x pa pq (TE0 tm y16 y9 v62 v66 v67 v68 v69 v71 v72 v73 v74 v75 v76 v77 v78 v81 v82 v83 v84 v85 v86 v87 j x pa ps pq pr) s left z w) 9=y9∧getV (TE9 j x pa pq (TE0 tm y16 y9 v62 v66 v67 v68 v69 v71 v72 v73 v74 v75 v76 v77 v78 v81 v82 v83 v84 v85 v86 v87 j x pa ps pq pr) s left z w) 17 = .int .i64 j∧getV (TE9 j x pa pq (TE0 tm y16 y9 v62 v66 v67 v68 v69 v71 v72 v73 v74 v75 v76 v77 v78 v81 v82 v83 v84 v85 v86 v87 j x pa ps pq pr) s left z w) 11 = .ptr pa 0∧getV (TE9 j x pa pq (TE0 tm y16 y9 v62 v66 v67 v68 v69 v71 v72 v73 v74 v75 v76 v77 v78 v81 v82 v83 v84 v85 v86 v87 j x pa ps pq pr) s left z w) 7 = .ptr ps 0:=⟨by kernel_rfl,by kernel_rfl,by kernel_rfl,by kernel_rfl,by kernel_rfl⟩
end
theorem dE:(oE 0).dst=some 88∧(oE 1).dst=some 89∧(oE 2).dst=some 90∧(oE 3).dst=some 91∧(oE 4).dst=some 92∧(oE 5).dst=some 93∧(oE 6).dst=some 94∧(oE 7).dst=none∧(oE 8).dst=some 95∧(oE 9).dst=none :=
 ⟨by kernel_rfl,by kernel_rfl,by kernel_rfl,by kernel_rfl,by kernel_rfl,by kernel_rfl,by kernel_rfl,by kernel_rfl,by kernel_rfl,by kernel_rfl⟩
theorem guE:(oE 0).guard=none∧(oE 1).guard=none∧(oE 2).guard=none∧(oE 3).guard=none∧(oE 4).guard=none∧(oE 5).guard=none∧(oE 6).guard=none∧(oE 7).guard=none∧(oE 8).guard=none∧(oE 9).guard=none :=
 ⟨by kernel_rfl,by kernel_rfl,by kernel_rfl,by kernel_rfl,by kernel_rfl,by kernel_rfl,by kernel_rfl,by kernel_rfl,by kernel_rfl,by kernel_rfl⟩
set_option maxRecDepth 100000 in
theorem rTwo_dr {S:Nat→Prop} {hb h:H} {c pa ps pq pr i a b left l2 x:Nat} {cl:Cl} {s:List UInt8} {tm:Tm} {y16 y9 v62 v66 v67 v68 v69 v71 v72 v73 v74 v75 v76 v77 v78 v81 v82 v83 v84 v85 v86 v87:V} {d:List AD} {Q:AX→St→Prop}
  (w:Vw S hb h c [(pr,oBr s l2),(pq,oCl cl),(pa,oPair (arr i a b).1 (arr i a b).2),(ps,oBr s left)]) (hn:h.next≤T.top) (hl:h.low≤T.top) (hx:cl.2.2+x<9223372036854775808)
  (hq:∀ h',Vw S hb h' c [(pr,oBr s l2),(pq,oCl cl),(pa,oPair (arr (i+1) b (cl.2.2+x)).1 (arr (i+1) b (cl.2.2+x)).2),(ps,oBr s l2)]→h'.next=h.next→(∀ q,q≠pa→q≠ps→h'.get q=h.get q) →
   ∀ tm',Has tm' [(16,v74),(9,y9),(17,.int .i64 (i % 2:Nat)),(11,.ptr pa 0),(7,.ptr ps 0)]→Q .normal ⟨116,tm',d,h'⟩) :
  wpDr P ctx false opsE ⟨116,TE0 tm y16 y9 v62 v66 v67 v68 v69 v71 v72 v73 v74 v75 v76 v77 v78 v81 v82 v83 v84 v85 v86 v87 (i % 2:Nat) x pa ps pq pr,d,h⟩ Q:=by
 have hlt:ps<pq:=by
  have h1:=w.bk.2.2.2.2.2.2.2.2.2.1
  have h2:=w.bk.2.2.2.2.2.2.1
  omega
 have w1:=w.upd 3 (o':=oBr s l2) rfl hn
 have a7:ast ctx 120 (topH h) (.ptr ps 0) (brd s l2)=some ((topH h).upd ps (some (oBr s l2))):=ast_at ty120 (show (topH h).get ps=_ from w.get 3 rfl) rfl (Nat.zero_le _) rfl rfl
 have la:=w.lt 3 rfl
 have L1:lowM h ((topH h).upd ps (some (oBr s l2)))=h.upd ps (some (oBr s l2)):=lowM_upd (by omega)
 have l1:(h.upd ps (some (oBr s l2))).low≤T.top:=by rw [H.low_upd]; omega
 have n1:(h.upd ps (some (oBr s l2))).next=h.next:=rfl
 have k1:∀ q,q≠ps→(h.upd ps (some (oBr s l2))).get q=h.get q:=fun q hq=>get_upd_ne _ (by omega) hq
 generalize h.upd ps (some (oBr s l2))=h1 at w1 L1 l1 n1 k1
 have ex:w64 (((cl.2.2:Nat):Int)+w64 ((x:Nat):Int))=((cl.2.2+x:Nat):Int):=by
  rw [w64n (by omega)]
  exact w64n (n:=cl.2.2+x) (by omega)
 obtain ⟨h2,a9,w2,n2,k2⟩:=w1.st (cx:=ctx) 2 (f:=i % 2) (u:=.int .i64 (cl.2.2+x:Nat)) rfl (by omega) ty3 rfl (Nat.zero_le _) rfl (arr_put i a b _)
 refine ⟨orc0,8,.normal,⟨116,TE9 (i % 2:Nat) x pa pq _ s l2 (cl.2.2:Nat) (i % 2:Nat),d,h2⟩,orc0_ok,okE,?_,hq h2 w2 (by omega) (fun q q1 q2=>(k2 q q1).trans (k1 q q2)) _ ⟨(gE9 tm y16 y9 v62 v66 v67 v68 v69 v71 v72 v73 v74 v75 v76 v77 v78 v81 v82 v83 v84 v85 v86 v87 _ _ _ _ _ pr _ _ _ _).1,(gE9 tm y16 y9 v62 v66 v67 v68 v69 v71 v72 v73 v74 v75 v76 v77 v78 v81 v82 v83 v84 v85 v86 v87 _ _ _ _ _ pr _ _ _ _).2.1,(gE9 tm y16 y9 v62 v66 v67 v68 v69 v71 v72 v73 v74 v75 v76 v77 v78 v81 v82 v83 v84 v85 v86 v87 _ _ _ _ _ pr _ _ _ _).2.2.1,(gE9 tm y16 y9 v62 v66 v67 v68 v69 v71 v72 v73 v74 v75 v76 v77 v78 v81 v82 v83 v84 v85 v86 v87 _ _ _ _ _ pr _ _ _ _).2.2.2.1,(gE9 tm y16 y9 v62 v66 v67 v68 v69 v71 v72 v73 v74 v75 v76 v77 v78 v81 v82 v83 v84 v85 v86 v87 _ _ _ _ _ pr _ _ _ _).2.2.2.2,trivial⟩⟩
 have so:=soE7 tm y16 y9 v62 v66 v67 v68 v69 v71 v72 v73 v74 v75 v76 v77 v78 v81 v82 v83 v84 v85 v86 v87 (i % 2:Nat) x pa ps pq pr s l2 (cl.2.2:Nat)
 have E1:=eE1 tm y16 y9 v62 v66 v67 v68 v69 v71 v72 v73 v74 v75 v76 v77 v78 v81 v82 v83 v84 v85 v86 v87 (i % 2:Nat) x pa ps pq pr
 have E3:=eE3 tm y16 y9 v62 v66 v67 v68 v69 v71 v72 v73 v74 v75 v76 v77 v78 v81 v82 v83 v84 v85 v86 v87 (i % 2:Nat) x pa ps pq pr s l2
 have E7:=eE7 tm y16 y9 v62 v66 v67 v68 v69 v71 v72 v73 v74 v75 v76 v77 v78 v81 v82 v83 v84 v85 v86 v87 (i % 2:Nat) x pa ps pq pr s l2 (cl.2.2:Nat)
 have E8:=eE8 tm y16 y9 v62 v66 v67 v68 v69 v71 v72 v73 v74 v75 v76 v77 v78 v81 v82 v83 v84 v85 v86 v87 (i % 2:Nat) x pa ps pq pr s l2 (cl.2.2:Nat)
 have E9:=eE9 tm y16 y9 v62 v66 v67 v68 v69 v71 v72 v73 v74 v75 v76 v77 v78 v81 v82 v83 v84 v85 v86 v87 (i % 2:Nat) x pa ps pq pr s l2 (cl.2.2:Nat) (i % 2:Nat)
 have A0:=aE0 tm y16 y9 v62 v66 v67 v68 v69 v71 v72 v73 v74 v75 v76 v77 v78 v81 v82 v83 v84 v85 v86 v87 (i % 2:Nat) x pa ps pq pr
 have A2:=aE2 tm y16 y9 v62 v66 v67 v68 v69 v71 v72 v73 v74 v75 v76 v77 v78 v81 v82 v83 v84 v85 v86 v87 (i % 2:Nat) x pa ps pq pr s l2
 have A4:=aE4 tm y16 y9 v62 v66 v67 v68 v69 v71 v72 v73 v74 v75 v76 v77 v78 v81 v82 v83 v84 v85 v86 v87 (i % 2:Nat) x pa ps pq pr s l2 (cl.2.2:Nat)
 have A5:=aE5 tm y16 y9 v62 v66 v67 v68 v69 v71 v72 v73 v74 v75 v76 v77 v78 v81 v82 v83 v84 v85 v86 v87 (i % 2:Nat) x pa ps pq pr s l2 (cl.2.2:Nat)
 have A6:=aE6 tm y16 y9 v62 v66 v67 v68 v69 v71 v72 v73 v74 v75 v76 v77 v78 v81 v82 v83 v84 v85 v86 v87 (i % 2:Nat) x pa ps pq pr s l2 (cl.2.2:Nat)
 generalize TE0 tm y16 y9 v62 v66 v67 v68 v69 v71 v72 v73 v74 v75 v76 v77 v78 v81 v82 v83 v84 v85 v86 v87 (i % 2:Nat) x pa ps pq pr=t0 at *
 rw [beq_ne (show ps≠pq by omega)] at so
 obtain ⟨d0,d1,d2,d3,d4,d5,d6,d7,d8,d9⟩:=dE
 obtain ⟨u0,u1,u2,u3,u4,u5,u6,u7,u8,u9⟩:=guE
 generalize hbs:befores opsE []=bs at so ⊢
 generalize hops:opsE=ops at so ⊢
 have hl6:ops=[oE 0,oE 1,oE 2,oE 3,oE 4,oE 5,oE 6,oE 7,oE 8,oE 9]:=by rw [← hops]; exact opsE_is
 have main:drawF ctx orc0 false ih0 ops bs 8 8 0 [oE 0,oE 1,oE 2,oE 3,oE 4,oE 5,oE 6,oE 7,oE 8,oE 9] ⟨116,t0,d,h⟩=some (.done .normal ⟨116,TE9 (i % 2:Nat) x pa pq t0 s l2 (cl.2.2:Nat) (i % 2:Nat),d,h2⟩):=by
  refine drawF_val u0 (A0 _) d0 rfl hn hl ?_
  refine drawF_val u1 (aop_load E1.1 E1.2 (ald_agg ty120 rfl (show (topH h).get pr=_ from w.get 0 rfl) rfl)) d1 rfl hn hl ?_
  refine drawF_val u2 (A2 _) d2 rfl hn hl ?_
  refine drawF_val u3 (aop_load E3.1 E3.2 (ald_one ty3 rfl (show (topH h).get pq=_ from w.get 1 rfl) rfl)) d3 rfl hn hl ?_
  refine drawF_val u4 (A4 _) d4 rfl hn hl ?_
  refine drawF_val u5 (A5 _) d5 rfl hn hl ?_
  refine drawF_val u6 (A6 _) d6 rfl hn hl ?_
  refine drawF_st u7 (aop_store E7.1 E7.2.1 E7.2.2 a7) d7 (so.trans rfl) ?_
  rw [L1]
  refine opsF_val u8 (aop_idx E8.1 E8.2.1 E8.2.2 (aidx_pair (Nat.mod_lt _ (by decide)))) d8 rfl ?_
  exact opsF_st u9 (aop_store E9.1 E9.2.1 E9.2.2 (by rw [addF_eq,ex]; exact a9)) d9
 rw [← hl6] at main
 exact main
end Go.Proofs.YtnpeieeomokomaaGreat
namespace Go.Proofs.YtnpeieeomokomaaGreat
open Go.Sim
structure RwI (S:Nat→Prop) (hb h:H) (c pa ps:Nat) (s:List UInt8) (left i a b:Nat) (v:V) (out:List Int):Prop where
 vw:Vw S hb h c [(pa,oPair (arr i a b).1 (arr i a b).2),(ps,oBr s left)]
 ow:Ow h v tint out.length (ints out)
 sp:Sep S hb.next [(pa,oPair (arr i a b).1 (arr i a b).2),(ps,oBr s left)] v
theorem _root_.Go.Sim.Sl.keepX {S:Nat→Prop} {h h':H} {v:V} {esz n m:Nat} {xs:List V} (s:Sl h v esz n xs) (e:ExtX S h h' m) (hS:∀ b,vblk v=some b→¬ S b):Sl h' v esz n xs:=by
 obtain ⟨h1,h2⟩:=s
 refine ⟨h1,h2.imp id ?_⟩
 rintro ⟨b,o,cp,cs,k,w,op,rfl,h3,h4,h5⟩
 exact ⟨b,o,cp,cs,k,w,op,rfl,Nat.lt_of_lt_of_le h3 e.le,by rw [e.get b h3 (hS b rfl)]; exact h4,h5⟩
theorem fa_back1r {p o:Nat} {h:H} {k:V→H→Prop}:wpFA ctx 120 1 h (.ptr p o) k=k (.ptr p (o+1)) h:=by kernel_rfl
set_option maxRecDepth 100000 in
set_option maxHeartbeats 4000000 in
theorem rTwoLoop_ok {S:Nat→Prop} {hb h:H} {c0 pa ps:Nat} {s:List UInt8} {v9:V} {log left a b:Nat} {l:List Int} {tm:Tm} {R:AX→St→Prop} (g:GD log l) (hs:s.length≤2000) (sl9:Sl hb v9 3 (2^log) (cellsV (dtab log l))) (hS:∀ b,vblk v9=some b→¬ S b) (hl:(left:Int)≤bsize s)
  (hab:a<2^log∧b<2^log) (I:RwI S hb h c0 pa ps s left 0 a b .nilslice []) (hn:hb.next+c0+1100≤T.top) (hlow:hb.low≤T.top) (ht:Has tm [(16,.nilslice),(9,v9),(17,.int .i64 0),(11,.ptr pa 0),(7,.ptr ps 0)])
  (hret:∀ tm' h',two (dtab log l) s 255 left a b []=none→ExtX S hb h' (c0+1100)→Has tm' [(4,.nilslice),(5,.int .i64 21)]→R .ret ⟨116,tm',[],h'⟩)
  (hex:∀ tm' h' left' i a' b' d v' out',RwI S hb h' (c0+1100) pa ps s left' i a' b' v' out'→out'.length=i+1→i<255→b'<2^log→(dtab log l)[b']? = some d→(i+1=255∨0<left'→two (dtab log l) s 255 left a b []=none)→(¬ (i+1=255∨0<left')→two (dtab log l) s 255 left a b []=some (out'++[d.1])) →
   Has tm' [(16,v'),(9,v9),(11,.ptr pa 0),(7,.ptr ps 0)]→R (.exit 2) ⟨116,tm',[],h'⟩):wpC P ctx false (.loop l44_3) ⟨116,tm,[],h⟩ R:=by
 generalize hR0:two (dtab log l) s 255 left a b []=R0 at hex hret
 have hpw:=pow_log g.lg
 have hlg:=g.lg
 have hbz:=bsize_lt s
 refine wpC.round (fun k tm h=>∃ (i f left a b:Nat) (v:V) (out:List Int),k=256-i∧i+f=255∧out.length=i∧(left:Int)≤bsize s∧a<2^log∧b<2^log∧RwI S hb h (c0+4*i) pa ps s left i a b v out∧two (dtab log l) s f left a b out=R0 ∧
  Has tm [(16,v),(9,v9),(17,.int .i64 (i % 2:Nat)),(11,.ptr pa 0),(7,.ptr ps 0)]) 256 ⟨0,255,left,a,b,.nilslice,[],rfl,rfl,rfl,hl,hab.1,hab.2,I,hR0,ht.sub (by kernel_rfl)⟩ ?_
 clear I ht hR0 hl hab
 rintro k tm h ⟨i,f,left,a,b,v,out,rfl,hif,hol,hl,ha,hb2,I,hR0,hs1⟩
 obtain ⟨w,ow,sp⟩:=I
 have tw:=w.top
 have lw:=w.low
 have hle:=w.le
 have hi2:i % 2<2:=Nat.mod_lt _ (by decide)
 refine wpC.at hs1 vl44_3 rfl rfl ⟨_,ow.sl.len ty23 rfl,fun c1=>?_,fun c1=>?_⟩
 ·have hf0:f=0:=by omega
  subst hf0
  exact hs1.on fun tm' hs'=>hret tm' h hR0.symm (w.more (m:=c0+1100) (by omega)).ex (hs'.sub (by kernel_rfl))
 obtain ⟨c,hc⟩:∃ c,(dtab log l)[a]? = some c:=⟨_,List.getElem?_eq_getElem (by rw [dtab_len]; exact ha)⟩
 have hcm:=List.mem_of_getElem? hc
 obtain ⟨_,hcb,hcs⟩:=dtab_facts g c hcm
 have hsym:=dtab_sym g hcm
 obtain ⟨f,rfl⟩:∃ f',f=f'+1:=⟨f-1,by omega⟩
 obtain ⟨b1,o1,a1,a2,_⟩:=cellsV_at hc (sl9.keepX w.ex hS) ha
 refine ⟨pa,i % 2,aidx_pair hi2,a,w.ld1 0 rfl ty3 rfl (arr_cur i a b),b1,o1,a1,_,_,_,a2,by omega,?_⟩
 rintro p14 h15 rfl e15
 obtain ⟨_,x15,_⟩:=made_new e15 (by omega)
 have w15:=w.new e15 (by omega)
 have t15:=w15.top
 obtain ⟨h16,e16,w16,n16,k16⟩:=w15.st (cx:=ctx) 0 (f:=0) (u:=.agg (cellV c)) rfl (by omega) ty131 rfl (Nat.zero_le _) rfl rfl
 have ow16:=(ow.ext x15).keep (h':=h16) (by omega) fun b' hb'=>k16 b' (by have:=ow.blk hb'; omega)
 have sp16:Sep S hb.next [(h.next,oCl c),(pa,oPair (arr i a b).1 (arr i a b).2),(ps,oBr s left)] v:=sp.more fun b' hb'=>ow.blk hb'
 obtain ⟨v18,h19,e19,sl19,x19⟩:=build1i (h:=h16) c.1 (by omega)
 have w19:=w16.ext x19
 have t19:=w19.top
 obtain ⟨v20,h21,e21,A⟩:=Ow.append (c:=ctx) (te:=tint) (m:=1) (ow16.ext x19) sl19 (by decide) ty23 rfl ty3 rfl rfl (by show (out.length+1)*1≤_; omega) (by show (out.length+1)*8≤_; omega) (by omega)
 obtain ⟨w21,ow21,sp21⟩:=w19.grow (k:=(out++[c.1]).length) (xs:=ints (out++[c.1])) sp16 (by rw [ints_app,List.length_append]; exact A)
 have t21:=w21.top
 have lo21:=w21.low
 have hol2:(out++[c.1]).length=i+1:=by rw [List.length_append,hol]; rfl
 refine ⟨h16,e16,_,w16.ld1 0 rfl ty3 rfl rfl,v18,h19,e19,trivial,v20,h21,e21,_,w21.ld1 0 rfl ty3 rfl rfl,?_⟩
 rw [fa_back1r]
 refine ⟨left,w21.ld1 2 rfl ty3 rfl rfl,fun c2=>?_,fun c2=>?_⟩
 ·-- too few bits
  obtain ⟨d,hd⟩:∃ d,(dtab log l)[b]? = some d:=⟨_,List.getElem?_eq_getElem (by rw [dtab_len]; exact hb2)⟩
  have hun:R0=if f=0∨0<left then none else some (out++[c.1,d.1]):=by
   rw [← hR0]
   conv=>lhs; unfold two
   rw [hc]
   simp only
   rw [if_pos (by omega),hd]
  refine hs1.on fun tm' hs'=>hex tm' h21 left i a b d v20 (out++[c.1]) ⟨(w21.drop 1).more (by omega),ow21,?_⟩ hol2 (by omega) hb2 hd (fun q=>?_) (fun q=>?_) (hs'.sub (by kernel_rfl))
  ·exact sp21.less fun q hq=>⟨q,List.mem_cons_of_mem _ hq,rfl⟩
  ·rw [hun,if_pos (by omega)]
  ·rw [hun,if_neg (by omega),List.append_assoc]; rfl
 ·-- bits enough
  refine ⟨s,left,w21.ldA 2 rfl ty120 rfl rfl,_,w21.ld1 0 rfl ty3 rfl rfl,rTakeB_ok (n:=c.2.1) hs hl (by omega) ?_⟩
  unfold tkB
  rw [if_pos (by omega)]
  refine ⟨_,_,_,_,rfl,by omega,?_⟩
  rintro p30 h31 rfl e31
  obtain ⟨_,x31,_⟩:=made_new e31 (by omega)
  have w31:=w21.new e31 (by omega)
  have t31:=w31.top
  obtain ⟨h32,e32,w32,n32,k32⟩:=w31.st (cx:=ctx) 0 (f:=0) (u:=brd s (left-c.2.1)) rfl (by omega) ty120 rfl (Nat.zero_le _) rfl rfl
  have lo32:=w32.low
  have ow32:=(ow21.ext x31).keep (h':=h32) (by omega) fun b' hb'=>k32 b' (by have:=ow21.blk hb'; omega)
  have hbn:=bnum_lt s left c.2.1
  refine ⟨h32,e32,rTwo_dr w32 (by omega) (by omega) (by omega) fun h2 w2 n2 k2 tm2 hs2=>?_⟩
  have ow2:=ow32.keep (h':=h2) (by omega) fun b' hb'=>k2 b' (fun q=>(sp21 b' hb').2 _ (List.mem_cons_of_mem _ (List.mem_cons_self ..)) q.symm) (fun q=>(sp21 b' hb').2 _ (List.mem_cons_of_mem _ (List.mem_cons_of_mem _ (List.mem_cons_self ..))) q.symm)
  have ej:w64 (1-((i % 2:Nat):Int))=(((i+1) % 2:Nat):Int):=by rw [w64_id (by omega) (by omega)]; omega
  refine thenC.nx (wpS.at hs2 vr44_2 rfl rfl (hs2.on fun tm3 hs3=>hs3.slt fun tm4 hs4=>⟨rfl,rfl,256-(i+1),by omega,i+1,f,left-c.2.1,b,c.2.2+bnum s left c.2.1,v20,out++[c.1],rfl,by omega,hol2,by omega,hb2,by omega,⟨(w2.drop 2).more (by omega),ow2,?_⟩,?_,?_⟩))
  ·exact sp21.less fun q hq=>by
    simp only [List.drop_succ_cons,List.drop_zero,List.mem_cons,List.not_mem_nil,or_false] at hq
    rcases hq with rfl | rfl
    ·exact ⟨_,List.mem_cons_of_mem _ (List.mem_cons_self ..),rfl⟩
    ·exact ⟨_,List.mem_cons_of_mem _ (List.mem_cons_of_mem _ (List.mem_cons_self ..)),rfl⟩
  ·rw [← hR0]
   conv=>rhs; unfold two
   rw [hc]
   simp only
   rw [if_neg (by omega)]
  ·rw [← ej]; exact hs4.sub (by kernel_rfl)
end Go.Proofs.YtnpeieeomokomaaGreat
namespace Go.Proofs.YtnpeieeomokomaaGreat
open Go.Sim
set_option maxRecDepth 100000 in
set_option maxHeartbeats 4000000 in
theorem rReadTwo_ok {v:V} {log:Nat} {l:List Int} {s:List UInt8} {h:H} {Q:V→H→Prop} (sl:Sl h v 1 l.length (ints l)) (g:GD log l) (hs:s.length≤2000) (hn:h.next+1600≤T.top) (hlow:h.low≤T.top)
  (hq:∀ h' v',Ext h h' 1500→Ow h' v' tint (rdTwo log l s).2.length (ints (rdTwo log l s).2)→(∀ b,vblk v'=some b→h.next≤b)→Q (.tuple [v',.int .i64 (rdTwo log l s).1]) h'):RF P ctx 44 [.agg [.int .i64 log,v],.str s] h Q:=by
 have hpw:=pow_log g.lg
 have hlg:=g.lg
 have hbz:=bsize_lt s
 have bad:∀ e,rdTwo log l s=(e,[])→∀ h',Ext h h' 1500→Q (.tuple [.nilslice,.int .i64 e]) h':=fun e he h' x=>by
  have:=hq h' .nilslice x
  rw [he] at this
  exact this (Ow.nil _ _) fun b hb=>(by cases hb)
 refine RF.enterS ctx_ok fn44 (ble _ _ rfl) (ble _ _ rfl) vb44 (wpCs_two sl ⟨by omega,?_⟩)
 rintro p0 h1 rfl e1
 have w1:=(Vw.nil (S:=none0) (h:=h)).new e1 (by omega)
 have t1:=w1.top
 have s1:=sl.ext w1.ex0
 refine ⟨_,_,w1.ldA 0 rfl ty59 rfl rfl,rDistCheck_ok s1 g ⟨0,rfl,fun c=>absurd rfl c,fun _=>rReadB_ok hs ?_⟩⟩
 unfold rdB
 by_cases c:bsize s<0
 ·rw [if_pos c]
  refine ⟨_,_,_,rfl,by omega,?_⟩
  rintro p3 h3 rfl e3
  have w3:=w1.new e3 (by omega)
  have t3:=w3.top
  obtain ⟨h5,e5,w5,n5,_⟩:=w3.st (cx:=ctx) 0 (f:=0) (u:=.agg [.str [],.int .i64 0]) rfl (by omega) ty120 rfl (Nat.zero_le _) rfl rfl
  refine ⟨h5,e5,fun _=>bad 22 ?_ h5 (w5.ex0.mono (by omega)),fun q=>absurd (show (22:Int)≠0 by decide) q⟩
  unfold rdTwo
  rw [if_pos c]
 rw [if_neg c]
 obtain ⟨B,hB⟩:∃ B:Nat,bsize s=B:=⟨(bsize s).toNat,by omega⟩
 have hun:rdTwo log l s=if bsize s<log then ((21:Int),[]) else if bsize s<2*log then (21,[]) else match two (dtab log l) s 255 (B-log-log) (bnum s B log) (bnum s (B-log) log) [] with
   | none=>((21:Int),[])
   | some out=>((0:Int),out):=by
  conv=>lhs; unfold rdTwo
  rw [if_neg c,hB,Int.toNat_natCast]
  rfl
 rw [hB]
 refine ⟨_,_,_,rfl,by omega,?_⟩
 rintro p3 h3 rfl e3
 have w3:=w1.new e3 (by omega)
 have t3:=w3.top
 obtain ⟨h5,e5,w5,n5,_⟩:=w3.st (cx:=ctx) 0 (f:=0) (u:=brd s B) rfl (by omega) ty120 rfl (Nat.zero_le _) rfl rfl
 have t5:=w5.top
 have l5:=w5.low
 refine ⟨h5,e5,fun q=>absurd rfl q,fun _=>⟨_,_,w5.ldA 1 rfl ty59 rfl rfl,rDecode_ok (sl.ext w5.ex0) g (by omega) (by omega) fun h6 v9 x6 s9 f9=>?_⟩⟩
 have w6:=w5.ext x6
 have t6:=w6.top
 refine ⟨_,_,rfl,by omega,?_⟩
 rintro p7 h7 rfl e7
 have g0:h6.get h.next=some (oD log v):=w6.get 1 rfl
 have l0:h.next<h6.next:=w6.lt 1 rfl
 have n01:h.next≠h1.next:=Nat.ne_of_lt w6.bk.2.2.2.1
 have w7:=(Vw.one (S:=(· = h1.next)) (w6.get 0 rfl) (w6.lt 0 rfl) rfl).new e7 (by omega)
 have xh6:Ext h h6 252:=w6.ex0.mono (by omega)
 have hS:∀ b,vblk v9=some b→¬ b=h1.next:=fun b hb q=>by
  have:=f9 b hb
  have:=w5.lt 0 rfl
  omega
 have hS1:∀ b,b=h1.next→h.next≤b:=fun b hb=>by
  have:=w5.bk.2.2.2.1
  omega
 have l6:=w6.low
 have bad2:∀ e,rdTwo log l s=(e,[])→∀ {c2:Nat} {h':H},ExtX (· = h1.next) h6 h' c2→c2≤1248→Q (.tuple [.nilslice,.int .i64 e]) h':=fun e he c2 h' x hc=>bad e he h' ((ExtX.ext xh6 x hS1).mono (by omega))
 clear w1 s1 e1 w3 e3 w5 e5 w6 e7 t1 t3 t5
 refine Has.nil.on fun tm hs0=>?_
 refine wpC.round (fun k tm h'=>∃ j:Nat,j≤2∧k=2-j∧j*log≤B∧Vw (· = h1.next) h6 h' (1+j) [(h6.next,oPair (if 0<j then ((bnum s B log:Nat):Int) else 0) (if 1<j then ((bnum s (B-log) log:Nat):Int) else 0)),(h1.next,oBr s (B-j*log))] ∧
  Has tm [(12,.int .i64 j),(7,.ptr h1.next 0),(2,.ptr h.next 0),(11,.ptr h6.next 0),(9,v9)]) 2 ⟨0,by omega,rfl,by omega,by rw [Nat.zero_mul]; exact w7,hs0.sub (by kernel_rfl)⟩ ?_
 clear hs0 w7 tm
 rintro k tm h' ⟨j,hj2,rfl,hjl,w,hs0⟩
 have tw:=w.top
 have gd:h'.get h.next=some (oD log v):=(w.ex.get _ l0 n01).trans g0
 refine wpC.at hs0 vl44_0 rfl rfl ⟨fun c1=>?_,fun c1=>hs0.on fun tm' hs'=>?_⟩
 ·refine ⟨s,(B-j*log:Nat),w.ldA 1 rfl ty120 rfl rfl,?_⟩
  rw [fa_dist0]
  refine ⟨_,ald_one ty3 rfl gd rfl,rTakeB_ok (n:=log) hs (by omega) (by omega) ?_⟩
  unfold tkB
  by_cases c2:log≤B-j*log
  ·rw [if_pos c2]
   refine ⟨_,_,_,_,rfl,by omega,?_⟩
   rintro p11 h12 rfl e12
   obtain ⟨_,x12,_⟩:=made_new e12 (by omega)
   have w12:=w.new e12 (by omega)
   have t12:=w12.top
   obtain ⟨h13,e13,w13,n13,k13⟩:=w12.st (cx:=ctx) 0 (f:=0) (u:=brd s (B-j*log-log)) rfl (by omega) ty120 rfl (Nat.zero_le _) rfl rfl
   obtain ⟨h16,e16,w16,n16,k16⟩:=w13.st (cx:=ctx) 2 (f:=0) (u:=brd s (B-j*log-log)) rfl (by omega) ty120 rfl (Nat.zero_le _) rfl rfl
   have ej:w64 ((j:Int)+1)=((j+1:Nat):Int):=by rw [w64_id (by omega) (by omega)]; rfl
   have e2:B-j*log-log=B-(j+1)*log:=by rw [Nat.add_mul]; omega
   have hbn:=bnum_lt s (B-j*log) log
   have ew:w64 ((bnum s (B-j*log) log:Nat):Int)=((bnum s (B-j*log) log:Nat):Int):=w64n (n:=bnum s (B-j*log) log) (by omega)
   refine ⟨h13,e13,fun q=>absurd rfl q,fun _=>⟨s,_,w13.ldA 0 rfl ty120 rfl rfl,h16,e16,h6.next,j,aidx_pair (k:=j) (by omega),?_⟩⟩
   rw [e2] at w16
   have hj:j=0∨j=1:=by omega
   rcases hj with rfl | rfl
   ·obtain ⟨h9,e9,w9,n9,k9⟩:=w16.st (cx:=ctx) 1 (f:=0) (u:=.int .i64 (bnum s (B-0*log) log:Nat)) rfl (by omega) ty3 rfl (Nat.zero_le _) rfl rfl
    refine ⟨h9,by rw [ew]; exact e9,hs0.on fun tm' hs'=>⟨rfl,rfl,1,by omega,1,by omega,rfl,by omega,?_,?_⟩⟩
    ·rw [Nat.zero_mul] at w9
     exact (w9.drop 1).more (by omega)
    ·have q:=hs'.sub (l':=[(12,.int .i64 (w64 (((0:Nat):Int)+1))),(7,.ptr h1.next 0),(2,.ptr h.next 0),(11,.ptr h6.next 0),(9,v9)]) (by kernel_rfl)
     rw [ej] at q
     exact q
   ·obtain ⟨h9,e9,w9,n9,k9⟩:=w16.st (cx:=ctx) 1 (f:=1) (u:=.int .i64 (bnum s (B-1*log) log:Nat)) rfl (by omega) ty3 rfl (Nat.zero_le _) rfl rfl
    refine ⟨h9,by rw [ew]; exact e9,hs0.on fun tm' hs'=>⟨rfl,rfl,0,by omega,2,by omega,rfl,by omega,?_,?_⟩⟩
    ·rw [Nat.one_mul] at w9
     exact (w9.drop 1).more (by omega)
    ·have q:=hs'.sub (l':=[(12,.int .i64 (w64 (((1:Nat):Int)+1))),(7,.ptr h1.next 0),(2,.ptr h.next 0),(11,.ptr h6.next 0),(9,v9)]) (by kernel_rfl)
     rw [ej] at q
     exact q
  ·rw [if_neg c2]
   refine ⟨_,_,_,_,rfl,by omega,?_⟩
   rintro p11 h12 rfl e12
   have w12:=w.new e12 (by omega)
   have t12:=w12.top
   obtain ⟨h13,e13,w13,n13,k13⟩:=w12.st (cx:=ctx) 0 (f:=0) (u:=.agg [.str [],.int .i64 0]) rfl (by omega) ty120 rfl (Nat.zero_le _) rfl rfl
   refine ⟨h13,e13,fun _=>hs0.on fun tm' hs'=>thenC.rt (thenC.rt (endW.r2 (hs'.get rfl) (hs'.get rfl) (bad2 21 ?_ w13.ex (by omega)))),fun q=>absurd (show (5:Int)≠0 by decide) q⟩
   rw [hun]
   have hj:j=0∨j=1:=by omega
   rcases hj with rfl | rfl
   ·rw [if_pos (by omega)]
   ·rw [if_neg (by omega),if_pos (by omega)]
 have hj:j=2:=by omega
 subst hj
 rw [if_neg (by omega),if_neg (by omega)] at hun
 have e2:B-2*log=B-log-log:=by omega
 rw [e2] at w
 have hb1:=bnum_lt s B log
 have hb2:=bnum_lt s (B-log) log
 have lw:=w.low
 refine thenC.left (wpS.at hs' vr44_6 rfl rfl (hs'.on fun tm2 hs2=>?_))
 have I:RwI (· = h1.next) h6 h' 3 h6.next h1.next s (B-log-log) 0 (bnum s B log) (bnum s (B-log) log) .nilslice []:=⟨w,Ow.nil _ _,fun b hb=>(by cases hb)⟩
 refine rTwoLoop_ok g hs s9 hS (by omega) ⟨hb1,hb2⟩ I (by omega) (by omega) (hs2.sub (by kernel_rfl)) (fun tm3 h3 hno x3 hs3=>?_) fun tm3 h3 left i a b d v' out I3 hol hi hbl hd hno hyes hs3=>?_
 ·rw [hno] at hun
  exact thenC.rt (hs3.slt fun tm4 hs4=>endW.r2 (hs4.get rfl) (hs4.get rfl) (bad2 21 hun x3 (by omega)))
 obtain ⟨w3,ow3,sp3⟩:=I3
 have t3:=w3.top
 have l3:=w3.low
 refine thenC.out (wpS.at hs3 vr44_5 rfl rfl ⟨_,ow3.sl.len ty23 rfl,fun c2=>?_,fun c2=>?_⟩)
 ·rw [hno (.inl (by omega))] at hun
  exact hs3.on fun tm4 hs4=>hs4.slt fun tm5 hs5=>endW.r2 (hs5.get rfl) (hs5.get rfl) (bad2 21 hun w3.ex (by omega))
 rw [fa_back1r]
 refine ⟨_,w3.ld1 1 rfl ty3 rfl rfl,fun c3=>?_,fun c3=>?_⟩
 ·rw [hno (.inr (by omega))] at hun
  exact hs3.on fun tm4 hs4=>hs4.slt fun tm5 hs5=>endW.r2 (hs5.get rfl) (hs5.get rfl) (bad2 21 hun w3.ex (by omega))
 rw [hyes (by omega)] at hun
 refine hs3.on fun tm4 hs4=>?_
 obtain ⟨pb,po,a3,_,a5⟩:=cellsV_at hd (s9.keepX w3.ex hS) hbl
 obtain ⟨v7,h8,e8,sl8,x8⟩:=build1i (h:=h3) d.1 (by omega)
 have t8:=x8.top
 obtain ⟨v10,h10,e10,A⟩:=Ow.append (c:=ctx) (te:=tint) (m:=1) (ow3.ext x8) sl8 (by decide) ty23 rfl ty3 rfl rfl (by show (out.length+1)*1≤_; omega) (by show (out.length+1)*8≤_; omega) (by omega)
 obtain ⟨w10,ow10,sp10⟩:=(w3.ext x8).grow (k:=(out++[d.1]).length) (xs:=ints (out++[d.1])) sp3 (by rw [ints_app,List.length_append]; exact A)
 have et:Int.tmod ((out.length:Nat):Int) 2=((1-i % 2:Nat):Int):=by
  rw [hol]
  have:Int.tmod ((i+1:Nat):Int) 2=(((i+1) % 2:Nat):Int):=rfl
  omega
 refine wpS.at hs4 vr44_4 rfl rfl ⟨_,ow3.sl.len ty23 rfl,by decide,h6.next,1-i % 2,by rw [et]; exact aidx_pair (by omega),b,w3.ld1 0 rfl ty3 rfl (arr_oth i a b),pb,po,a3,d.1,a5,v7,h8,e8,trivial,v10,h10,e10,?_⟩
 refine hs4.on fun tm5 hs5=>hs5.slt fun tm6 hs6=>hs6.slt fun tm7 hs7=>endW.r2 (hs7.get rfl) (hs7.get rfl) ?_
 have:=hq h10 v10 ((ExtX.ext xh6 w10.ex hS1).mono (by omega))
 rw [hun] at this
 exact this ow10 fun b hb=>by
  rcases (sp10 b hb).1 with q | q
  ·exact hS1 b q
  ·omega
end Go.Proofs.YtnpeieeomokomaaGreat
