/- Y. No condition. -/
import Derived.Test.YtnpeieeomokomaaGreatZV
import Derived.Test.YtnpeieeomokomaaGreatZW
namespace Go.Sim
variable (P:Program) (c:Ctx)
variable {P c}
end Go.Sim
namespace Go.Sim
theorem wrapN_u64 {n:Nat} (h:n<18446744073709551616):wrapF .u64 (n:Int)=(n:Int):=by
 rw [wrapF_eq]
 simp only [IntKind.wrap,IntKind.bits,IntKind.signed]; simp; omega
theorem wrapN_u8 {n:Nat}:wrapF .u8 (n:Int)=((n % 256:Nat):Int):=by
 rw [wrapF_eq]
 simp only [IntKind.wrap,IntKind.bits,IntKind.signed]; simp
theorem wrapK_u64 {n:Nat} (h:n<18446744073709551616):IntKind.u64.wrap (n:Int)=(n:Int):=by
 rw [← wrapF_eq]; exact wrapN_u64 h
theorem wrapK_i64 {n:Nat} (h:n<9223372036854775808):IntKind.i64.wrap (n:Int)=(n:Int):=by
 rw [← wrapF_eq]; exact w64_id (Int.le_trans (by decide) (Int.natCast_nonneg _)) (Int.ofNat_lt.2 h)
theorem shlN_u64 {a n:Nat} (hn:n≤64) (h:a*2^n<18446744073709551616):intB .shl .u64 (a:Int) (n:Int)=some (.int .u64 ((a*2^n:Nat):Int)):=by
 show cond (ltF (n:Int) 0) none (some (V.int .u64 (wrapF .u64 (shlF (a:Int) (cond (Nat.ble n 64) n 64)))))=_
 rw [Nat.ble_eq_true_of_le hn,cond_true,ltF_eq,shlF_eq]
 have h3:decide ((n:Int)<0)=false:=by simp
 rw [h3,cond_false]
 have e:(a:Int)*2^n=((a*2^n:Nat):Int):=by rw [Int.natCast_mul,Int.natCast_pow]; rfl
 rw [e,wrapN_u64 h]
theorem shlN_i64 {a n:Nat} (hn:n≤64) (h:a*2^n<9223372036854775808):intB .shl .i64 (a:Int) (n:Int)=some (.int .i64 ((a*2^n:Nat):Int)):=by
 show cond (ltF (n:Int) 0) none (some (V.int .i64 (wrapF .i64 (shlF (a:Int) (cond (Nat.ble n 64) n 64)))))=_
 rw [Nat.ble_eq_true_of_le hn,cond_true,ltF_eq,shlF_eq]
 have h3:decide ((n:Int)<0)=false:=by simp
 rw [h3,cond_false]
 have e:(a:Int)*2^n=((a*2^n:Nat):Int):=by rw [Int.natCast_mul,Int.natCast_pow]; rfl
 rw [e]
 exact congrArg _ (congrArg _ (w64_id (Int.le_trans (by decide) (Int.natCast_nonneg _)) (Int.ofNat_lt.2 h)))
theorem shrN_u64 {a n:Nat} (h:n≤64):intB .shr .u64 (a:Int) (n:Int)=some (.int .u64 ((a/2^n:Nat):Int)):=by
 show cond (ltF (n:Int) 0) none (some (V.int .u64 (shrF (a:Int) (cond (Nat.ble n 64) n 64))))=_
 rw [Nat.ble_eq_true_of_le h,cond_true,ltF_eq]
 have h3:decide ((n:Int)<0)=false:=by simp
 rw [h3,cond_false]
 congr 2
 show Int.ofNat (Nat.shiftRight a n)=_
 rw [show Nat.shiftRight a n=a >>> n from rfl,Nat.shiftRight_eq_div_pow]
 rfl
theorem shrN_i64 {a n:Nat} (h:n≤64):intB .shr .i64 (a:Int) (n:Int)=some (.int .i64 ((a/2^n:Nat):Int)):=by
 show cond (ltF (n:Int) 0) none (some (V.int .i64 (shrF (a:Int) (cond (Nat.ble n 64) n 64))))=_
 rw [Nat.ble_eq_true_of_le h,cond_true,ltF_eq]
 have h3:decide ((n:Int)<0)=false:=by simp
 rw [h3,cond_false]
 congr 2
 show Int.ofNat (Nat.shiftRight a n)=_
 rw [show Nat.shiftRight a n=a >>> n from rfl,Nat.shiftRight_eq_div_pow]
 rfl
theorem ofInt_nat {w n:Nat} (h:n<2^w):(BitVec.ofInt w (n:Int)).toNat=n:=by
 rw [BitVec.ofInt_natCast,BitVec.toNat_ofNat,Nat.mod_eq_of_lt h]
theorem orN_u64 {a b:Nat} (ha:a<18446744073709551616) (hb:b<18446744073709551616):intB .or .u64 (a:Int) (b:Int)=some (.int .u64 ((a ||| b:Nat):Int)):=by
 show some (V.int .u64 (IntKind.u64.wrap (((BitVec.ofInt 64 (a:Int) ||| BitVec.ofInt 64 (b:Int)).toNat:Nat):Int)))=_
 rw [BitVec.toNat_or,ofInt_nat (show a<2^64 from ha),ofInt_nat (show b<2^64 from hb)]
 rw [wrapK_u64 (show a ||| b<2^64 from Nat.or_lt_two_pow ha hb)]
theorem andN_u64 {a b:Nat} (ha:a<18446744073709551616) (hb:b<18446744073709551616):intB .and .u64 (a:Int) (b:Int)=some (.int .u64 ((a &&& b:Nat):Int)):=by
 show some (V.int .u64 (IntKind.u64.wrap (((BitVec.ofInt 64 (a:Int) &&& BitVec.ofInt 64 (b:Int)).toNat:Nat):Int)))=_
 rw [BitVec.toNat_and,ofInt_nat (show a<2^64 from ha),ofInt_nat (show b<2^64 from hb)]
 rw [wrapK_u64 (Nat.lt_of_le_of_lt Nat.and_le_left ha)]
theorem andN_i64 {a b:Nat} (ha:a<9223372036854775808) (hb:b<9223372036854775808):intB .and .i64 (a:Int) (b:Int)=some (.int .i64 ((a &&& b:Nat):Int)):=by
 show some (V.int .i64 (IntKind.i64.wrap (((BitVec.ofInt 64 (a:Int) &&& BitVec.ofInt 64 (b:Int)).toNat:Nat):Int)))=_
 rw [BitVec.toNat_and,ofInt_nat (show a<2^64 by omega),ofInt_nat (show b<2^64 by omega)]
 rw [wrapK_i64 (Nat.lt_of_le_of_lt Nat.and_le_left ha)]
theorem and_mask (a n:Nat):a &&& (2^n-1)=a % 2^n:=Nat.and_two_pow_sub_one_eq_mod a n
theorem or_add {a b i:Nat} (h:a<2^i):a ||| b*2^i=a+b*2^i:=by
 rw [Nat.mul_comm,Nat.or_comm,← Nat.two_pow_add_eq_or_of_lt h]; omega
end Go.Sim
namespace Go.Sim
variable (P:Program) (c:Ctx)
def endV (fi:FI) (k:H→Prop):AX→St→Prop
 | .normal,s=>s.dfr=[]∧(match leave c fi.results s.tm s.heap fi.results [] with | some _=>k s.heap | none=>False)
 | .ret,s=>s.dfr=[]∧(match leave c fi.results s.tm s.heap fi.results [] with | some _=>k s.heap | none=>False)
 | _,_=>False
def RV (n f:Nat) (args:List V) (h:H) (k:H→Prop):Prop :=
 ∃ fi,(c.fn.get f).map slimF=some fi∧args.length≤fi.n∧fi.n≤511∧fi.n≠n∧wpC P c false fi.body ⟨fi.n,setArgs args 0 (Tb.leaf undefV),[],h⟩ (endV c fi k)
def wpD1 (n:Nat):List AD→H→(H→Prop)→Prop
 | [],h,k=>k h
 | [.fn f cap args],h,k=>RV P c n f (args++cap) h k
 | _,_,_=>False
def endQ (fi:FI) (Q:V→H→Prop) (s:St) (h:H):Prop:=match leave c fi.results s.tm h fi.results [] with | some vs=>Q (tupled vs) h | none=>False
def endW1 (fi:FI) (Q:V→H→Prop):AX→St→Prop
 | .normal,s=>wpD1 P c fi.n s.dfr s.heap (endQ c fi Q s)
 | .ret,s=>wpD1 P c fi.n s.dfr s.heap (endQ c fi Q s)
 | _,_=>False
variable {P c}
open Classical in
noncomputable def ih2 (a b:Bool→Code→St→Option Out):Bool→Code→St→Option Out:=fun x y z=>match a x y z with | some o=>some o | none=>b x y z
theorem ih2_ok {a b:Bool→Code→St→Option Out} (ha:IHok P a) (hb:IHok P b):IHok P (ih2 a b):=by
 intro rd code s x s' e
 unfold ih2 at e
 cases h:a rd.isSome code s with
 | some o=>rw [h] at e; simp only [Option.some.injEq] at e; subst e; exact ha _ _ _ _ _ h
 | none=>rw [h] at e; exact hb _ _ _ _ _ e
theorem ih1_not {b:Bool} {code:Code} {s s':St} {x:AX} {b2:Bool} {c2:Code} {s2:St} (h:s2.n≠s.n):ih1 b code s x s' b2 c2 s2=none:=by
 unfold ih1
 rw [if_neg]
 rintro ⟨_,_,rfl⟩
 exact h rfl
theorem RF.enterD (ok:CtxOK P c) {f:Nat} {fi:FI} {args:List V} {h:H} {Q:V→H→Prop} (hf:(c.fn.get f).map slimF=some fi) (ha:args.length≤fi.n) (hn:fi.n≤511)
  (hw:wpC P c false fi.body ⟨fi.n,setArgs args 0 (Tb.leaf undefV),[],h⟩ (endW1 P c fi Q)):RF P c f args h Q:=by
 cases hg:c.fn.get f with
 | none=>rw [hg] at hf; cases hf
 | some fj =>
  rw [hg] at hf
  simp only [Option.map_some,Option.some.injEq] at hf
  subst hf
  obtain ⟨e,s1,h1,h2⟩:=RC.of_wp ok fj.body hw
  have ent:∀ ih,ih false fj.body ⟨fj.n,setArgs args 0 (Tb.leaf undefV),[],h⟩=some (.done e s1)→enterF ih fj args h=some (.done e s1):=by
   intro ih hrun
   unfold enterF
   have e1:Nat.ble (lenL args 0) fj.n=true:=by rw [lenL0]; exact Nat.ble_eq_true_of_le ha
   have e2:Nat.ble fj.n 511=true:=Nat.ble_eq_true_of_le hn
   rw [e1,e2]
   exact hrun
  have main1:=ih1_at false fj.body ⟨fj.n,setArgs args 0 (Tb.leaf undefV),[],h⟩ e s1
  have main2:IHok P (ih1 false fj.body ⟨fj.n,setArgs args 0 (Tb.leaf undefV),[],h⟩ e s1):=ih1_ok h1
  have last:∀ (ih:Bool→Code→St→Option Out) (h':H),IHok P ih→ih false fj.body ⟨fj.n,setArgs args 0 (Tb.leaf undefV),[],h⟩=some (.done e s1)→runDefers (callD c ih) s1.dfr s1.heap=some h'→endQ c (slimF fj) Q s1 h'→(e = .normal∨e = .ret)→RF P c f args h Q:=by
   intro ih h' hih hrun hd hq he
   unfold endQ at hq
   change (match leave c fj.results s1.tm h' fj.results [] with | some vs=>Q (tupled vs) h' | none=>False) at hq
   cases hl:leave c fj.results s1.tm h' fj.results [] with
   | none=>rw [hl] at hq; exact hq.elim
   | some vs =>
    rw [hl] at hq
    refine ⟨tupled vs,h',⟨⟨fj,hg⟩,callF_sound ok hih ?_⟩,hq⟩
    have hend:endF c ih fj s1=some (.ret (tupled vs) h'):=by
     unfold endF
     rw [hd]
     show (match leave c fj.results s1.tm h' fj.results [] with | some vs=>some (CallOut.ret (tupled vs) h') | none=>none)=_
     rw [hl]
    unfold callF
    rw [hg]
    simp only [ent ih hrun]
    rcases he with rfl | rfl <;> exact hend
  have fin:wpD1 P c fj.n s1.dfr s1.heap (endQ c (slimF fj) Q s1)→(e = .normal∨e = .ret)→RF P c f args h Q:=by
   intro hd he
   cases hs:s1.dfr with
   | nil =>
    rw [hs] at hd
    exact last _ s1.heap main2 main1 (by rw [hs]; rfl) hd he
   | cons d l =>
    rw [hs] at hd
    cases d with
    | coll id=>cases l <;> exact hd.elim
    | fn g cap as =>
     cases l with
     | cons d2 l=>exact hd.elim
     | nil =>
      obtain ⟨fg,g1,g2,g3,g4,g5⟩:=hd
      cases hg2:c.fn.get g with
      | none=>rw [hg2] at g1; cases g1
      | some fk =>
       rw [hg2] at g1
       simp only [Option.map_some,Option.some.injEq] at g1
       subst g1
       obtain ⟨e2,s2,r1,r2⟩:=RC.of_wp ok fk.body g5
       have second1:=ih1_at false fk.body ⟨fk.n,setArgs (as++cap) 0 (Tb.leaf undefV),[],s1.heap⟩ e2 s2
       have hih:IHok P (ih2 (ih1 false fj.body ⟨fj.n,setArgs args 0 (Tb.leaf undefV),[],h⟩ e s1) (ih1 false fk.body ⟨fk.n,setArgs (as++cap) 0 (Tb.leaf undefV),[],s1.heap⟩ e2 s2)):=ih2_ok main2 (ih1_ok r1)
       have k1:ih2 (ih1 false fj.body ⟨fj.n,setArgs args 0 (Tb.leaf undefV),[],h⟩ e s1) (ih1 false fk.body ⟨fk.n,setArgs (as++cap) 0 (Tb.leaf undefV),[],s1.heap⟩ e2 s2) false fj.body ⟨fj.n,setArgs args 0 (Tb.leaf undefV),[],h⟩=some (.done e s1):=by
        unfold ih2; rw [main1]
       have k2:ih2 (ih1 false fj.body ⟨fj.n,setArgs args 0 (Tb.leaf undefV),[],h⟩ e s1) (ih1 false fk.body ⟨fk.n,setArgs (as++cap) 0 (Tb.leaf undefV),[],s1.heap⟩ e2 s2) false fk.body ⟨fk.n,setArgs (as++cap) 0 (Tb.leaf undefV),[],s1.heap⟩=some (.done e2 s2):=by
        unfold ih2; rw [ih1_not (show fk.n≠fj.n from g4)]; exact second1
       generalize ih2 (ih1 false fj.body ⟨fj.n,setArgs args 0 (Tb.leaf undefV),[],h⟩ e s1) (ih1 false fk.body ⟨fk.n,setArgs (as++cap) 0 (Tb.leaf undefV),[],s1.heap⟩ e2 s2)=ih at hih k1 k2
       have hent:enterF ih fk (as++cap) s1.heap=some (.done e2 s2):=by
        unfold enterF
        have e1:Nat.ble (lenL (as++cap) 0) fk.n=true:=by rw [lenL0]; exact Nat.ble_eq_true_of_le g2
        have e2:Nat.ble fk.n 511=true:=Nat.ble_eq_true_of_le g3
        rw [e1,e2]
        exact k2
       have call:∀ (q1:s2.dfr=[]) (q2:match leave c fk.results s2.tm s2.heap fk.results [] with | some _=>endQ c (slimF fj) Q s1 s2.heap | none=>False),(e2 = .normal∨e2 = .ret)→RF P c f args h Q:=by
        intro q1 q2 he2
        cases hl:leave c fk.results s2.tm s2.heap fk.results [] with
        | none=>rw [hl] at q2; exact q2.elim
        | some vs =>
         rw [hl] at q2
         have hend:Go.Sim.endD c fk s2=some (.ret (tupled vs) s2.heap):=by
          unfold Go.Sim.endD
          rw [q1]
          simp only [hl]
         have hcd:callD c ih g (as++cap) s1.heap=some (.ret (tupled vs) s2.heap):=by
          unfold callD
          rw [hg2]
          simp only [hent]
          rcases he2 with rfl | rfl <;> exact hend
         refine last ih s2.heap hih k1 ?_ q2 he
         rw [hs]
         show (match callD c ih g (as++cap) s1.heap with | some (.ret _ h')=>runDefers (callD c ih) [] h' | _=>none)=_
         rw [hcd]
         rfl
       cases e2 with
       | normal=>exact call r2.1 r2.2 (.inl rfl)
       | ret=>exact call r2.1 r2.2 (.inr rfl)
       | _=>exact r2.elim
  cases e with
  | normal=>exact fin h2 (.inl rfl)
  | ret=>exact fin h2 (.inr rfl)
  | _=>exact h2.elim
end Go.Sim
namespace Go.Sim
open Go (Code Oper Op)
def nEx (i:Nat):Code→Nat
 | .seq a b=>nEx i a+nEx i b
 | .cond _ a b=>nEx i a+nEx i b
 | .block _ b=>nEx i b
 | .scope b=>nEx i b
 | .exit j=>cond (Nat.beq i j) 1 0
 | _=>0
def pickN:List Oper→Nat
 | []=>1
 | o :: l=>match o.op with
  | .pick ..=>2*pickN l
  | _=>pickN l
def nEnds:Code→Nat
 | .region _ ops _=>pickN ops.toList
 | .seq a b=>nEnds a*nEnds b
 | .cond _ a b=>nEnds a+nEnds b
 | .block i b=>nEnds b+nEx i b
 | .scope b=>nEnds b
 | .exit _=>0
 | .ret=>0
 | _=>1
def lenN {α:Type}:List α→Nat
 | []=>0
 | _ :: l=>lenN l+1
def nOps:Code→Nat
 | .region _ ops _=>lenN ops.toList
 | .seq a b=>nOps a+nOps b
 | .cond _ a b=>nOps a+nOps b
 | .block _ b=>nOps b
 | .scope b=>nOps b
 | .loop b=>nOps b
 | _=>0
def meets (jn:Nat) (a b:Code):Bool:=cond (Nat.ble 2 (nEnds a)) (Nat.ble jn (nOps b)) false
def sealK (live:List Nat) (k:St→Prop):St→Prop:=fun s=>∀ tm',sealL s.tm tm' live (k ⟨s.n,tm',s.dfr,s.heap⟩)
theorem sealK_out {live:List Nat} {k:St→Prop} {s:St} (h:sealK live k s):k s:=sealL_out (h s.tm)
theorem sealL_mono {tm tm':Tm} {q q':Prop} (hq:q→q'):∀ {l:List Nat},sealL tm tm' l q→sealL tm tm' l q':=by
 intro l
 induction l with
 | nil=>exact hq
 | cons t l ih=>exact fun h e=>ih (h e)
theorem sealK_mono {live:List Nat} {k k':St→Prop} (hk:∀ s,k s→k' s) {s:St} (h:sealK live k s):sealK live k' s:=fun tm'=>sealL_mono (hk _) (h tm')
variable (P:Program) (c:Ctx)
def wpS (live:List Nat) (jn:Nat) (b:Bool):Code→St→(AX→St→Prop)→Prop
 | .seq x y,s,Q=>wpS live jn b x s (thenC (cond (meets jn x y) (sealK live fun s1=>wpS live jn b y s1 Q) (fun s1=>wpS live jn b y s1 Q)) Q)
 | .cond o x y,s,Q=>match evx s.tm o with
  | some v=>wpPick v fun t=>match t with | true=>wpS live jn b x s Q | false=>wpS live jn b y s Q
  | none=>False
 | .block id x,s,Q=>wpS live jn b x s (fun e s1=>Q (exitB id e) s1)
 | .scope x,s,Q=>wpS live jn b x s Q
 | .loop x,s,Q=>sealK live (fun s1=>wpC P c b (.loop x) s1 Q) s
 | .rangeFunc f ps asg body,s,Q=>sealK live (fun s1=>RC P b (.rangeFunc f ps asg body) s1 Q) s
 | x,s,Q=>wpC P c b x s Q
variable {P c}
theorem thenC_mono {k k':St→Prop} {Q Q':AX→St→Prop} (h1:∀ s,k s→k' s) (h2:∀ x s,Q x s→Q' x s):∀ x s,thenC k Q x s→thenC k' Q' x s:=by
 intro x s h
 cases x <;> first | exact h1 _ h | exact h2 _ _ h
theorem wpS_mono {live:List Nat} {jn:Nat} {b:Bool}:∀ (code:Code) {s:St} {Q Q':AX→St→Prop},(∀ x s',Q x s'→Q' x s')→wpS P c live jn b code s Q→wpS P c live jn b code s Q':=by
 intro code
 induction code with
 | seq x y ihx ihy =>
  intro s Q Q' hq h
  refine ihx (thenC_mono (fun s1 h1=>?_) hq) h
  revert h1
  cases meets jn x y with
  | true=>exact fun h1=>sealK_mono (k:=fun s1=>wpS P c live jn b y s1 Q) (fun _ h=>ihy hq h) h1
  | false=>exact fun h1=>ihy hq h1
 | cond o x y ihx ihy =>
  intro s Q Q' hq h
  simp only [wpS] at h ⊢
  cases ho:evx s.tm o with
  | none=>rw [ho] at h; exact h
  | some v =>
   rw [ho] at h
   refine wpPick_mono (fun t ht=>?_) h
   cases t with
   | true=>exact ihx hq ht
   | false=>exact ihy hq ht
 | block id x ih=>intro s Q Q' hq h; exact ih (fun e s1=>hq _ _) h
 | scope x ih=>intro s Q Q' hq h; exact ih hq h
 | loop x ih=>intro s Q Q' hq h; exact sealK_mono (fun _ h=>wpC_mono _ hq h) h
 | rangeFunc f ps asg body=>intro s Q Q' hq h; exact sealK_mono (fun _ h=>RC.mono h hq) h
 | _=>intro s Q Q' hq h; exact wpC_mono _ hq h
theorem wpS_out {live:List Nat} {jn:Nat} {b:Bool}:∀ (code:Code) {s:St} {Q:AX→St→Prop},wpS P c live jn b code s Q→wpC P c b code s Q:=by
 intro code
 induction code with
 | seq x y ihx ihy =>
  intro s Q h
  refine wpC_mono x (thenC_mono (fun s1 h1=>?_) fun _ _ h=>h) (ihx h)
  revert h1
  cases meets jn x y with
  | true=>exact fun h1=>ihy (sealK_out (k:=fun s1=>wpS P c live jn b y s1 Q) h1)
  | false=>exact fun h1=>ihy h1
 | cond o x y ihx ihy =>
  intro s Q h
  simp only [wpS,wpC] at h ⊢
  cases ho:evx s.tm o with
  | none=>rw [ho] at h; exact h
  | some v =>
   rw [ho] at h
   refine wpPick_mono (fun t ht=>?_) h
   cases t with
   | true=>exact ihx ht
   | false=>exact ihy ht
 | block id x ih=>intro s Q h; exact ih h
 | scope x ih=>intro s Q h; exact ih h
 | loop x ih=>intro s Q h; exact sealK_out h
 | rangeFunc f ps asg body=>intro s Q h; exact sealK_out h
 | _=>intro s Q h; exact h
theorem wpS.slt {live:List Nat} {jn:Nat} {b:Bool} {code:Code} {s:St} {Q:AX→St→Prop} {w:Prop} (e:wpS P c live jn b code s (sealQ live Q)=w) (h:w):wpS P c live jn b code s Q:=wpS_mono _ (fun _ _=>sealQ_out) (e ▸ h)
theorem wpC.sealS {live:List Nat} {jn:Nat} {b:Bool} {code:Code} {s:St} {Q:AX→St→Prop} {w:Prop} (e:wpS P c live jn b code s (sealQ live Q)=w) (h:w):wpC P c b code s Q:=wpS_out _ (wpS.slt e h)
theorem RF.enterS (ok:CtxOK P c) {live:List Nat} {jn:Nat} {f:Nat} {fi:FI} {args:List V} {h:H} {Q:V→H→Prop} {w:Prop} (hf:(c.fn.get f).map slimF=some fi) (ha:args.length≤fi.n) (hn:fi.n≤511)
  (e:wpS P c live jn false fi.body ⟨fi.n,setArgs args 0 (Tb.leaf undefV),[],h⟩ (endW c fi Q)=w) (hw:w):RF P c f args h Q:=RF.enter ok hf ha hn (wpS_out _ (e ▸ hw))
theorem RF.enterDS (ok:CtxOK P c) {live:List Nat} {jn:Nat} {f:Nat} {fi:FI} {args:List V} {h:H} {Q:V→H→Prop} {w:Prop} (hf:(c.fn.get f).map slimF=some fi) (ha:args.length≤fi.n) (hn:fi.n≤511)
  (e:wpS P c live jn false fi.body ⟨fi.n,setArgs args 0 (Tb.leaf undefV),[],h⟩ (endW1 P c fi Q)=w) (hw:w):RF P c f args h Q:=RF.enterD ok hf ha hn (wpS_out _ (e ▸ hw))
end Go.Sim
namespace Go.Sim
abbrev Kn:=List (Nat×V)
def lk:Kn→Nat→Option V
 | [],_=>none
 | p :: l,t=>cond (Nat.beq p.1 t) (some p.2) (lk l t)
def Has (tm:Tm):Kn→Prop
 | []=>True
 | p :: l=>getV tm p.1=p.2∧Has tm l
theorem Has.nil {tm:Tm}:Has tm []:=trivial
theorem Has.get {tm:Tm}:∀ {l:Kn} {t:Nat} {v:V},Has tm l→lk l t=some v→getV tm t=v
 | p :: l,t,v,h,e=>by
  unfold lk at e
  cases hb:Nat.beq p.1 t with
  | true=>rw [hb,cond_true] at e; rw [← Nat.eq_of_beq_eq_true hb,h.1]; exact Option.some.inj e
  | false=>rw [hb,cond_false] at e; exact Has.get h.2 e
def putAll:Tm→Kn→Tm
 | tm,[]=>tm
 | tm,p :: l=>putAll (Tb.set tm p.1 p.2) l
theorem putAll_same:∀ {l:Kn} {tm:Tm},Has tm l→(l.all fun p=>Nat.blt p.1 511)=true→putAll tm l=tm
 | [],_,_,_=>rfl
 | p :: l,tm,h,hk=>by
  rw [List.all_cons,Bool.and_eq_true] at hk
  show putAll (Tb.set tm p.1 p.2) l=tm
  rw [tm_set ((blt_iff _ _).1 hk.1) h.1]
  exact putAll_same h.2 hk.2
theorem Has.sub {tm:Tm} {l:Kn} (h:Has tm l):∀ {l':Kn},(l'.map fun p=>lk l p.1)=(l'.map fun p=>some p.2)→Has tm l'
 | [],_=>trivial
 | p :: l',e=>by
  rw [List.map_cons,List.map_cons] at e
  exact ⟨h.get (List.cons.inj e).1,h.sub (List.cons.inj e).2⟩
abbrev kk (t:Nat):Nat×Option V:=(t,none)
abbrev ss (t:Nat) (v:V):Nat×Option V:=(t,some v)
def facts (tm tm':Tm):List (Nat×Option V)→Prop→Prop
 | [],q=>q
 | (t,some v) :: l,q=>getV tm' t=v→facts tm tm' l q
 | (t,none) :: l,q=>getV tm' t=getV tm t→facts tm tm' l q
def upd (l:Kn):List (Nat×Option V)→Kn
 | []=>[]
 | (t,some v) :: r=>(t,v) :: upd l r
 | (t,none) :: r=>match lk l t with
  | some v=>(t,v) :: upd l r
  | none=>upd l r
theorem facts_in {tm tm':Tm} {l:Kn} (hs:Has tm l):∀ {r:List (Nat×Option V)} {q:Prop},(Has tm' (upd l r)→q)→facts tm tm' r q
 | [],_,h=>h trivial
 | (_,some _) :: _,_,h=>fun e=>facts_in hs fun hs'=>h ⟨e,hs'⟩
 | (t,none) :: r,_,h=>fun e=>facts_in hs fun hs'=>h (by
   show Has tm' (match lk l t with | some v=>(t,v) :: upd l r | none=>upd l r)
   cases hl:lk l t with
   | some v=>exact ⟨e.trans (hs.get hl),hs'⟩
   | none=>exact hs')
theorem Has.on {tm:Tm} {l:Kn} {r:List (Nat×Option V)} {q:Tm→Prop} (hs:Has tm l) (h:∀ tm',Has tm' (upd l r)→q tm'):∀ tm',facts tm tm' r (q tm'):=fun tm'=>facts_in hs (h tm')
theorem sealL_in {tm tm':Tm} {l:Kn} (hs:Has tm l):∀ {live:List Nat} {q:Prop},(Has tm' (upd l (live.map kk))→q)→sealL tm tm' live q
 | [],_,h=>h trivial
 | t :: live,_,h=>fun e=>sealL_in hs fun hs'=>h (by
   show Has tm' (match lk l t with | some v=>(t,v) :: upd l (live.map kk) | none=>upd l (live.map kk))
   cases hl:lk l t with
   | some v=>exact ⟨e.trans (hs.get hl),hs'⟩
   | none=>exact hs')
theorem Has.slt {tm:Tm} {l:Kn} {live:List Nat} {Q:AX→St→Prop} {x:AX} {n:Nat} {d:List AD} {hp:H} (hs:Has tm l) (h:∀ tm',Has tm' (upd l (live.map kk))→Q x ⟨n,tm',d,hp⟩):sealQ live Q x ⟨n,tm,d,hp⟩:=fun tm'=>sealL_in hs (h tm')
theorem Has.sealK {tm:Tm} {l:Kn} {live:List Nat} {K:St→Prop} {n:Nat} {d:List AD} {hp:H} (hs:Has tm l) (h:∀ tm',Has tm' (upd l (live.map kk))→K ⟨n,tm',d,hp⟩):sealK live K ⟨n,tm,d,hp⟩:=fun tm'=>sealL_in hs (h tm')
variable {P:Program} {c:Ctx}
theorem wpS.at {live:List Nat} {jn:Nat} {b:Bool} {code:Code} {n:Nat} {tm:Tm} {d:List AD} {h:H} {Q:AX→St→Prop} {l l':Kn} {w:Prop} (hs:Has tm l)
  (e:wpS P c live jn b code ⟨n,putAll tm l',d,h⟩ (sealQ live Q)=w) (hsub:(l'.map fun p=>lk l p.1)=(l'.map fun p=>some p.2)) (hk:(l'.all fun p=>Nat.blt p.1 511)=true) (hw:w):wpS P c live jn b code ⟨n,tm,d,h⟩ Q:=by
 rw [putAll_same (hs.sub hsub) hk] at e
 exact wpS.slt e hw
theorem wpC.at {live:List Nat} {jn:Nat} {b:Bool} {code:Code} {n:Nat} {tm:Tm} {d:List AD} {h:H} {Q:AX→St→Prop} {l l':Kn} {w:Prop} (hs:Has tm l)
  (e:wpS P c live jn b code ⟨n,putAll tm l',d,h⟩ (sealQ live Q)=w) (hsub:(l'.map fun p=>lk l p.1)=(l'.map fun p=>some p.2)) (hk:(l'.all fun p=>Nat.blt p.1 511)=true) (hw:w):wpC P c b code ⟨n,tm,d,h⟩ Q :=
 wpS_out _ (wpS.at hs e hsub hk hw)
theorem wpC.round {b:Bool} {x:Code} {n:Nat} {tm:Tm} {d:List AD} {h:H} {Q:AX→St→Prop} (I:Nat→Tm→H→Prop) (k:Nat) (h0:I k tm h)
  (hI:∀ k tm h,I k tm h→wpC P c b x ⟨n,tm,d,h⟩ (thenC (fun s1=>s1.n=n∧s1.dfr=d∧∃ j,j<k∧I j s1.tm s1.heap) Q)):wpC P c b (.loop x) ⟨n,tm,d,h⟩ Q:=⟨I,⟨k,h0⟩,hI⟩
theorem exitB_it (i:Nat):exitB i (.exit i) = .normal:=by simp [exitB]
theorem thenC.left {i:Nat} {K I:St→Prop} {R:AX→St→Prop} {s:St} (h:K s):thenC I (fun e s1=>thenC K R (exitB i e) s1) (.exit i) s:=by
 show thenC K R (exitB i (.exit i)) s
 rw [exitB_it]
 exact h
theorem thenC.out {i:Nat} {K:St→Prop} {R:AX→St→Prop} {s:St} (h:K s):thenC K R (exitB i (.exit i)) s:=by
 rw [exitB_it]
 exact h
section
variable {n m a1 a2 a3 a4:Nat} {tm:Tm} {h:H} {Q:V→H→Prop} {v1 v2 v3 v4:V} {body:Code}
theorem endW.r1 (h1:getV tm a1=v1) (hq:Q v1 h):endW c ⟨n,[.tmp a1],body⟩ Q .ret ⟨m,tm,[],h⟩:=by
 subst h1; exact hq
theorem endW.r2 (h1:getV tm a1=v1) (h2:getV tm a2=v2) (hq:Q (.tuple [v1,v2]) h):endW c ⟨n,[.tmp a1,.tmp a2],body⟩ Q .ret ⟨m,tm,[],h⟩:=by
 subst h1 h2; exact hq
theorem endW.r3 (h1:getV tm a1=v1) (h2:getV tm a2=v2) (h3:getV tm a3=v3) (hq:Q (.tuple [v1,v2,v3]) h):endW c ⟨n,[.tmp a1,.tmp a2,.tmp a3],body⟩ Q .ret ⟨m,tm,[],h⟩:=by
 subst h1 h2 h3; exact hq
end
theorem leave.tmp {rs l:List ResultVar} {tm:Tm} {h:H} {t:Nat} {v:V} {acc:List V} {r:Option (List V)} (ht:getV tm t=v) (hr:leave c rs tm h l (v :: acc)=r):leave c rs tm h (.tmp t :: l) acc=r:=by
 subst ht; exact hr
theorem leave.cell {rs l:List ResultVar} {tm:Tm} {h:H} {a t:Nat} {p v:V} {acc:List V} {r:Option (List V)} (hp:getV tm a=p) (ha:ald c t h p=some v) (hr:leave c rs tm h l (v :: acc)=r):leave c rs tm h (.cell a t :: l) acc=r:=by
 subst hp
 show (match ald c t h (getV tm a) with | some v=>leave c rs tm h l (v :: acc) | none=>none)=_
 rw [ha]
 exact hr
theorem endW.ok {n m:Nat} {rs:List ResultVar} {body:Code} {tm:Tm} {h:H} {vs:List V} {Q:V→H→Prop} (e:leave c rs tm h rs []=some vs) (hq:Q (tupled vs) h):endW c ⟨n,rs,body⟩ Q .ret ⟨m,tm,[],h⟩:=by
 show (match leave c rs tm h rs [] with | some vs=>Q (tupled vs) h | none=>False)
 rw [e]
 exact hq
def leaveL (c:Ctx) (h:H):List (ResultVar×V)→List V→Option (List V)
 | [],acc=>some acc.reverse
 | (.tmp _,v) :: l,acc=>leaveL c h l (v :: acc)
 | (.cell _ t,p) :: l,acc=>match ald c t h p with
  | some v=>leaveL c h l (v :: acc)
  | none=>none
def endL (c:Ctx) (h:H) (l:List (ResultVar×V)) (Q:V→H→Prop):Prop:=match leaveL c h l [] with
 | some vs=>Q (tupled vs) h
 | none=>False
theorem leaveL.cell {h:H} {a t:Nat} {p v:V} {l:List (ResultVar×V)} {acc r:List V} (ha:ald c t h p=some v) (hr:leaveL c h l (v :: acc)=r):leaveL c h ((.cell a t,p) :: l) acc=r:=by
 show (match ald c t h p with | some v=>leaveL c h l (v :: acc) | none=>none)=_
 rw [ha]
 exact hr
theorem endL.ok {h:H} {l:List (ResultVar×V)} {vs:List V} {Q:V→H→Prop} (e:leaveL c h l []=some vs) (hq:Q (tupled vs) h):endL c h l Q:=by
 unfold endL
 rw [e]
 exact hq
theorem ExtX.andThen {S S2:Nat→Prop} {h0 h h':H} {m n:Nat} (a:ExtX S h0 h m) (b:ExtX S2 h h' n) (hS:∀ b,S2 b→S b∨h0.next≤b):ExtX S h0 h' (m+n) :=
 ⟨Nat.le_trans a.le b.le,by have:=a.top; have:=b.top; omega,fun i hi hn=>(b.get i (Nat.lt_of_lt_of_le hi a.le) fun q=>(hS i q).elim hn fun g=>by omega).trans (a.get i hi hn),Nat.le_trans b.low a.low,fun k h1 h2 h3=>b.lo k (a.lo k h1 h2 h3) (Nat.le_trans h2 a.le) fun i hi=>(hS i hi).elim (h3 i) fun g=>Nat.le_trans h2 g⟩
theorem ExtX.append {h h':H} {v:V} (h1:h.next≤h'.next) (h2:h'.next≤h.next+1) (h3:∀ b,b<h.next→vblk v≠some b→h'.get b=h.get b) (h4:h'.low≤h.low) (h5:∀ m,m≤h.low→(∀ b,vblk v=some b→m≤b)→m≤h'.low):ExtX (fun b=>vblk v=some b) h h' 1 :=
 ⟨h1,h2,h3,h4,fun m m1 _ m3=>h5 m m1 m3⟩
theorem made_new {h h':H} {o:O} (e:h'=h.new o) (hn:h.next<T.top):h'.next=h.next+1∧Ext h h' 1∧h'.get h.next=some o:=by
 subst e
 exact ⟨new_next _ _,Ext.new _ hn,get_new_self _ hn⟩
end Go.Sim
