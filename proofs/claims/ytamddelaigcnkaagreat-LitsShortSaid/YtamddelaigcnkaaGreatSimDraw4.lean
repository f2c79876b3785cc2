/- A region whose order is open: one operation out of its turn. -/
import Derived.Test.YtamddelaigcnkaaGreatSimDraw3
namespace Go.Sim

section
variable {P : Program} {c : Ctx} {orc : Nat → List V → H → Option (V × H)} {rd : Option Nat} {ih : Bool → Code → St → Option Out}

/-- One operation, of which only the operands are looked at. -/
theorem stepOp_low (ok : CtxOK P c) (hor : OrcOk P c orc) (hih : IHok P ih) {o : Oper} {s s' : St}
    (e : stepOp c orc rd.isSome ih o s = some (.normal, s')) (hd : s'.dfr = s.dfr) {ρ : Env} {D : Nat → Prop} {w : World} {a : Act} (hop : ∀ x ∈ o.op.operands, ∀ v, evx s.tm x = some v → a.eval x = v.conc ρ ∧ v.In D)
    (hr : HR ρ D s.heap w) {next : Act → World → Prop} {Q : Exit → Act → World → Prop}
    (hn : ∀ ρ' v w', Mv ρ D s.heap w ρ' s'.heap w' → HR ρ' (Dx D s.heap s'.heap) s'.heap w' → v.In (Dx D s.heap s'.heap) → s'.tm = putT s.tm o.dst v → next (a.put o.dst (v.conc ρ')) w') :
    o.wpIn (Fx (rd.map ρ.blk)) 0 P a w next Q := by
  refine ⟨fun _ _ => trivial, ?_⟩
  unfold stepOp at e
  cases hop' : aop c o (evx s.tm) s.heap with
  | none => simp [hop'] at e
  | some an =>
    have hsem := semAt_run (rd := rd) hop'
    have hs := aop_sound (P := P) (a := a.eval) ok hop' hr hop
    simp only [hop'] at e
    have fin : ∀ (v : V) (h : H), (match putD s o.dst v h with | some s' => some (AX.normal, s') | none => none) = some (AX.normal, s') → s'.tm = putT s.tm o.dst v ∧ s'.heap = h := by
      intro v h e
      split at e
      · rename_i s2 hp
        simp only [Option.some.injEq, Prod.mk.injEq, true_and] at e; subst e
        obtain ⟨g1, rfl⟩ := putD_some hp
        exact ⟨rfl, rfl⟩
      · cases e
    cases an with
    | val v h' =>
      rw [show (Fx (rd.map ρ.blk)).round = rd.map ρ.blk from rfl, hsem (fun _ _ h => by cases h)]
      obtain ⟨ρ', w', hr, m, r, hv⟩ := hs
      obtain ⟨g1, rfl⟩ := fin v h' e
      rw [hr]
      exact hn _ _ _ m r hv g1
    | skip h' =>
      rw [show (Fx (rd.map ρ.blk)).round = rd.map ρ.blk from rfl, hsem (fun _ _ h => by cases h)]
      obtain ⟨w', hr, m, r⟩ := hs
      obtain ⟨g1, rfl⟩ := fin undefV h' e
      rw [hr]
      have := hn _ _ _ m r (undefV_In _) g1
      rw [undefV_conc] at this
      exact this
    | call f args =>
      rw [show (Fx (rd.map ρ.blk)).round = rd.map ρ.blk from rfl, hsem (fun _ _ h => by cases h)]
      obtain ⟨hin, hr2⟩ := hs
      simp only at e
      cases hcall : callO c orc ih f args s.heap with
      | none => simp [hcall] at e
      | some out =>
        obtain ⟨fi, hfi⟩ := callO_fn hor hcall
        rw [hr2, callFunc_enter ok hfi]
        refine ⟨fun h => by simp [Fx] at h, callsIn_Fx none _ (CallsIn.mono (callO_sound ok hor hih hcall ρ D w hr hin) ?_)⟩
        simp only [hcall] at e
        cases out with
        | ret v h' =>
          obtain ⟨g1, rfl⟩ := fin v h' e
          rintro en w' ⟨ρ', rfl, m, r, hv⟩
          exact hn _ _ _ m r hv g1
        | panic v h' => simp at e
    | round l args =>
      rw [show (Fx (rd.map ρ.blk)).round = rd.map ρ.blk from rfl, hsem (fun _ _ h => by cases h)]
      obtain ⟨hl, hin, hr2⟩ := hs
      simp only at e
      cases hround : roundF ih l args s.heap with
      | none => simp [hround] at e
      | some out =>
        simp only [hround] at e
        obtain ⟨fn, tmps, y, z, hy, hR⟩ := roundF_sound hih hround ρ D w hr hl hin
        rw [hr2, hy]
        refine ⟨fun h => by simp [Fx] at h, roundIn_Fx none _ (RoundIn.mono hR ?_)⟩
        cases out with
        | ret v h' =>
          obtain ⟨g1, rfl⟩ := fin v h' e
          rintro en w' ⟨ρ', rfl, m, r, hv⟩
          exact hn _ _ _ m r hv g1
        | panic v h' => simp at e
    | dfr d =>
      exfalso
      cases hrd : rd.isSome with
      | true => simp [hrd] at e
      | false =>
        simp only [hrd, cond_false] at e
        split at e
        · rename_i s2 hp
          simp only [Option.some.injEq, Prod.mk.injEq, true_and] at e; subst e
          obtain ⟨g1, rfl⟩ := putD_some hp
          have := congrArg List.length hd
          simp at this
        · cases e
    | recover => simp at e
    | pan v h' => simp at e

def Env.mix (n : Nat) (ρ' ρ : Env) : Env :=
  { blk := fun id => if id < n then ρ'.blk id else ρ.blk id
    off := fun id => if id < n then ρ'.off id else ρ.off id
    cap := fun id => if id < n then ρ'.cap id else ρ.cap id }

def DS (D0 : Nat → Prop) (st : Nat → St) (S : Nat → Prop) : Nat → Prop := fun id => D0 id ∨ ∃ j, S j ∧ (st j).heap.next ≤ id ∧ id < (st (j + 1)).heap.next

structure Base (P : Program) (c : Ctx) (orc : Nat → List V → H → Option (V × H)) (rd : Option Nat) (ih : Bool → Code → St → Option Out) (ops : Array Oper) (m : Nat) (st : Nat → St) (ρ0 : Env) (D0 : Nat → Prop) (a0 : Act) (w0 : World) : Prop where
  ok : CtxOK P c
  hor : OrcOk P c orc
  hih : IHok P ih
  hm : drawOk ops.toList = some m
  hs : ∀ i, i < m → ∃ o, ops[i]? = some o ∧ StepA c orc rd.isSome ih ops.toList (befores ops.toList []) m i o (st i) (st (i + 1)) ∧ AF ops.toList (befores ops.toList []) m i o (st i) (st (i + 1))
  k0 : StR ρ0 D0 (st 0) a0 w0
  kt : ∀ i, i < m → ∃ ρ' a' w', StR ρ' (Dx D0 (st 0).heap (st i).heap) (st i) a' w'
  hl : ∀ l, rd = some l → D0 l

def TmOK (ops : Array Oper) (st : Nat → St) (S : Nat → Prop) (tm : Tm) : Prop :=
  ∀ t, (∃ j o, S j ∧ ops[j]? = some o ∧ o.dst = some t ∧ (∀ j' o', S j' → ops[j']? = some o' → o'.dst = some t → j' ≤ j) ∧ getV tm t = getV (st (j + 1)).tm t) ∨
    ((∀ j o, S j → ops[j]? = some o → o.dst ≠ some t) ∧ getV tm t = getV (st 0).tm t)

variable {ops : Array Oper} {m : Nat} {st : Nat → St} {ρ0 : Env} {D0 : Nat → Prop} {a0 : Act} {w0 : World}

namespace Base
variable (B : Base P c orc rd ih ops m st ρ0 D0 a0 w0)
include B

theorem af {i : Nat} (hi : i < m) {o : Oper} (ho : ops[i]? = some o) : AF ops.toList (befores ops.toList []) m i o (st i) (st (i + 1)) := by
  obtain ⟨o', h1, _, h3⟩ := B.hs i hi
  rw [ho] at h1; cases h1; exact h3

theorem next_mono : ∀ {p q : Nat}, p ≤ q → q ≤ m → (st p).heap.next ≤ (st q).heap.next := by
  intro p q hpq
  induction hpq with
  | refl => intro _; exact Nat.le_refl _
  | step h ih =>
    intro hq
    obtain ⟨o, _, _, af⟩ := B.hs _ hq
    exact Nat.le_trans (ih (by omega)) af.next

theorem low_mono : ∀ {q : Nat}, q ≤ m → (st q).heap.low ≤ (st 0).heap.low := by
  intro q
  induction q with
  | zero => intro _; exact Nat.le_refl _
  | succ q ih =>
    intro hq
    obtain ⟨o, _, _, af⟩ := B.hs _ hq
    exact Nat.le_trans af.low (ih (by omega))

theorem n_eq : ∀ {q : Nat}, q ≤ m → (st q).n = (st 0).n := by
  intro q
  induction q with
  | zero => intro _; rfl
  | succ q ih =>
    intro hq
    obtain ⟨o, _, _, af⟩ := B.hs _ hq
    exact af.n.trans (ih (by omega))

theorem dfr_eq : ∀ {q : Nat}, q ≤ m → (st q).dfr = (st 0).dfr := by
  intro q
  induction q with
  | zero => intro _; rfl
  | succ q ih =>
    intro hq
    obtain ⟨o, _, _, af⟩ := B.hs _ hq
    exact af.dfr.trans (ih (by omega))

theorem cap : ∀ {q : Nat}, q ≤ m → (st q).heap.next ≤ T.top := by
  intro q hq
  cases q with
  | zero => exact B.k0.hr.cap
  | succ q =>
    obtain ⟨o, _, _, af⟩ := B.hs _ hq
    exact af.cap

/-- One block, over some steps that leave it alone. -/
theorem same_range {id : Nat} : ∀ {p q : Nat}, p ≤ q → q ≤ m → id < (st p).heap.next → (∀ i, p ≤ i → i < q → id < (st i).heap.next → (st (i + 1)).heap.get id = (st i).heap.get id) → (st q).heap.get id = (st p).heap.get id := by
  intro p q hpq
  induction hpq with
  | refl => intro _ _ _; rfl
  | @step q h ih =>
    intro hq hid hst
    have hp : p ≤ q := h
    rw [hst q hp (by omega) (Nat.lt_of_lt_of_le hid (B.next_mono hp (by omega)))]
    exact ih (by omega) hid fun i h1 h2 h3 => hst i h1 (by omega) h3

theorem quiet_range {p q : Nat} (hpq : p ≤ q) (hq : q ≤ m) (hst : ∀ i, p ≤ i → i < q → Quiet (st i) (st (i + 1))) {id : Nat} (hid : id < (st p).heap.next) : (st q).heap.get id = (st p).heap.get id :=
  B.same_range hpq hq hid fun i h1 h2 h3 => hst i h1 h2 id h3

theorem old_range {id : Nat} {o' : O} : ∀ {p q : Nat}, p ≤ q → q ≤ m → id < (st p).heap.next → (st q).heap.get id = some o' → ∃ o, (st p).heap.get id = some o ∧ o'.wr = o.wr := by
  intro p q hpq
  induction hpq generalizing o' with
  | refl => intro _ _ h; exact ⟨o', h, rfl⟩
  | @step q h ih =>
    intro hq hid hg
    have hp : p ≤ q := h
    obtain ⟨o, _, _, af⟩ := B.hs _ hq
    obtain ⟨o1, h1, h2⟩ := af.old id o' (Nat.lt_of_lt_of_le hid (B.next_mono hp (by omega))) hg
    obtain ⟨o2, h3, h4⟩ := ih (by omega) hid h1
    exact ⟨o2, h3, h2.trans h4⟩

theorem kept_range {id : Nat} : ∀ {q : Nat}, q ≤ m → id < (st 0).heap.next → id < (st q).heap.low → (st q).heap.get id = (st 0).heap.get id := by
  intro q
  induction q with
  | zero => intro _ _ _; rfl
  | succ q ih =>
    intro hq h1 h2
    obtain ⟨o, _, _, af⟩ := B.hs _ hq
    rw [af.kept id (Nat.lt_of_lt_of_le h1 (B.next_mono (Nat.zero_le _) (by omega))) h2]
    exact ih (by omega) h1 (Nat.lt_of_lt_of_le h2 af.low)

omit B in
/-- A block that came up on the way. -/
theorem born {id : Nat} : ∀ {q : Nat}, (st 0).heap.next ≤ id → id < (st q).heap.next → ∃ j, j < q ∧ (st j).heap.next ≤ id ∧ id < (st (j + 1)).heap.next := by
  intro q
  induction q with
  | zero => intro h1 h2; omega
  | succ q ih =>
    intro h1 h2
    rcases Nat.lt_or_ge id (st q).heap.next with g | g
    · obtain ⟨j, h3, h4⟩ := ih h1 g
      exact ⟨j, by omega, h4⟩
    · exact ⟨q, by omega, g, h2⟩

theorem rows : rowsOk ops.toList (befores ops.toList []) 0 ops.toList = true := by
  have hk := B.hm
  unfold drawOk at hk
  cases hc : rowsOk ops.toList (befores ops.toList []) 0 ops.toList with
  | true => rfl
  | false => simp [hc] at hk

theorem hmeq : m = tailFrom (befores ops.toList []) ops.toList.length := by
  have hk := B.hm
  unfold drawOk at hk
  cases hc : (rowsOk ops.toList (befores ops.toList []) 0 ops.toList && (!(Region.departs ops.toList.toArray) || (witOk ops.toList (Region.linearise .gc ops.toList.toArray 0) [] && hasAll (Region.linearise .gc ops.toList.toArray 0) ops.toList.length))) with
  | false => simp only [hc, cond_false] at hk; cases hk
  | true => simp only [hc, cond_true, Option.some.injEq] at hk; exact hk.symm

theorem m_le : m ≤ ops.size := by
  have := tailFrom_le (befores ops.toList []) ops.toList.length
  rw [← B.hmeq] at this
  simpa using this

theorem apart {i j : Nat} {oi oj : Oper} (hij : i < j) (hi : ops[i]? = some oi) (hj : ops[j]? = some oj) : Nat.testBit ((befores ops.toList []).getD j 0) i = true ∨
    (∀ d, oi.dst = some d → d ∉ tmpsOf ops.toList oj ∧ oj.dst ≠ some d) ∧ ∀ d, oj.dst = some d → d ∉ tmpsOf ops.toList oi := by
  have h1 := (rowsOk_spec _ 0 B.rows j oj (by simpa using hj)).1
  rw [Nat.zero_add] at h1
  have h2 := rowOk_spec _ 0 h1 i oi (by omega) (by simpa using hi)
  rw [Nat.zero_add] at h2
  refine h2.imp id fun h3 => ?_
  simp only [clash, Bool.or_eq_false_iff] at h3
  refine ⟨fun d hd => ?_, fun d hd => ?_⟩
  · rw [hd] at h3
    simp only [Bool.or_eq_false_iff] at h3
    refine ⟨fun hm => ?_, fun hd' => ?_⟩
    · rw [(memN_iff _ _).2 hm] at h3; simp at h3
    · rw [hd'] at h3; simp at h3
  · have h4 := h3.2
    simp only [hd] at h4
    intro hm
    rw [(memN_iff _ _).2 hm] at h4; simp at h4

/-- A temporary, over some steps that do not write it. -/
theorem tm_range {t : Nat} : ∀ {p q : Nat}, p ≤ q → q ≤ m → (∀ i o, p ≤ i → i < q → ops[i]? = some o → o.dst ≠ some t) → getV (st q).tm t = getV (st p).tm t := by
  intro p q hpq
  induction hpq with
  | refl => intro _ _; rfl
  | @step q h ih =>
    intro hq hw
    obtain ⟨o, ho, _, af⟩ := B.hs _ hq
    obtain ⟨v, hv, he⟩ := af.tm
    rw [he, ← ih (by omega) fun i o h1 h2 => hw i o h1 (by omega)]
    cases hd : o.dst with
    | none => rfl
    | some d =>
      have hne : t ≠ d := fun e => hw q o h (by omega) ho (by rw [hd, e])
      have hlt : d < Tb.top := by
        have := hv d hd
        rw [B.n_eq (by omega)] at this
        exact Nat.lt_of_lt_of_le this B.k0.tm.cap
      simp only [putT]
      rw [getV_set _ _ _ _ hlt, if_neg hne]

end Base
end
end Go.Sim
