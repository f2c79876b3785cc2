/- A function that defers at most one call of a closure. -/
import Derived.Test.YtamddelaigcnkaaGreatSimWp
namespace Go.Sim
variable (P : Program) (c : Ctx)

/-- What a deferred call has to end with: it defers nothing itself. -/
def endV (fi : FI) (k : H → Prop) : AX → St → Prop
  | .normal, s => s.dfr = [] ∧ (match leave c fi.results s.tm s.heap fi.results [] with | some _ => k s.heap | none => False)
  | .ret, s => s.dfr = [] ∧ (match leave c fi.results s.tm s.heap fi.results [] with | some _ => k s.heap | none => False)
  | _, _ => False

/-- A closure called as a deferred one, of a function of n temporaries. -/
def RV (n f : Nat) (args : List V) (h : H) (k : H → Prop) : Prop :=
  ∃ fi, (c.fn.get f).map slimF = some fi ∧ args.length ≤ fi.n ∧ fi.n ≤ 511 ∧ fi.n ≠ n ∧ wpC P c false fi.body ⟨fi.n, setArgs args 0 (Tb.leaf undefV), [], h⟩ (endV c fi k)

def wpD1 (n : Nat) : List AD → H → (H → Prop) → Prop
  | [], h, k => k h
  | [.fn f cap args], h, k => RV P c n f (args ++ cap) h k
  | _, _, _ => False

def endQ (fi : FI) (Q : V → H → Prop) (s : St) (h : H) : Prop := match leave c fi.results s.tm h fi.results [] with | some vs => Q (tupled vs) h | none => False

def endW1 (fi : FI) (Q : V → H → Prop) : AX → St → Prop
  | .normal, s => wpD1 P c fi.n s.dfr s.heap (endQ c fi Q s)
  | .ret, s => wpD1 P c fi.n s.dfr s.heap (endQ c fi Q s)
  | _, _ => False

variable {P c}

open Classical in
noncomputable def ih2 (a b : Bool → Code → St → Option Out) : Bool → Code → St → Option Out := fun x y z => match a x y z with | some o => some o | none => b x y z

theorem ih2_ok {a b : Bool → Code → St → Option Out} (ha : IHok P a) (hb : IHok P b) : IHok P (ih2 a b) := by
  intro rd code s x s' e
  unfold ih2 at e
  cases h : a rd.isSome code s with
  | some o => rw [h] at e; simp only [Option.some.injEq] at e; subst e; exact ha _ _ _ _ _ h
  | none => rw [h] at e; exact hb _ _ _ _ _ e

theorem ih1_not {b : Bool} {code : Code} {s s' : St} {x : AX} {b2 : Bool} {c2 : Code} {s2 : St} (h : s2.n ≠ s.n) : ih1 b code s x s' b2 c2 s2 = none := by
  unfold ih1
  rw [if_neg]
  rintro ⟨_, _, rfl⟩
  exact h rfl

theorem RF.enterD (ok : CtxOK P c) {f : Nat} {fi : FI} {args : List V} {h : H} {Q : V → H → Prop} (hf : (c.fn.get f).map slimF = some fi) (ha : args.length ≤ fi.n) (hn : fi.n ≤ 511)
    (hw : wpC P c false fi.body ⟨fi.n, setArgs args 0 (Tb.leaf undefV), [], h⟩ (endW1 P c fi Q)) : RF P c f args h Q := by
  cases hg : c.fn.get f with
  | none => rw [hg] at hf; cases hf
  | some fj =>
    rw [hg] at hf
    simp only [Option.map_some, Option.some.injEq] at hf
    subst hf
    obtain ⟨e, s1, h1, h2⟩ := RC.of_wp ok fj.body hw
    -- the entry, whatever else is known
    have ent : ∀ ih, ih false fj.body ⟨fj.n, setArgs args 0 (Tb.leaf undefV), [], h⟩ = some (.done e s1) → enterF ih fj args h = some (.done e s1) := by
      intro ih hrun
      unfold enterF
      have e1 : Nat.ble (lenL args 0) fj.n = true := by rw [lenL0]; exact Nat.ble_eq_true_of_le ha
      have e2 : Nat.ble fj.n 511 = true := Nat.ble_eq_true_of_le hn
      rw [e1, e2]
      exact hrun
    have main1 := ih1_at false fj.body ⟨fj.n, setArgs args 0 (Tb.leaf undefV), [], h⟩ e s1
    have main2 : IHok P (ih1 false fj.body ⟨fj.n, setArgs args 0 (Tb.leaf undefV), [], h⟩ e s1) := ih1_ok h1
    have last : ∀ (ih : Bool → Code → St → Option Out) (h' : H), IHok P ih → ih false fj.body ⟨fj.n, setArgs args 0 (Tb.leaf undefV), [], h⟩ = some (.done e s1) → runDefers (callD c ih) s1.dfr s1.heap = some h' → endQ c (slimF fj) Q s1 h' → (e = .normal ∨ e = .ret) → RF P c f args h Q := by
      intro ih h' hih hrun hd hq he
      unfold endQ at hq
      change (match leave c fj.results s1.tm h' fj.results [] with | some vs => Q (tupled vs) h' | none => False) at hq
      cases hl : leave c fj.results s1.tm h' fj.results [] with
      | none => rw [hl] at hq; exact hq.elim
      | some vs =>
        rw [hl] at hq
        refine ⟨tupled vs, h', ⟨⟨fj, hg⟩, callF_sound ok hih ?_⟩, hq⟩
        have hend : endF c ih fj s1 = some (.ret (tupled vs) h') := by
          unfold endF
          rw [hd]
          show (match leave c fj.results s1.tm h' fj.results [] with | some vs => some (CallOut.ret (tupled vs) h') | none => none) = _
          rw [hl]
        unfold callF
        rw [hg]
        simp only [ent ih hrun]
        rcases he with rfl | rfl <;> exact hend
    have fin : wpD1 P c fj.n s1.dfr s1.heap (endQ c (slimF fj) Q s1) → (e = .normal ∨ e = .ret) → RF P c f args h Q := by
      intro hd he
      cases hs : s1.dfr with
      | nil =>
        rw [hs] at hd
        exact last _ s1.heap main2 main1 (by rw [hs]; rfl) hd he
      | cons d l =>
        rw [hs] at hd
        cases d with
        | coll id => cases l <;> exact hd.elim
        | fn g cap as =>
          cases l with
          | cons d2 l => exact hd.elim
          | nil =>
            obtain ⟨fg, g1, g2, g3, g4, g5⟩ := hd
            cases hg2 : c.fn.get g with
            | none => rw [hg2] at g1; cases g1
            | some fk =>
              rw [hg2] at g1
              simp only [Option.map_some, Option.some.injEq] at g1
              subst g1
              obtain ⟨e2, s2, r1, r2⟩ := RC.of_wp ok fk.body g5
              have second1 := ih1_at false fk.body ⟨fk.n, setArgs (as ++ cap) 0 (Tb.leaf undefV), [], s1.heap⟩ e2 s2
              have hih : IHok P (ih2 (ih1 false fj.body ⟨fj.n, setArgs args 0 (Tb.leaf undefV), [], h⟩ e s1) (ih1 false fk.body ⟨fk.n, setArgs (as ++ cap) 0 (Tb.leaf undefV), [], s1.heap⟩ e2 s2)) := ih2_ok main2 (ih1_ok r1)
              have k1 : ih2 (ih1 false fj.body ⟨fj.n, setArgs args 0 (Tb.leaf undefV), [], h⟩ e s1) (ih1 false fk.body ⟨fk.n, setArgs (as ++ cap) 0 (Tb.leaf undefV), [], s1.heap⟩ e2 s2) false fj.body ⟨fj.n, setArgs args 0 (Tb.leaf undefV), [], h⟩ = some (.done e s1) := by
                unfold ih2; rw [main1]
              have k2 : ih2 (ih1 false fj.body ⟨fj.n, setArgs args 0 (Tb.leaf undefV), [], h⟩ e s1) (ih1 false fk.body ⟨fk.n, setArgs (as ++ cap) 0 (Tb.leaf undefV), [], s1.heap⟩ e2 s2) false fk.body ⟨fk.n, setArgs (as ++ cap) 0 (Tb.leaf undefV), [], s1.heap⟩ = some (.done e2 s2) := by
                unfold ih2; rw [ih1_not (show fk.n ≠ fj.n from g4)]; exact second1
              generalize ih2 (ih1 false fj.body ⟨fj.n, setArgs args 0 (Tb.leaf undefV), [], h⟩ e s1) (ih1 false fk.body ⟨fk.n, setArgs (as ++ cap) 0 (Tb.leaf undefV), [], s1.heap⟩ e2 s2) = ih at hih k1 k2
              have hent : enterF ih fk (as ++ cap) s1.heap = some (.done e2 s2) := by
                unfold enterF
                have e1 : Nat.ble (lenL (as ++ cap) 0) fk.n = true := by rw [lenL0]; exact Nat.ble_eq_true_of_le g2
                have e2 : Nat.ble fk.n 511 = true := Nat.ble_eq_true_of_le g3
                rw [e1, e2]
                exact k2
              have call : ∀ (q1 : s2.dfr = []) (q2 : match leave c fk.results s2.tm s2.heap fk.results [] with | some _ => endQ c (slimF fj) Q s1 s2.heap | none => False), (e2 = .normal ∨ e2 = .ret) → RF P c f args h Q := by
                intro q1 q2 he2
                cases hl : leave c fk.results s2.tm s2.heap fk.results [] with
                | none => rw [hl] at q2; exact q2.elim
                | some vs =>
                  rw [hl] at q2
                  have hend : Go.Sim.endD c fk s2 = some (.ret (tupled vs) s2.heap) := by
                    unfold Go.Sim.endD
                    rw [q1]
                    simp only [hl]
                  have hcd : callD c ih g (as ++ cap) s1.heap = some (.ret (tupled vs) s2.heap) := by
                    unfold callD
                    rw [hg2]
                    simp only [hent]
                    rcases he2 with rfl | rfl <;> exact hend
                  refine last ih s2.heap hih k1 ?_ q2 he
                  rw [hs]
                  show (match callD c ih g (as ++ cap) s1.heap with | some (.ret _ h') => runDefers (callD c ih) [] h' | _ => none) = _
                  rw [hcd]
                  rfl
              cases e2 with
              | normal => exact call r2.1 r2.2 (.inl rfl)
              | ret => exact call r2.1 r2.2 (.inr rfl)
              | _ => exact r2.elim
    cases e with
    | normal => exact fin h2 (.inl rfl)
    | ret => exact fin h2 (.inr rfl)
    | _ => exact h2.elim

theorem RF.enterDE (ok : CtxOK P c) {f : Nat} {fi : FI} {args : List V} {h : H} {Q : V → H → Prop} {w : Prop} (hf : (c.fn.get f).map slimF = some fi) (ha : args.length ≤ fi.n) (hn : fi.n ≤ 511)
    (e : wpC P c false fi.body ⟨fi.n, setArgs args 0 (Tb.leaf undefV), [], h⟩ (endW1 P c fi Q) = w) (hw : w) : RF P c f args h Q := RF.enterD ok hf ha hn (e ▸ hw)

end Go.Sim
