/- The whole evaluator. -/
import Derived.Test.YtifabdlnecohfaaSimDraw7
namespace Go.Sim

section
variable {P : Program} {c : Ctx} {orc : Nat → List V → H → Option (V × H)}

def Claim (P : Program) (rd : Option Nat) (code : Code) (s : St) (x : AX) (s' : St) : Prop :=
  match code with
  | .loop b => SimL P rd b s x s'
  | code => SimC P rd code s x s'

theorem Claim.sim {rd : Option Nat} {code : Code} {s s' : St} {x : AX} (h : Claim P rd code s x s') : SimC P rd code s x s' := by
  cases code <;> first | exact h | exact SimL.loop h

def IH2 (P : Program) (ih : Bool → Code → St → Option Out) : Prop := ∀ rd code s x s', ih (Option.isSome rd) code s = some (.done x s') → Claim P rd code s x s'

theorem IH2.ok {ih : Bool → Code → St → Option Out} (h : IH2 P ih) : IHok P ih := fun rd code s x s' e => (h rd code s x s' e).sim

theorem opsF_top (ok : CtxOK P c) (hor : OrcOk P c orc) {ih : Bool → Code → St → Option Out} (hih : IHok P ih) {id : Nat} {ops : Array Oper} {rd : Option Nat} {s s' : St} {x : AX}
    (e : opsF c orc rd.isSome ih ops.toList ops.toList s = some (.done x s')) : SimC P rd (.region id ops false) s x s' := by
  intro ρ D w a k hl
  refine wpIn_region (opsF_sound ok hor hih _ _ (mapM_range ops) e k.hr.lt hl (Mv.refl _ _ _ _) (by rw [Dx_self]; exact k))

theorem drawF_top (ok : CtxOK P c) (hor : OrcOk P c orc) {ih : Bool → Code → St → Option Out} (hih : IHok P ih) {id : Nat} {ops : Array Oper} {rd : Option Nat} {s s' : St} {x : AX} {m : Nat} (hm : drawOk ops.toList = some m)
    (e : drawF c orc rd.isSome ih ops.toList (befores ops.toList []) m m 0 ops.toList s = some (.done x s')) : SimC P rd (.region id ops true) s x s' :=
  drawF_sound ok hor hih hm e

theorem stepC_sound (ok : CtxOK P c) (hor : OrcOk P c orc) {ih : Bool → Code → St → Option Out} (h2 : IH2 P ih) : IH2 P (fun rd code s => stepC c orc ih rd code s) := by
  intro rd code s x s' e
  have hih := h2.ok
  cases code with
  | skip =>
    simp only [stepC, Option.some.injEq, Out.done.injEq] at e
    obtain ⟨rfl, rfl⟩ := e
    exact SimC.skip s
  | region id ops draw =>
    show SimC P rd (.region id ops draw) s x s'
    simp only [stepC] at e
    cases draw with
    | false =>
      simp only [cond_false] at e
      exact opsF_top ok hor hih e
    | true =>
      simp only [cond_true] at e
      split at e
      · rename_i m hm
        exact drawF_top ok hor hih hm e
      · cases e
  | seq a b =>
    show SimC P rd (.seq a b) s x s'
    simp only [stepC] at e
    split at e
    · rename_i s1 h1
      exact SimC.seq (hih rd _ _ _ _ h1) (hih rd _ _ _ _ e)
    · rename_i r hr
      refine SimC.seq_out (hih rd _ _ _ _ e) ?_
      rintro rfl
      exact hr s' e
  | cond o a b =>
    show SimC P rd (.cond o a b) s x s'
    simp only [stepC] at e
    split at e
    · rename_i t ho
      exact SimC.cond ho (hih rd _ _ _ _ e)
    · cases e
  | block id b =>
    show SimC P rd (.block id b) s x s'
    simp only [stepC] at e
    split at e
    · rename_i i s1 h1
      have h := SimC.block (id := id) (hih rd _ _ _ _ h1)
      by_cases hi : i = id
      · subst hi
        simp only [Nat.beq_refl, cond_true, Option.some.injEq, Out.done.injEq] at e
        obtain ⟨rfl, rfl⟩ := e
        simpa using h
      · have : Nat.beq i id = false := by
          cases hb : Nat.beq i id with
          | false => rfl
          | true => exact absurd (Nat.eq_of_beq_eq_true hb) hi
        simp only [this, cond_false, Option.some.injEq, Out.done.injEq] at e
        obtain ⟨rfl, rfl⟩ := e
        simpa [hi] using h
    · rename_i r hr
      have h := SimC.block (id := id) (hih rd _ _ _ _ e)
      cases x with
      | exit i => exact absurd e (hr i s')
      | _ => exact h
  | loop b =>
    show SimL P rd b s x s'
    simp only [stepC] at e
    split at e
    · rename_i s1 h1
      exact SimL.next (hih rd _ _ _ _ h1) (h2 rd _ _ _ _ e)
    · rename_i r hr
      refine SimL.last (hih rd _ _ _ _ e) ?_
      rintro rfl
      exact hr s' e
  | exit id =>
    simp only [stepC, Option.some.injEq, Out.done.injEq] at e
    obtain ⟨rfl, rfl⟩ := e
    exact SimC.exit id s
  | ret =>
    simp only [stepC, Option.some.injEq, Out.done.injEq] at e
    obtain ⟨rfl, rfl⟩ := e
    exact SimC.ret s
  | rangeFunc f params assign body =>
    simp only [stepC] at e
    exact rangeF_sound ok hor hih e
  | _ => simp [stepC] at e

theorem ev_sound (ok : CtxOK P c) (hor : OrcOk P c orc) : ∀ n, IH2 P (ev c orc n) := by
  intro n
  induction n with
  | zero => intro rd code s x s' e; exact absurd e (by simp [ev])
  | succ n ih => exact stepC_sound ok hor ih

theorem run_sound (ok : CtxOK P c) (hor : OrcOk P c orc) {n f : Nat} {args : List V} {h : H} {out : CallOut} (e : run c orc n f args h = some out) : SimF P f args h out :=
  callO_sound ok hor (ev_sound ok hor n).ok e

end
end Go.Sim
