/- The whole evaluator. -/
import Derived.Test.YtamddelaigcnkaaGreatSimDraw7
namespace Go.Sim

section
variable {P : Program} {c : Ctx} {orc : Nat → List V → H → Option (V × H)}

def Claim (P : Program) (rd : Option Nat) (code : Code) (s : St) (x : AX) (s' : St) : Prop :=
  match code with
  | .loop b => SimL P rd b s x s'
  | code => SimC P rd code s x s'

theorem Claim.sim {rd : Option Nat} {code : Code} {s s' : St} {x : AX} (h : Claim P rd code s x s') : SimC P rd code s x s' := by
  cases code <;> first | exact h | exact SimL.loop h

def IH2 (P : Program) (ih : Bool → Code → St → Option Out) : Prop := ∀ rd code s x s', ih (Option.isSome rd) code s = some (.done x s') → Claim P rd code s x s'

theorem IH2.ok {ih : Bool → Code → St → Option Out} (h : IH2 P ih) : IHok P ih := fun rd code s x s' e => (h rd code s x s' e).sim

theorem opsF_top (ok : CtxOK P c) (hor : OrcOk P c orc) {ih : Bool → Code → St → Option Out} (hih : IHok P ih) {id : Nat} {ops : Array Oper} {rd : Option Nat} {s s' : St} {x : AX}
    (e : opsF c orc rd.isSome ih ops.toList ops.toList s = some (.done x s')) : SimC P rd (.region id ops false) s x s' := by
  intro ρ D w a k hl
  refine wpIn_region (opsF_sound ok hor hih _ _ (mapM_range ops) e k.hr.lt hl (Mv.refl _ _ _ _) (by rw [Dx_self]; exact k))

theorem drawF_top (ok : CtxOK P c) (hor : OrcOk P c orc) {ih : Bool → Code → St → Option Out} (hih : IHok P ih) {id : Nat} {ops : Array Oper} {rd : Option Nat} {s s' : St} {x : AX} {m : Nat} (hm : drawOk ops.toList = some m)
    (e : drawF c orc rd.isSome ih ops.toList (befores ops.toList []) m m 0 ops.toList s = some (.done x s')) : SimC P rd (.region id ops true) s x s' :=
  drawF_sound ok hor hih hm e

theorem wpIn_scope {F : Fence} {n : Nat} {Q : Exit → Act → World → Prop} {a : Act} {w : World} {x : Code} (h : x.wpIn F n P (fun e a w => (∀ l, e ≠ .goto l) ∧ Q e a w) a w) : (Code.scope x).wpIn F n P Q a w := by
  intro b k cs hro hb hr
  have h0 : (lone (b.atR a (.code (.scope x) :: k)) cs w).fenced P F := fenced_calm hb hr rfl
  have s0 : step P (lone (b.atR a (.code (.scope x) :: k)) cs w) = .next (lone (b.atR a (.code x :: .inScope x :: k)) cs w) := step_lone_go (by simp [stepG, stepG.exec, Frame.atR])
  have s1 : ∀ a w, step P (lone (b.atR a (.inScope x :: k)) cs w) = .next (lone (b.atR a k) cs w) := fun a w => step_lone_go (by simp [stepG, stepG.exec, Frame.atR])
  obtain ⟨e, a1, w1, ⟨hg, hq⟩, harr⟩ := h b (.inScope x :: k) cs hro hb hr
  have hx : ∀ id, exitTo id (.inScope x :: k) = exitTo id k := fun id => by simp [exitTo]
  cases e with
  | normal => exact ⟨.normal, a1, w1, hq, .head h0 s0 (StepsIn.trans harr (.one (fenced_calm hb hr rfl) (s1 _ _)))⟩
  | exit id => exact ⟨.exit id, a1, w1, hq, fun k' hk => .head h0 s0 (harr.1 k' (by rw [hx]; exact hk)), fun hr' hk => let ⟨k1, g1, g2⟩ := harr.2 hr' (by rw [hx]; exact hk); ⟨k1, g1, .head h0 s0 g2⟩⟩
  | goto l => exact absurd rfl (hg l)
  | ret => exact ⟨_, a1, w1, hq, .of_steps (.one h0 s0) harr⟩
  | panic ch => exact ⟨_, a1, w1, hq, .of_steps (.one h0 s0) harr⟩
  | outgrown => exact ⟨_, a1, w1, hq, .of_steps (.one h0 s0) harr⟩

theorem SimC.scope {rd : Option Nat} {x : Code} {s s1 : St} {e : AX} (h : SimC P rd x s e s1) : SimC P rd (.scope x) s e s1 := by
  intro ρ D w a k hl
  refine wpIn_scope (wpIn_mono (h ρ D w a k hl) ?_)
  rintro e1 a1 w1 ⟨ρ1, m1, k1, rfl, hx⟩
  exact ⟨fun l he => by cases e <;> simp [AX.toExit] at he, ρ1, m1, k1, rfl, hx⟩

theorem SimC.label {rd : Option Nat} (l : Nat) (s : St) : SimC P rd (.label l) s .normal s := fun _ _ _ _ k _ => wpIn_label (Ends.refl k (fun _ h => by cases h))

theorem stepC_sound (ok : CtxOK P c) (hor : OrcOk P c orc) {ih : Bool → Code → St → Option Out} (h2 : IH2 P ih) : IH2 P (fun rd code s => stepC c orc ih rd code s) := by
  intro rd code s x s' e
  have hih := h2.ok
  cases code with
  | skip =>
    simp only [stepC, Option.some.injEq, Out.done.injEq] at e
    obtain ⟨rfl, rfl⟩ := e
    exact SimC.skip s
  | region id ops draw =>
    show SimC P rd (.region id ops draw) s x s'
    simp only [stepC] at e
    cases draw with
    | false =>
      simp only [cond_false] at e
      exact opsF_top ok hor hih e
    | true =>
      simp only [cond_true] at e
      split at e
      · rename_i m hm
        exact drawF_top ok hor hih hm e
      · cases e
  | seq a b =>
    show SimC P rd (.seq a b) s x s'
    simp only [stepC] at e
    split at e
    · rename_i s1 h1
      exact SimC.seq (hih rd _ _ _ _ h1) (hih rd _ _ _ _ e)
    · rename_i r hr
      refine SimC.seq_out (hih rd _ _ _ _ e) ?_
      rintro rfl
      exact hr s' e
  | cond o a b =>
    show SimC P rd (.cond o a b) s x s'
    simp only [stepC] at e
    split at e
    · rename_i t ho
      exact SimC.cond ho (hih rd _ _ _ _ e)
    · cases e
  | block id b =>
    show SimC P rd (.block id b) s x s'
    simp only [stepC] at e
    split at e
    · rename_i i s1 h1
      have h := SimC.block (id := id) (hih rd _ _ _ _ h1)
      by_cases hi : i = id
      · subst hi
        simp only [Nat.beq_refl, cond_true, Option.some.injEq, Out.done.injEq] at e
        obtain ⟨rfl, rfl⟩ := e
        simpa using h
      · have : Nat.beq i id = false := by
          cases hb : Nat.beq i id with
          | false => rfl
          | true => exact absurd (Nat.eq_of_beq_eq_true hb) hi
        simp only [this, cond_false, Option.some.injEq, Out.done.injEq] at e
        obtain ⟨rfl, rfl⟩ := e
        simpa [hi] using h
    · rename_i r hr
      have h := SimC.block (id := id) (hih rd _ _ _ _ e)
      cases x with
      | exit i => exact absurd e (hr i s')
      | _ => exact h
  | loop b =>
    show SimL P rd b s x s'
    simp only [stepC] at e
    split at e
    · rename_i s1 h1
      exact SimL.next (hih rd _ _ _ _ h1) (h2 rd _ _ _ _ e)
    · rename_i r hr
      refine SimL.last (hih rd _ _ _ _ e) ?_
      rintro rfl
      exact hr s' e
  | scope b =>
    simp only [stepC] at e
    exact SimC.scope (hih rd _ _ _ _ e)
  | label l =>
    simp only [stepC, Option.some.injEq, Out.done.injEq] at e
    obtain ⟨rfl, rfl⟩ := e
    exact SimC.label l s
  | exit id =>
    simp only [stepC, Option.some.injEq, Out.done.injEq] at e
    obtain ⟨rfl, rfl⟩ := e
    exact SimC.exit id s
  | ret =>
    simp only [stepC, Option.some.injEq, Out.done.injEq] at e
    obtain ⟨rfl, rfl⟩ := e
    exact SimC.ret s
  | rangeFunc f params assign body =>
    simp only [stepC] at e
    exact rangeF_sound ok hor hih e
  | _ => simp [stepC] at e

theorem ev_sound (ok : CtxOK P c) (hor : OrcOk P c orc) : ∀ n, IH2 P (ev c orc n) := by
  intro n
  induction n with
  | zero => intro rd code s x s' e; exact absurd e (by simp [ev])
  | succ n ih => exact stepC_sound ok hor ih

theorem run_sound (ok : CtxOK P c) (hor : OrcOk P c orc) {n f : Nat} {args : List V} {h : H} {out : CallOut} (e : run c orc n f args h = some out) : SimF P f args h out :=
  callO_sound ok hor (ev_sound ok hor n).ok e

end
end Go.Sim
