/- Interfaces: type assertions to concrete types, methods of the dynamic type. -/
import Derived.Test.YtjaofjfhgindjaaGreatSimMap
namespace Go.Sim

section
variable {P : Program} {c : Ctx} {ρ : Env} {D : Nat → Prop} {w : World}

theorem atass_sound (ok : CtxOK P c) {t xt : TypeId} {x v : V} {o : Bool} (e : atass c t x o = some v) (hx : x.In D) : (Instr.typeAssert (x.conc ρ) xt t o).run P w = .ok (v.conc ρ) w ∧ v.In D := by
  unfold atass at e
  split at e
  · cases e
  · rename_i ti hti
    obtain ⟨i, kk⟩ := ok.ty t ti hti
    have hu := kk.und
    split at e
    · cases e
    · rename_i d y hnot
      simp only [V.In] at hx
      cases hb : Nat.beq d t with
      | true =>
        have hdt := Nat.eq_of_beq_eq_true hb
        subst hdt
        simp only [hb, cond_true, Option.some.injEq] at e; subst e
        refine ⟨?_, lookV_In hx⟩
        cases hd : ti.desc <;> rw [hd] at hu <;> first | (exact absurd hd (hnot _)) | simp [Instr.typeAssert, run_underlying hu, V.conc, lookV_conc]
      | false =>
        have hne : ¬ d = t := fun h => by rw [h] at hb; simp at hb
        simp only [hb, cond_false] at e
        cases o with
        | false => simp at e
        | true =>
          simp only [cond_true] at e
          split at e
          · rename_i z hz
            simp only [Option.some.injEq] at e; subst e
            obtain ⟨z1, z2⟩ := run_zero kk hz ρ w
            refine ⟨?_, lookV_In (z2 D)⟩
            cases hd : ti.desc <;> rw [hd] at hu <;> first | (exact absurd hd (hnot _)) | simp [Instr.typeAssert, run_underlying hu, V.conc, hne, z1, lookV_conc]
          · cases e
    · rename_i hnot
      cases o with
      | false => simp at e
      | true =>
        simp only [cond_true] at e
        split at e
        · rename_i z hz
          simp only [Option.some.injEq] at e; subst e
          obtain ⟨z1, z2⟩ := run_zero kk hz ρ w
          refine ⟨?_, lookV_In (z2 D)⟩
          cases hd : ti.desc <;> rw [hd] at hu <;> first | (exact absurd hd (hnot _)) | simp [Instr.typeAssert, run_underlying hu, V.conc, z1, lookV_conc]
        · cases e
    · cases e

theorem findM_eq (name : String) : ∀ l : List Method, findM name l = l.find? (fun m => m.name == name) := by
  intro l
  induction l with
  | nil => rfl
  | cons m l ih =>
    simp only [findM, List.find?_cons]
    cases m.name == name <;> simp [ih]

theorem amethod_sound (ok : CtxOK P c) {t : TypeId} {name : String} {f : Nat} (e : amethod c t name = some f) (n : Nat) (v : Value) (w : World) : (method (n + 1) t v name).run P w = .ok (f, v) w := by
  unfold amethod at e
  split at e
  · cases e
  · rename_i ti hti
    obtain ⟨i, kk⟩ := ok.ty t ti hti
    split at e
    · cases e
    · rename_i m hm
      split at e
      · rename_i f' pr hp hf
        cases hb : (ptrD ti.desc == pr) with
        | false => simp [hb] at e
        | true =>
          simp only [hb, cond_true, Option.some.injEq] at e; subst e
          have hu := kk.und
          rw [findM_eq, ← kk.meth] at hm
          have hfind : i.methods.find? (fun m => m.name == name) = some m := by
            rw [← hm]; simp
          have hpath : m.path = #[] := by
            apply Array.ext'; simpa using hp
          have hti2 : (typeInfo t).run P w = .ok i w := by simp [typeInfo, kk.info]
          rw [method]
          simp only [Sem.run_bind, hti2, Result.andThen_ok, hfind, hpath, hf, follow, Sem.run_pure]
          have hrec : ∀ o, (receiverAt t (Place.val v) pr o).run P w = .ok v w := by
            intro o
            unfold receiverAt
            simp only [Sem.run_bind, run_underlying hu, Result.andThen_ok]
            cases hd : ti.desc <;> cases pr <;> rw [hd] at hb <;> first
              | (simp [ptrD] at hb; done)
              | simp [Place.get]
          simp [hrec]
      · cases e

end
end Go.Sim
