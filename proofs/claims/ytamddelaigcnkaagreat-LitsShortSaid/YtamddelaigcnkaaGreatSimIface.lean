/- Interfaces: type assertions to concrete types, methods of the dynamic type. -/
import Derived.Test.YtamddelaigcnkaaGreatSimMap
namespace Go.Sim

section
variable {P : Program} {c : Ctx} {ρ : Env} {D : Nat → Prop} {w : World}

theorem atass_sound (ok : CtxOK P c) {t xt : TypeId} {x v : V} {o : Bool} (e : atass c t x o = some v) (hx : x.In D) : (Instr.typeAssert (x.conc ρ) xt t o).run P w = .ok (v.conc ρ) w ∧ v.In D := by
  unfold atass at e
  split at e
  · cases e
  · rename_i ti hti
    obtain ⟨i, kk⟩ := ok.ty t ti hti
    have hu := kk.und
    split at e
    · cases e
    · rename_i d y hnot
      simp only [V.In] at hx
      cases hb : Nat.beq d t with
      | true =>
        have hdt := Nat.eq_of_beq_eq_true hb
        subst hdt
        simp only [hb, cond_true, Option.some.injEq] at e; subst e
        refine ⟨?_, lookV_In hx⟩
        cases hd : ti.desc <;> rw [hd] at hu <;> first | (exact absurd hd (hnot _)) | simp [Instr.typeAssert, run_underlying hu, V.conc, lookV_conc]
      | false =>
        have hne : ¬ d = t := fun h => by rw [h] at hb; simp at hb
        simp only [hb, cond_false] at e
        cases o with
        | false => simp at e
        | true =>
          simp only [cond_true] at e
          split at e
          · rename_i z hz
            simp only [Option.some.injEq] at e; subst e
            obtain ⟨z1, z2⟩ := run_zero kk hz ρ w
            refine ⟨?_, lookV_In (z2 D)⟩
            cases hd : ti.desc <;> rw [hd] at hu <;> first | (exact absurd hd (hnot _)) | simp [Instr.typeAssert, run_underlying hu, V.conc, hne, z1, lookV_conc]
          · cases e
    · rename_i hnot
      cases o with
      | false => simp at e
      | true =>
        simp only [cond_true] at e
        split at e
        · rename_i z hz
          simp only [Option.some.injEq] at e; subst e
          obtain ⟨z1, z2⟩ := run_zero kk hz ρ w
          refine ⟨?_, lookV_In (z2 D)⟩
          cases hd : ti.desc <;> rw [hd] at hu <;> first | (exact absurd hd (hnot _)) | simp [Instr.typeAssert, run_underlying hu, V.conc, z1, lookV_conc]
        · cases e
    · cases e

theorem findM_eq (name : String) : ∀ l : List Method, findM name l = l.find? (fun m => m.name == name) := by
  intro l
  induction l with
  | nil => rfl
  | cons m l ih =>
    simp only [findM, List.find?_cons]
    cases m.name == name <;> simp [ih]

theorem amethod_sound (ok : CtxOK P c) {t : TypeId} {name : String} {f : Nat} (e : amethod c t name = some (f, none)) (n : Nat) (v : Value) (w : World) : (method (n + 1) t v name).run P w = .ok (f, v) w := by
  unfold amethod at e
  split at e
  · cases e
  · rename_i ti hti
    obtain ⟨i, kk⟩ := ok.ty t ti hti
    split at e
    · cases e
    · rename_i m hm
      split at e
      · rename_i f' pr hp hf
        cases hb : (ptrD ti.desc == pr) with
        | false =>
          simp only [hb, cond_false] at e
          split at e <;> simp at e
        | true =>
          simp only [hb, cond_true, Option.some.injEq, Prod.mk.injEq, and_true] at e; subst e
          have hu := kk.und
          rw [findM_eq, ← kk.meth] at hm
          have hfind : i.methods.find? (fun m => m.name == name) = some m := by
            rw [← hm]; simp
          have hpath : m.path = #[] := by
            apply Array.ext'; simpa using hp
          have hti2 : (typeInfo t).run P w = .ok i w := by simp [typeInfo, kk.info]
          rw [method]
          simp only [Sem.run_bind, hti2, Result.andThen_ok, hfind, hpath, hf, follow, Sem.run_pure]
          have hrec : ∀ o, (receiverAt t (Place.val v) pr o).run P w = .ok v w := by
            intro o
            unfold receiverAt
            simp only [Sem.run_bind, run_underlying hu, Result.andThen_ok]
            cases hd : ti.desc <;> cases pr <;> rw [hd] at hb <;> first
              | (simp [ptrD] at hb; done)
              | simp [Place.get]
          simp [hrec]
      · cases e

theorem amethod_deref (ok : CtxOK P c) {t : TypeId} {name : String} {f el : Nat} (e : amethod c t name = some (f, some el)) (n : Nat) (v u : V) {h : H} (hu' : ald c el h v = some u) (hr : HR ρ D h w) (hv : v.In D) :
    (method (n + 1) t (v.conc ρ) name).run P w = .ok (f, u.conc ρ) w ∧ u.In D := by
  obtain ⟨hl, huD⟩ := ald_sound ok hu' hr hv
  refine ⟨?_, huD⟩
  unfold amethod at e
  split at e
  · cases e
  · rename_i ti hti
    obtain ⟨i, kk⟩ := ok.ty t ti hti
    split at e
    · cases e
    · rename_i m hm
      split at e
      · rename_i f' pr hp hf
        cases hb : (ptrD ti.desc == pr) with
        | true => simp [hb] at e
        | false =>
          simp only [hb, cond_false] at e
          split at e
          · rename_i el' he
            simp only [Option.some.injEq, Prod.mk.injEq] at e
            obtain ⟨rfl, rfl⟩ := e
            have hu := kk.und
            have hd : ti.desc = .pointer el' := by
              cases hdd : ti.desc <;> rw [hdd] at he <;> simp [elemD] at he
              rw [he]
            rw [hd] at hu
            rw [findM_eq, ← kk.meth] at hm
            have hfind : i.methods.find? (fun m => m.name == name) = some m := by
              rw [← hm]; simp
            have hpath : m.path = #[] := by
              apply Array.ext'; simpa using hp
            have hti2 : (typeInfo t).run P w = .ok i w := by simp [typeInfo, kk.info]
            -- the value is a pointer
            cases v <;> first | (simp [ald] at hu'; done) | skip
            rename_i b o
            have hload : (loadVar el' ⟨ρ.blk b, ρ.off b + o, none⟩).run P w = .ok (u.conc ρ) w := by
              have := hl
              simp only [V.conc, Instr.loadAt, Instr.sureAddr, Sem.run_bind, Sem.run_pure, Result.andThen_ok] at this
              exact this
            rw [method]
            simp only [Sem.run_bind, hti2, Result.andThen_ok, hfind, hpath, hf, follow, Sem.run_pure]
            have hchk : ∀ (a b : Value) (x : Addr), ∀ s1 s2 : ByteArray, (Builtin.ssaWrapNilChk_ #[t] t #[.pointer (some x), .string s1, .string s2]).run P w = .ok (.pointer (some x)) w := fun _ _ _ _ _ => rfl
            have hrec : ∀ o', (receiverAt t (Place.val (V.conc ρ (.ptr b o))) false o').run P w = .ok (u.conc ρ) w := by
              intro o'
              unfold receiverAt
              simp only [Sem.run_bind, run_underlying hu, Result.andThen_ok, Place.get, V.conc, Sem.run_pure]
              cases o' with
              | none => simp [asAddr, hload]
              | some nm =>
                simp only [strVal, hchk (.bool true) (.bool true), Sem.run_bind, Result.andThen_ok]
                simp [asAddr, hload]
            simp [hrec]
          · cases e
      · cases e

end
end Go.Sim
