/- The program's tables, and what reads them alone: types, zero values, fields, parts of structs. -/
import Derived.Test.YtamddelaigcnkaaGreatSimInt
namespace Go.Sim

theorem ofV0_sound {v : Value} {x : V} (h : ofV0 v = some x) : (∀ ρ, x.conc ρ = v) ∧ (∀ D, x.In D) := by
  unfold ofV0 at h
  split at h <;> simp only [Option.some.injEq, reduceCtorEq] at h <;> subst h <;>
    (refine ⟨fun ρ => ?_, fun D => ?_⟩ <;> simp [V.conc, V.In, V.InL, V.concL])

theorem ofVL_sound : ∀ {l : List Value} {x : List V}, ofVL l = some x → (∀ ρ, V.concL ρ x = l) ∧ (∀ D, V.InL D x) := by
  intro l
  induction l with
  | nil => intro x h; simp only [ofVL, Option.some.injEq] at h; subst h; simp [V.concL, V.InL]
  | cons v l ih =>
    intro x h
    simp only [ofVL] at h
    cases h1 : ofV0 v with
    | none => simp [h1] at h
    | some y =>
      cases h2 : ofVL l with
      | none => simp [h1, h2] at h
      | some z =>
        simp only [h1, h2, Option.some.injEq] at h
        subst h
        obtain ⟨a1, a2⟩ := ofV0_sound h1
        obtain ⟨b1, b2⟩ := ih h2
        exact ⟨fun ρ => by simp [V.concL, a1, b1], fun D => by simp [V.InL, a2, b2]⟩

theorem ofV_sound {v : Value} {x : V} (h : ofV v = some x) : (∀ ρ, x.conc ρ = v) ∧ (∀ D, x.In D) := by
  unfold ofV at h
  split at h
  · split at h
    · rename_i l _ y hy
      simp only [Option.some.injEq] at h; subst h
      obtain ⟨a1, a2⟩ := ofVL_sound hy
      exact ⟨fun ρ => by simp [V.conc, a1], fun D => by simp [V.In, a2]⟩
    · cases h
  · split at h
    · rename_i t v _ y hy
      simp only [Option.some.injEq] at h; subst h
      obtain ⟨a1, a2⟩ := ofV0_sound hy
      exact ⟨fun ρ => by simp [V.conc, a1], fun D => by simp [V.In, a2]⟩
    · cases h
  · exact ofV0_sound h

structure TyOK (P : Program) (t : Nat) (ti : TI) (i : TypeInfo) : Prop where
  info : P.info? t = some i
  und : P.underlying t = some ti.desc
  size : i.size = ti.size
  bytes : i.bytes = ti.bytes
  zero : ∀ z, ti.zero = some z → ∃ v, i.zero = some v ∧ ofV v = some z
  cmp : i.comparable = ti.cmp
  held : P.stoodInHeld t = ti.held
  guard : P.eqGuardType P.depth t = ti.guard
  meth : i.methods.toList = ti.meth
  id : ti.id = t

structure CtxOK (P : Program) (c : Ctx) : Prop where
  ty : ∀ t ti, c.ty.get t = some ti → ∃ i, TyOK P t ti i
  fn : ∀ f fi, c.fn.get f = some fi → ∃ g, P.funcs[f]? = some g ∧ (g.name == "runtime.NumGoroutine") = false ∧ g.body = some fi.body ∧ g.ntmps = fi.n ∧ g.results.toList = fi.results
  noesc : ∀ k, c.noesc = some k → ∃ g, P.funcs[k]? = some g ∧ (g.name == "runtime.NumGoroutine") = false ∧ g.body.isNone = true ∧ Extern.findNext g = none ∧ Extern.find g = some Extern.AbiNoEscape.same
  mnz : ∀ k el, c.mnz = some (k, el) → ∃ g ps rs t, P.funcs[k]? = some g ∧ (g.name == "runtime.NumGoroutine") = false ∧ g.body.isNone = true ∧ Extern.findNext g = none ∧
    Extern.find g = some (Extern.BytealgMakeNoZero.makeNoZero ps rs) ∧ rs[0]? = some t ∧ P.underlying t = some (.slice el)
  lies : ∀ e u off, c.lies e u off = true → liesAt P P.depth e 1 off u 1 = true

theorem get_tysFrom (P : Program) : ∀ (l : List TypeInfo) (i : Nat) (t : T TI) (m : Nat), i + l.length ≤ T.top →
    (tysFrom P i l t).get m = if i ≤ m ∧ m < i + l.length then (l[m - i]?).bind (TI.of P m) else t.get m := by
  intro l
  induction l with
  | nil => intro i t m _; simp only [tysFrom, List.length_nil]; rw [if_neg (by omega)]
  | cons x l ih =>
    intro i t m h
    simp only [List.length_cons] at h ⊢
    rw [tysFrom, ih _ _ _ (by omega), T.get_set _ _ _ _ (by omega)]
    by_cases h1 : m = i
    · subst h1
      rw [if_neg (by omega), if_pos rfl, if_pos (by omega)]; simp
    · by_cases h2 : i + 1 ≤ m ∧ m < i + 1 + l.length
      · rw [if_pos h2, if_pos (by omega)]
        obtain ⟨k, hk⟩ : ∃ k, m - i = k + 1 := ⟨m - i - 1, by omega⟩
        rw [hk, List.getElem?_cons_succ]
        congr 2
        omega
      · rw [if_neg h2, if_neg h1, if_neg (by omega)]

theorem get_fnsFrom : ∀ (l : List Func) (i : Nat) (t : T FI) (m : Nat), i + l.length ≤ T.top →
    (fnsFrom i l t).get m = if i ≤ m ∧ m < i + l.length then (l[m - i]?).bind FI.of else t.get m := by
  intro l
  induction l with
  | nil => intro i t m _; simp only [fnsFrom, List.length_nil]; rw [if_neg (by omega)]
  | cons x l ih =>
    intro i t m h
    simp only [List.length_cons] at h ⊢
    rw [fnsFrom, ih _ _ _ (by omega), T.get_set _ _ _ _ (by omega)]
    by_cases h1 : m = i
    · subst h1
      rw [if_neg (by omega), if_pos rfl, if_pos (by omega)]; simp
    · by_cases h2 : i + 1 ≤ m ∧ m < i + 1 + l.length
      · rw [if_pos h2, if_pos (by omega)]
        obtain ⟨k, hk⟩ : ∃ k, m - i = k + 1 := ⟨m - i - 1, by omega⟩
        rw [hk, List.getElem?_cons_succ]
        congr 2
        omega
      · rw [if_neg h2, if_neg h1, if_neg (by omega)]

theorem ctxOK (P : Program) (ne : Option Nat) (mz : Option (Nat × Nat)) (h1 : P.types.size ≤ T.top) (h2 : P.funcs.size ≤ T.top) 
    (h3 : ∀ k, ne = some k → ∃ g, P.funcs[k]? = some g ∧ (g.name == "runtime.NumGoroutine") = false ∧ g.body.isNone = true ∧ Extern.findNext g = none ∧ Extern.find g = some Extern.AbiNoEscape.same)
    (h4 : ∀ k el, mz = some (k, el) → ∃ g ps rs t, P.funcs[k]? = some g ∧ (g.name == "runtime.NumGoroutine") = false ∧ g.body.isNone = true ∧ Extern.findNext g = none ∧
      Extern.find g = some (Extern.BytealgMakeNoZero.makeNoZero ps rs) ∧ rs[0]? = some t ∧ P.underlying t = some (.slice el)) : CtxOK P (Ctx.of P ne mz) := by
  refine ⟨?_, ?_, h3, h4, fun e u off h => h⟩
  · intro t ti h
    simp only [Ctx.of] at h
    rw [get_tysFrom P _ _ _ _ (by simpa using h1)] at h
    split at h
    · rename_i hc
      simp only [Nat.sub_zero, Array.length_toList, Nat.zero_add] at h hc
      cases hi : P.types.toList[t]? with
      | none => simp [hi] at h
      | some i =>
        simp only [hi, Option.bind_some] at h
        have hi' : P.types[t]? = some i := by simpa using hi
        have hinfo : P.info? t = some i := by unfold Tables.info?; rw [if_pos hc.2]; exact hi'
        have main : ∀ d, P.underlying t = some d → ti = TI.mk' P t i d → TyOK P t ti i := by
          intro d hd he
          subst he
          refine ⟨hinfo, hd, rfl, rfl, ?_, rfl, rfl, rfl, rfl, rfl⟩
          intro z hz
          simp only [TI.mk'] at hz
          cases hv : i.zero with
          | none => simp [hv] at hz
          | some v => exact ⟨v, rfl, by simpa [hv] using hz⟩
        refine ⟨i, ?_⟩
        unfold TI.of at h
        split at h
        · rename_i nm u hd
          split at h
          · rename_i j hj
            simp only [Option.some.injEq] at h
            refine main j.desc ?_ h.symm
            have hu : u < P.types.size := by
              rcases Nat.lt_or_ge u P.types.size with g | g
              · exact g
              · rw [Array.getElem?_eq_none g] at hj; cases hj
            have hju : P.info? u = some j := by unfold Tables.info?; rw [if_pos hu]; exact hj
            unfold Program.underlying
            rw [hinfo]
            obtain ⟨d, s1, s2, s3, s4, s5, s6, s7, s8, s9⟩ := i
            simp only at hd; subst hd; simp [hju]
          · cases h
        · rename_i hne
          simp only [Option.some.injEq] at h
          refine main i.desc ?_ h.symm
          unfold Program.underlying
          rw [hinfo]
          obtain ⟨d, s1, s2, s3, s4, s5, s6, s7, s8, s9⟩ := i
          cases d <;> first | rfl | exact absurd rfl (hne _ _)
    · simp at h
  · intro f fi h
    simp only [Ctx.of] at h
    rw [get_fnsFrom _ _ _ _ (by simpa using h2)] at h
    split at h
    · rename_i hc
      simp only [Nat.sub_zero, Array.length_toList, Nat.zero_add] at h hc
      cases hi : P.funcs.toList[f]? with
      | none => simp [hi] at h
      | some g =>
        simp only [hi, Option.bind_some] at h
        refine ⟨g, by simpa using hi, ?_⟩
        unfold FI.of at h
        cases hb : g.body with
        | none => simp [hb] at h
        | some b =>
          cases hn : g.name == "runtime.NumGoroutine" with
          | true => simp [hb, hn] at h
          | false =>
            simp only [hb, hn, cond_false, Option.some.injEq] at h
            subst h
            exact ⟨rfl, rfl, rfl, rfl⟩
    · simp at h
end Go.Sim
