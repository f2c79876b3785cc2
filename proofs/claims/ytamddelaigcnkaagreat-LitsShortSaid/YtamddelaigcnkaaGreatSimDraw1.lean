/- Regions whose order is open: what the checks say, and what an operation looks at. -/
import Derived.Test.YtamddelaigcnkaaGreatSimCells
import Derived.OrdersIn
namespace Go.Sim

theorem evL_congr {e e' : Operand → Option V} : ∀ {l : List Operand}, (∀ x ∈ l, e x = e' x) → evL e l = evL e' l := by
  intro l
  induction l with
  | nil => intro _; rfl
  | cons x l ih =>
    intro h
    simp only [evL, h x (List.mem_cons_self ..), ih fun y hy => h y (List.mem_cons_of_mem _ hy)]

theorem evP_congr {e e' : Operand → Option V} : ∀ {l : List (Nat × Operand)}, (∀ x ∈ l.map (·.2), e x = e' x) → evP e l = evP e' l := by
  intro l
  induction l with
  | nil => intro _; rfl
  | cons x l ih =>
    intro h
    obtain ⟨i, x⟩ := x
    have h1 : e x = e' x := h x (by simp)
    have h2 := ih fun y hy => h y (by rw [List.map_cons]; exact List.mem_cons_of_mem _ hy)
    simp only [evP, h1, h2]

theorem evO_congr {e e' : Operand → Option V} {o : Option Operand} (h : ∀ x ∈ o.toArray, e x = e' x) : evO e o = evO e' o := by
  cases o with
  | none => rfl
  | some x => simp only [evO, h x (by simp)]

theorem acall_congr (c : Ctx) {e e' : Operand → Option V} {cl : Call} {h : H} (hx : ∀ x ∈ cl.operands, e x = e' x) : acall c cl e h = acall c cl e' h := by
  have h1 : evL e cl.args.toList = evL e' cl.args.toList := evL_congr fun x hm => hx x (by simp [Call.operands]; exact .inr (by simpa using hm))
  unfold acall
  rw [h1]
  cases hc : cl.callee with
  | value f =>
    have : e f = e' f := hx f (by simp [Call.operands, hc])
    simp only [this]
  | builtin b => rfl
  | invoke x m =>
    have : e x = e' x := hx x (by simp [Call.operands, hc])
    simp only [this]

theorem aop_congr (c : Ctx) {e e' : Operand → Option V} {o : Oper} {h : H} (hx : ∀ x ∈ o.op.operands, e x = e' x) : aop c o e h = aop c o e' h := by
  unfold aop
  cases ho : o.op <;> rw [ho] at hx <;> try rfl
  case makeFunc f first captured =>
    cases f with
    | func g =>
      have h1 : evL e first.toList = evL e' first.toList := evL_congr fun x hm => hx x (by simp [Op.operands]; exact .inl (by simpa using hm))
      have h2 : evL e captured.toList = evL e' captured.toList := evL_congr fun x hm => hx x (by simp [Op.operands]; exact .inr (by simpa using hm))
      simp only [h1, h2]
    | _ => rfl
  case build t ps =>
    have h1 : evP e ps.toList = evP e' ps.toList := evP_congr fun x hm => hx x (by simpa [Op.operands] using hm)
    simp only [h1]
  case buildSlice t n ps =>
    have h1 : evP e ps.toList = evP e' ps.toList := evP_congr fun x hm => hx x (by simpa [Op.operands] using hm)
    simp only [h1]
  case slice t x lo hi mx =>
    have h0 : e x = e' x := hx x (by simp [Op.operands])
    have h1 : evO e lo = evO e' lo := evO_congr fun y hm => hx y (by simp [Op.operands]; exact .inr (.inl (by simpa using hm)))
    have h2 : evO e hi = evO e' hi := evO_congr fun y hm => hx y (by simp [Op.operands]; exact .inr (.inr (.inl (by simpa using hm))))
    have h3 : evO e mx = evO e' mx := evO_congr fun y hm => hx y (by simp [Op.operands]; exact .inr (.inr (.inr (by simpa using hm))))
    simp only [h0, h1, h2, h3]
  case call cl => exact acall_congr c hx
  case makeMap t r => cases r <;> rfl
  case defer cl =>
    have h1 : evL e cl.args.toList = evL e' cl.args.toList := evL_congr fun x hm => hx x (by simp [Op.operands, Call.operands]; exact .inr (by simpa using hm))
    simp only [h1]
    cases evL e' cl.args.toList with
    | none => rfl
    | some args =>
      cases hc : cl.callee with
      | value f =>
        have : e f = e' f := hx f (by simp [Op.operands, Call.operands, hc])
        simp only [this]
      | _ => rfl
  all_goals first
    | (have h0 := hx _ (by simp [Op.operands]; first | exact .inl rfl | rfl); have h1 := hx _ (by simp [Op.operands]; first | exact .inr (.inl rfl) | exact .inr rfl); have h2 := hx _ (by simp [Op.operands]; exact .inr (.inr rfl)); simp only [h0, h1, h2])
    | (have h0 := hx _ (by simp [Op.operands]; exact .inl rfl); have h1 := hx _ (by simp [Op.operands]; exact .inr rfl); simp only [h0, h1])
    | (have h0 := hx _ (by simp [Op.operands]; rfl); simp only [h0])


/-- An operation that looks at no block, or at one other block, does the same beside a store into that block. -/
theorem aop_free {c : Ctx} {o : Oper} {tm : Tm} {h : H} {an : AN} {b : Nat} (hf : freeOp tm b o = true) (e : aop c o (evx tm) h = some an) :
    ∃ v, an = .val v h ∧ ∀ h2 : H, (∀ t a b' o', o.op = .load t a → evx tm a = some (.ptr b' o') → h2.get b' = h.get b') → aop c o (evx tm) h2 = some (.val v h2) := by
  unfold freeOp at hf
  unfold aop at e ⊢
  have ofV : ∀ {r : Option V} {an : AN} {P : H → Prop}, AN.ofV r h = some an → ∃ v, an = .val v h ∧ ∀ h2 : H, P h2 → AN.ofV r h2 = some (.val v h2) := by
    intro r an P e
    cases r with
    | none => simp [AN.ofV] at e
    | some v => simp only [AN.ofV, Option.some.injEq] at e; exact ⟨v, e.symm, fun _ _ => rfl⟩
  cases ho : o.op <;> simp only [ho] at hf e ⊢ <;> first | (cases hf; done) | skip
  case load t a =>
    cases ha : evx tm a with
    | none => simp [ha] at hf
    | some p =>
      cases p <;> simp only [ha] at hf e ⊢ <;> first | (cases hf; done) | skip
      rename_i b' o'
      obtain ⟨v, h1, h2⟩ := ofV (P := fun h2 => h2.get b' = h.get b') e
      refine ⟨v, h1, fun h3 hh => ?_⟩
      have hg : h3.get b' = h.get b' := hh _ _ b' o' rfl ha
      have : ald c t h3 (.ptr b' o') = ald c t h (.ptr b' o') := by unfold ald; simp only [hg]
      rw [this]
      cases hl : ald c t h (.ptr b' o') with
      | none => simp [hl, AN.ofV] at e
      | some u => simp only [hl, AN.ofV, Option.some.injEq] at e ⊢; rw [h1] at e; simp at e; simp [e]
  case slice t x lo hi mx =>
    cases ha : evx tm x with
    | none => simp [ha] at hf
    | some p =>
      have hall : ∀ (h3 : H) (a b d : Option V), aslice c t h3 p a b d = aslice c t h p a b d := by
        intro h3 a b d
        unfold aslice
        cases c.ty.get t with
        | none => rfl
        | some ti =>
          dsimp only
          cases p <;> simp only [ha] at hf <;> first | (cases hf; done) | skip
          · cases ti.desc <;> rfl
          · rename_i cp
            cases cp <;> simp only at hf <;> first | (cases hf; done) | skip
            cases ti.desc <;> rfl
      simp only [ha] at e ⊢
      cases h0 : Sim.evO (evx tm) lo with
      | none => simp [h0] at e
      | some v0 =>
      cases h1 : Sim.evO (evx tm) hi with
      | none => simp [h0, h1] at e
      | some v1 =>
      cases h2 : Sim.evO (evx tm) mx with
      | none => simp [h0, h1, h2] at e
      | some v2 =>
      simp only [h0, h1, h2] at e ⊢
      obtain ⟨v, h4, h5⟩ := ofV (P := fun _ => True) e
      refine ⟨v, h4, fun h3 _ => ?_⟩
      rw [hall h3]
      exact h5 h3 trivial
  case convert s d x =>
    cases ha : evx tm x with
    | none => simp [ha] at hf
    | some p =>
      cases p <;> simp only [ha] at hf e ⊢ <;> first | (cases hf; done) | skip
      rename_i k n
      have hall : ∀ h3 : H, aconv c s d h3 (.int k n) = (match aconv c s d h (.int k n) with | some (v, _) => some (v, h3) | none => none) := by
        intro h3
        unfold aconv
        cases c.ty.get s with
        | none => rfl
        | some ts =>
          cases c.ty.get d with
          | none => rfl
          | some td =>
            dsimp only
            cases ts.desc <;> first | rfl | (cases td.desc <;> rfl)
      cases hc : aconv c s d h (.int k n) with
      | none => rw [hc] at e; cases e
      | some q =>
        obtain ⟨v, h4⟩ := q
        have h5 := hall h
        rw [hc] at h5
        simp only [Option.some.injEq, Prod.mk.injEq, true_and] at h5
        subst h5
        rw [hc] at e
        simp only [AN.ofVH, Option.some.injEq] at e
        refine ⟨v, e.symm, fun h2 _ => ?_⟩
        rw [hall h2, hc]; rfl
  case move x => exact ofV e
  case assign x => exact ofV e
  case pick x a b' =>
    cases h0 : evx tm x with
    | none => simp [h0] at e
    | some v => cases v <;> simp only [h0] at e ⊢ <;> first | (cases e; done) | exact ofV e
  case build t ps =>
    cases h0 : evP (evx tm) ps.toList with
    | none => simp [h0] at e
    | some v => simp only [h0] at e ⊢; exact ofV e
  case binOp op t x y t2 =>
    cases h0 : evx tm x with
    | none => simp [h0] at e
    | some v =>
      cases h1 : evx tm y with
      | none => simp [h0, h1] at e
      | some v => simp only [h0, h1] at e ⊢; exact ofV e
  case unOp op t x =>
    cases h0 : evx tm x with
    | none => simp [h0] at e
    | some v => simp only [h0] at e ⊢; exact ofV e
  case field t x f =>
    cases h0 : evx tm x with
    | none => simp [h0] at e
    | some v => simp only [h0] at e ⊢; exact ofV e
  case index t x y =>
    cases h0 : evx tm x with
    | none => simp [h0] at e
    | some v =>
      cases h1 : evx tm y with
      | none => simp [h0, h1] at e
      | some v => simp only [h0, h1] at e ⊢; exact ofV e
  case indexAddr t x y =>
    cases h0 : evx tm x with
    | none => simp [h0] at e
    | some v =>
      cases h1 : evx tm y with
      | none => simp [h0, h1] at e
      | some v => simp only [h0, h1] at e ⊢; exact ofV e
  case extract x i =>
    cases h0 : evx tm x with
    | none => simp [h0] at e
    | some v => cases v <;> simp only [h0] at e ⊢ <;> first | (cases e; done) | exact ofV e
  case makeFunc f first captured =>
    cases f with
    | func g =>
      cases h0 : evL (evx tm) first.toList with
      | none => simp [h0] at e
      | some v =>
        cases h1 : evL (evx tm) captured.toList with
        | none => simp [h0, h1] at e
        | some v => simp only [h0, h1, Option.some.injEq] at e ⊢; exact ⟨_, e.symm, fun _ _ => rfl⟩
    | _ => cases e
  case makeInterface t x =>
    cases h0 : c.ty.get t with
    | none => simp [h0] at e
    | some ti =>
      cases h1 : evx tm x with
      | none => simp [h0, h1] at e
      | some v =>
        simp only [h0, h1] at e ⊢
        cases hd : ti.desc <;> simp only [hd, Option.some.injEq] at e ⊢ <;> first | (cases e; done) | exact ⟨_, e.symm, fun _ _ => rfl⟩
  case nilCheck x =>
    cases h0 : evx tm x with
    | none => simp [h0] at e
    | some v =>
      cases v <;> simp only [h0, Option.some.injEq] at e ⊢ <;> first | (cases e; done) | exact ⟨_, e.symm, fun _ _ => rfl⟩ | skip
      rename_i f a b'
      cases f <;> simp only [Option.some.injEq] at e ⊢ <;> first | (cases e; done) | exact ⟨_, e.symm, fun _ _ => rfl⟩
  case fieldAddr t x f =>
    cases h0 : c.ty.get t with
    | none => simp [h0] at e
    | some ti =>
      cases h1 : evx tm x with
      | none => simp [h0, h1] at e
      | some v =>
        cases v <;> simp only [h0, h1] at e ⊢ <;> first | (cases e; done) | skip
        rename_i b' o'
        cases hd : ti.desc <;> simp only [hd] at e ⊢ <;> first | (cases e; done) | skip
        rename_i fs
        cases h2 : fs[f]? with
        | none => simp [h2] at e
        | some fd =>
          simp only [h2] at e ⊢
          unfold afa at e ⊢
          cases h3 : c.ty.get fd.type with
          | none => simp [h3] at e
          | some tf =>
            simp only [h3] at e ⊢
            cases h4 : Nat.blt 0 tf.size with
            | false => simp [h4] at e
            | true => simp only [h4, cond_true, Option.some.injEq] at e ⊢; exact ⟨_, e.symm, fun _ _ => rfl⟩

end Go.Sim
