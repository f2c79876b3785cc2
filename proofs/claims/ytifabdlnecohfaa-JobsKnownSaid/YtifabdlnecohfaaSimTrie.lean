/- A table of natural numbers: a binary tree, read and written in as many steps as the number has bits. Plain Lean, no program in sight. -/
namespace Go.Sim

inductive T (α : Type) where
  | leaf
  | node (v : Option α) (l r : T α)

namespace T
variable {α : Type}

def get : T α → Nat → Option α
  | .leaf, _ => none
  | .node v l r, n =>
    match n with
    | 0 => v
    | n + 1 => cond (Nat.beq (n % 2) 0) (get l (n / 2)) (get r (n / 2))

def setF : Nat → T α → Nat → Option α → T α
  | 0, t, _, _ => t
  | f + 1, t, n, x =>
    match t with
    | .leaf =>
      match n with
      | 0 => .node x .leaf .leaf
      | n + 1 => cond (Nat.beq (n % 2) 0) (.node none (setF f .leaf (n / 2) x) .leaf) (.node none .leaf (setF f .leaf (n / 2) x))
    | .node v l r =>
      match n with
      | 0 => .node x l r
      | n + 1 => cond (Nat.beq (n % 2) 0) (.node v (setF f l (n / 2) x) r) (.node v l (setF f r (n / 2) x))

def set (t : T α) (n : Nat) (x : Option α) : T α := setF 33 t n x

/-- Numbers that a table takes. -/
def top : Nat := 4294967295

@[simp] theorem get_leaf (n : Nat) : (leaf : T α).get n = none := by unfold get; rfl

theorem half_ne {n m : Nat} (h : n + 1 ≠ m + 1) (h2 : n % 2 = m % 2) : m / 2 ≠ n / 2 := by omega

theorem get_setF (x : Option α) : ∀ (f : Nat) (t : T α) (n m : Nat), n + 1 < 2 ^ f → (setF f t n x).get m = if m = n then x else t.get m := by
  intro f
  induction f with
  | zero => intro t n m h; omega
  | succ f ih =>
    intro t n m h
    have hk : ∀ k, n = k + 1 → k / 2 + 1 < 2 ^ f := by intro k hk; have : 2 ^ (f + 1) = 2 * 2 ^ f := by rw [Nat.pow_succ]; omega
                                                       omega
    cases t with
    | leaf =>
      cases n with
      | zero => cases m <;> simp [setF, get]
      | succ n =>
        have := hk n rfl
        cases m with
        | zero => cases hc : Nat.beq (n % 2) 0 <;> simp [setF, get, hc]
        | succ m =>
          cases hc : Nat.beq (n % 2) 0 <;> cases hm : Nat.beq (m % 2) 0 <;> simp only [setF, get, hc, hm, cond_true, cond_false, get_leaf, ih _ _ _ this]
          · by_cases e : m = n
            · subst e; simp
            · have h2 : m / 2 ≠ n / 2 := by
                have a1 : n % 2 ≠ 0 := by intro h0; rw [h0] at hc; cases hc
                have a2 : m % 2 ≠ 0 := by intro h0; rw [h0] at hm; cases hm
                omega
              simp [e, h2]
          · have h2 : m ≠ n := by
              intro e
              subst e; rw [hc] at hm; cases hm
            simp [h2]
          · have h2 : m ≠ n := by
              intro e
              subst e; rw [hc] at hm; cases hm
            simp [h2]
          · by_cases e : m = n
            · subst e; simp
            · have h2 : m / 2 ≠ n / 2 := by
                have a1 : n % 2 = 0 := Nat.eq_of_beq_eq_true hc
                have a2 : m % 2 = 0 := Nat.eq_of_beq_eq_true hm
                omega
              simp [e, h2]
    | node v l r =>
      cases n with
      | zero => cases m <;> simp [setF, get]
      | succ n =>
        have := hk n rfl
        cases m with
        | zero => cases hc : Nat.beq (n % 2) 0 <;> simp [setF, get, hc]
        | succ m =>
          cases hc : Nat.beq (n % 2) 0 <;> cases hm : Nat.beq (m % 2) 0 <;> simp only [setF, get, hc, hm, cond_true, cond_false, ih _ _ _ this]
          · by_cases e : m = n
            · subst e; simp
            · have h2 : m / 2 ≠ n / 2 := by
                have a1 : n % 2 ≠ 0 := by intro h0; rw [h0] at hc; cases hc
                have a2 : m % 2 ≠ 0 := by intro h0; rw [h0] at hm; cases hm
                omega
              simp [e, h2]
          · have h2 : m ≠ n := by
              intro e
              subst e; rw [hc] at hm; cases hm
            simp [h2]
          · have h2 : m ≠ n := by
              intro e
              subst e; rw [hc] at hm; cases hm
            simp [h2]
          · by_cases e : m = n
            · subst e; simp
            · have h2 : m / 2 ≠ n / 2 := by
                have a1 : n % 2 = 0 := Nat.eq_of_beq_eq_true hc
                have a2 : m % 2 = 0 := Nat.eq_of_beq_eq_true hm
                omega
              simp [e, h2]

theorem get_set (t : T α) (n m : Nat) (x : Option α) (h : n < top) : (t.set n x).get m = if m = n then x else t.get m :=
  get_setF x 33 t n m (by unfold top at h; omega)

theorem get_set_same (t : T α) (n : Nat) (x : Option α) (h : n < top) : (t.set n x).get n = x := by rw [get_set _ _ _ _ h, if_pos rfl]
theorem get_set_ne (t : T α) (n m : Nat) (x : Option α) (h : n < top) (hm : m ≠ n) : (t.set n x).get m = t.get m := by rw [get_set _ _ _ _ h, if_neg hm]

/-- The table of a list, its elements from number i on. -/
def ofFrom : Nat → List α → T α → T α
  | _, [], t => t
  | i, x :: l, t => ofFrom (i + 1) l (t.set i (some x))

def ofList (l : List α) : T α := ofFrom 0 l .leaf

theorem get_ofFrom : ∀ (l : List α) (i : Nat) (t : T α) (m : Nat), i + l.length ≤ top → (ofFrom i l t).get m = if i ≤ m ∧ m < i + l.length then l[m - i]? else t.get m := by
  intro l
  induction l with
  | nil => intro i t m _; simp only [ofFrom, List.length_nil]; rw [if_neg (by omega)]
  | cons x l ih =>
    intro i t m h
    simp only [List.length_cons] at h ⊢
    rw [ofFrom, ih _ _ _ (by omega), get_set _ _ _ _ (by omega)]
    by_cases h1 : m = i
    · subst h1
      rw [if_neg (by omega), if_pos rfl, if_pos (by omega)]; simp
    · by_cases h2 : i + 1 ≤ m ∧ m < i + 1 + l.length
      · rw [if_pos h2, if_pos (by omega)]
        obtain ⟨k, hk⟩ : ∃ k, m - i = k + 1 := ⟨m - i - 1, by omega⟩
        rw [hk, List.getElem?_cons_succ]
        congr 1
        omega
      · rw [if_neg h2, if_neg h1, if_neg (by omega)]

theorem get_ofList (l : List α) (m : Nat) (h : l.length ≤ top) : (ofList l).get m = l[m]? := by
  unfold ofList
  rw [get_ofFrom _ _ _ _ (by omega)]
  by_cases h1 : m < l.length
  · rw [if_pos (by omega)]; simp
  · rw [if_neg (by omega), get_leaf, List.getElem?_eq_none (by omega)]

end T
end Go.Sim
