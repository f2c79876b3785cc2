/- Tables of natural numbers: nodes of eight, of a fixed depth; a short one for temporaries. Plain Lean, no program in sight. -/
namespace Go.Sim

/-- Eight things. -/
structure N8 (α : Type) where
  a0 : α
  a1 : α
  a2 : α
  a3 : α
  a4 : α
  a5 : α
  a6 : α
  a7 : α

inductive D8 where
  | d0
  | d1
  | d2
  | d3
  | d4
  | d5
  | d6
  | d7

def D8.ofR (n : Nat) : D8 :=
  match n with
  | 0 => .d0
  | 1 => .d1
  | 2 => .d2
  | 3 => .d3
  | 4 => .d4
  | 5 => .d5
  | 6 => .d6
  | _ => .d7

/-- The last digit. -/
def D8.of (n : Nat) : D8 := D8.ofR (n % 8)

namespace N8
variable {α : Type}

def get (d : D8) : N8 α → α :=
  D8.casesOn (motive := fun _ => N8 α → α) d (fun t => t.a0) (fun t => t.a1) (fun t => t.a2) (fun t => t.a3) (fun t => t.a4) (fun t => t.a5) (fun t => t.a6) (fun t => t.a7)

def mod (d : D8) : (α → α) → N8 α → N8 α :=
  D8.casesOn (motive := fun _ => (α → α) → N8 α → N8 α) d
    (fun f t => N8.casesOn (motive := fun _ => N8 α) t fun a0 a1 a2 a3 a4 a5 a6 a7 => N8.mk (f a0) a1 a2 a3 a4 a5 a6 a7)
    (fun f t => N8.casesOn (motive := fun _ => N8 α) t fun a0 a1 a2 a3 a4 a5 a6 a7 => N8.mk a0 (f a1) a2 a3 a4 a5 a6 a7)
    (fun f t => N8.casesOn (motive := fun _ => N8 α) t fun a0 a1 a2 a3 a4 a5 a6 a7 => N8.mk a0 a1 (f a2) a3 a4 a5 a6 a7)
    (fun f t => N8.casesOn (motive := fun _ => N8 α) t fun a0 a1 a2 a3 a4 a5 a6 a7 => N8.mk a0 a1 a2 (f a3) a4 a5 a6 a7)
    (fun f t => N8.casesOn (motive := fun _ => N8 α) t fun a0 a1 a2 a3 a4 a5 a6 a7 => N8.mk a0 a1 a2 a3 (f a4) a5 a6 a7)
    (fun f t => N8.casesOn (motive := fun _ => N8 α) t fun a0 a1 a2 a3 a4 a5 a6 a7 => N8.mk a0 a1 a2 a3 a4 (f a5) a6 a7)
    (fun f t => N8.casesOn (motive := fun _ => N8 α) t fun a0 a1 a2 a3 a4 a5 a6 a7 => N8.mk a0 a1 a2 a3 a4 a5 (f a6) a7)
    (fun f t => N8.casesOn (motive := fun _ => N8 α) t fun a0 a1 a2 a3 a4 a5 a6 a7 => N8.mk a0 a1 a2 a3 a4 a5 a6 (f a7))

def all (x : α) : N8 α := ⟨x, x, x, x, x, x, x, x⟩

theorem get_mod_same (d : D8) (f : α → α) (t : N8 α) : (mod d f t).get d = f (t.get d) := by
  obtain ⟨a0, a1, a2, a3, a4, a5, a6, a7⟩ := t
  cases d <;> rfl
theorem get_mod_ne {d e : D8} (h : e ≠ d) (f : α → α) (t : N8 α) : (mod d f t).get e = t.get e := by
  obtain ⟨a0, a1, a2, a3, a4, a5, a6, a7⟩ := t
  cases d <;> cases e <;> first | rfl | exact absurd rfl h
theorem get_all (d : D8) (x : α) : (all x).get d = x := by cases d <;> rfl
end N8

theorem D8.of_inj {n m : Nat} (h : D8.of n = D8.of m) : n % 8 = m % 8 := by
  unfold D8.of at h
  have hn : n % 8 < 8 := Nat.mod_lt _ (by decide)
  have hm : m % 8 < 8 := Nat.mod_lt _ (by decide)
  generalize n % 8 = a at *
  generalize m % 8 = b at *
  match a, b, hn, hm with
  | 0, b, _, hm | 1, b, _, hm | 2, b, _, hm | 3, b, _, hm | 4, b, _, hm | 5, b, _, hm | 6, b, _, hm | 7, b, _, hm =>
    match b, hm with
    | 0, _ | 1, _ | 2, _ | 3, _ | 4, _ | 5, _ | 6, _ | 7, _ => first | rfl | (simp only [D8.ofR] at h; cases h)

/-- Six digits. -/
abbrev T (α : Type) : Type := N8 (N8 (N8 (N8 (N8 (N8 (Option α))))))

namespace T
variable {α : Type}

def leaf : T α := N8.all (N8.all (N8.all (N8.all (N8.all (N8.all none)))))

/-- Numbers that a table takes. -/
def top : Nat := 262143

def getF (t : N8 (N8 (N8 (N8 (N8 (N8 (Option α))))))) (n : Nat) : Option α :=
  N8.get (D8.of n) (N8.get (D8.of (n / 8)) (N8.get (D8.of (n / 64)) (N8.get (D8.of (n / 512)) (N8.get (D8.of (n / 4096)) (N8.get (D8.of (n / 32768)) t)))))

def get (t : T α) (n : Nat) : Option α := cond (Nat.ble n 262143) (getF t n) none

def set (t : T α) (n : Nat) (x : Option α) : T α :=
  N8.mod (D8.of (n / 32768)) (N8.mod (D8.of (n / 4096)) (N8.mod (D8.of (n / 512)) (N8.mod (D8.of (n / 64)) (N8.mod (D8.of (n / 8)) (N8.mod (D8.of n) fun _ => x))))) t

@[simp] theorem get_leaf (n : Nat) : (leaf : T α).get n = none := by
  unfold get leaf getF
  simp only [N8.get_all]
  cases Nat.ble n 262143 <;> rfl

theorem get_set (t : T α) (n m : Nat) (x : Option α) (h : n < top) : (t.set n x).get m = if m = n then x else t.get m := by
  have hn : n < 262143 := h
  unfold get
  cases hm : Nat.ble m 262143 with
  | false =>
    have : ¬ m ≤ 262143 := fun hc => by rw [Nat.ble_eq_true_of_le hc] at hm; cases hm
    simp only [cond_false]
    rw [if_neg (by omega)]
  | true =>
    have hm' := Nat.le_of_ble_eq_true hm
    simp only [cond_true]
    unfold getF set
    by_cases e5 : D8.of (m / 32768) = D8.of (n / 32768)
    · rw [e5, N8.get_mod_same]
      by_cases e4 : D8.of (m / 4096) = D8.of (n / 4096)
      · rw [e4, N8.get_mod_same]
        by_cases e3 : D8.of (m / 512) = D8.of (n / 512)
        · rw [e3, N8.get_mod_same]
          by_cases e2 : D8.of (m / 64) = D8.of (n / 64)
          · rw [e2, N8.get_mod_same]
            by_cases e1 : D8.of (m / 8) = D8.of (n / 8)
            · rw [e1, N8.get_mod_same]
              by_cases e0 : D8.of m = D8.of n
              · rw [e0, N8.get_mod_same]
                have h0 := D8.of_inj e0
                have h1 := D8.of_inj e1
                have h2 := D8.of_inj e2
                have h3 := D8.of_inj e3
                have h4 := D8.of_inj e4
                have h5 := D8.of_inj e5
                rw [if_pos (by omega)]
              · rw [N8.get_mod_ne e0, if_neg (fun e => e0 (by rw [e]))]
            · rw [N8.get_mod_ne e1, if_neg (fun e => e1 (by rw [e]))]
          · rw [N8.get_mod_ne e2, if_neg (fun e => e2 (by rw [e]))]
        · rw [N8.get_mod_ne e3, if_neg (fun e => e3 (by rw [e]))]
      · rw [N8.get_mod_ne e4, if_neg (fun e => e4 (by rw [e]))]
    · rw [N8.get_mod_ne e5, if_neg (fun e => e5 (by rw [e]))]

end T

/-- Three digits; every place holds something. -/
abbrev Tb (α : Type) : Type := N8 (N8 (N8 α))

namespace Tb
variable {α : Type}

def top : Nat := 511
def leaf (x : α) : Tb α := N8.all (N8.all (N8.all x))
def getF (t : N8 (N8 (N8 α))) (n : Nat) : α := N8.get (D8.of n) (N8.get (D8.of (n / 8)) (N8.get (D8.of (n / 64)) t))
def get (d : α) (t : Tb α) (n : Nat) : α := cond (Nat.ble n 511) (getF t n) d
def set (t : Tb α) (n : Nat) (x : α) : Tb α := N8.mod (D8.of (n / 64)) (N8.mod (D8.of (n / 8)) (N8.mod (D8.of n) fun _ => x)) t

theorem get_leaf (d : α) (n : Nat) : (leaf d).get d n = d := by
  unfold get leaf getF
  simp only [N8.get_all]
  cases Nat.ble n 511 <;> rfl

theorem get_set (d : α) (t : Tb α) (n m : Nat) (x : α) (h : n < top) : (t.set n x).get d m = if m = n then x else t.get d m := by
  have hn : n < 511 := h
  unfold get
  cases hm : Nat.ble m 511 with
  | false =>
    have : ¬ m ≤ 511 := fun hc => by rw [Nat.ble_eq_true_of_le hc] at hm; cases hm
    simp only [cond_false]
    rw [if_neg (by omega)]
  | true =>
    have hm' := Nat.le_of_ble_eq_true hm
    simp only [cond_true]
    unfold getF set
    by_cases e2 : D8.of (m / 64) = D8.of (n / 64)
    · rw [e2, N8.get_mod_same]
      by_cases e1 : D8.of (m / 8) = D8.of (n / 8)
      · rw [e1, N8.get_mod_same]
        by_cases e0 : D8.of m = D8.of n
        · rw [e0, N8.get_mod_same]
          have h0 := D8.of_inj e0
          have h1 := D8.of_inj e1
          have h2 := D8.of_inj e2
          rw [if_pos (by omega)]
        · rw [N8.get_mod_ne e0, if_neg (fun e => e0 (by rw [e]))]
      · rw [N8.get_mod_ne e1, if_neg (fun e => e1 (by rw [e]))]
    · rw [N8.get_mod_ne e2, if_neg (fun e => e2 (by rw [e]))]

end Tb
end Go.Sim
