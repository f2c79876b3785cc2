/- Lists of cells, and cells in a table: read, written, put behind. -/
import Derived.Test.YtamddelaigcnkaaGreatSimV
namespace Go.Sim

/-- The first n elements, if there are so many. -/
def takeN : Nat → List V → Option (List V)
  | 0, _ => some []
  | _ + 1, [] => none
  | n + 1, v :: l => match takeN n l with | some r => some (v :: r) | none => none

/-- So many elements left out, if there are so many. -/
def dropN : Nat → List V → Option (List V)
  | 0, l => some l
  | _ + 1, [] => none
  | n + 1, _ :: l => dropN n l

/-- Elements written over those from a place on, if they lie there. -/
def over : List V → List V → Option (List V)
  | [], l => some l
  | _ :: _, [] => none
  | v :: vs, _ :: l => match over vs l with | some r => some (v :: r) | none => none

def splice : Nat → List V → List V → Option (List V)
  | 0, vs, l => over vs l
  | _ + 1, _, [] => none
  | n + 1, vs, x :: l => match splice n vs l with | some r => some (x :: r) | none => none

def lenL : List V → Nat → Nat
  | [], n => n
  | _ :: l, n => lenL l (n + 1)

theorem dropN_eq : ∀ {n : Nat} {l r : List V}, dropN n l = some r → n ≤ l.length ∧ r = l.drop n := by
  intro n
  induction n with
  | zero => intro l r h; simp only [dropN, Option.some.injEq] at h; subst h; simp
  | succ n ih =>
    intro l r h
    cases l with
    | nil => simp [dropN] at h
    | cons x l => simp only [dropN] at h; obtain ⟨a, b⟩ := ih h; simp [b]; omega

theorem takeN_eq : ∀ {n : Nat} {l r : List V}, takeN n l = some r → n ≤ l.length ∧ r = l.take n := by
  intro n
  induction n with
  | zero => intro l r h; simp only [takeN, Option.some.injEq] at h; subst h; simp
  | succ n ih =>
    intro l r h
    cases l with
    | nil => simp [takeN] at h
    | cons x l =>
      simp only [takeN] at h
      cases ht : takeN n l with
      | none => simp [ht] at h
      | some q =>
        simp only [ht, Option.some.injEq] at h
        obtain ⟨a, b⟩ := ih ht
        subst h; simp [b]; omega

theorem lenL_eq : ∀ (l : List V) (n : Nat), lenL l n = l.length + n := by
  intro l
  induction l with
  | nil => intro n; simp [lenL]
  | cons x l ih => intro n; simp only [lenL, ih, List.length_cons]; omega

theorem over_eq : ∀ {vs l r : List V}, over vs l = some r → vs.length ≤ l.length ∧ r.length = l.length ∧ ∀ i, r[i]? = if i < vs.length then vs[i]? else l[i]? := by
  intro vs
  induction vs with
  | nil => intro l r h; simp only [over, Option.some.injEq] at h; subst h; simp
  | cons v vs ih =>
    intro l r h
    cases l with
    | nil => simp [over] at h
    | cons x l =>
      simp only [over] at h
      cases ho : over vs l with
      | none => simp [ho] at h
      | some q =>
        simp only [ho, Option.some.injEq] at h
        obtain ⟨a, b, c⟩ := ih ho
        subst h
        refine ⟨by simpa using a, by simpa using b, fun i => ?_⟩
        cases i with
        | zero => simp
        | succ i => simp [c i]

theorem splice_eq : ∀ {n : Nat} {vs l r : List V}, splice n vs l = some r → n + vs.length ≤ l.length ∧ r.length = l.length ∧ ∀ i, r[i]? = if n ≤ i ∧ i < n + vs.length then vs[i - n]? else l[i]? := by
  intro n
  induction n with
  | zero =>
    intro vs l r h
    have h' : over vs l = some r := by cases l <;> simpa [splice] using h
    obtain ⟨a, b, c⟩ := over_eq h'
    exact ⟨by omega, b, fun i => by simp [c i]⟩
  | succ n ih =>
    intro vs l r h
    cases l with
    | nil => simp [splice] at h
    | cons x l =>
      simp only [splice] at h
      cases ho : splice n vs l with
      | none => simp [ho] at h
      | some q =>
        simp only [ho, Option.some.injEq] at h
        obtain ⟨a, b, c⟩ := ih ho
        subst h
        refine ⟨by simp; omega, by simpa using b, fun i => ?_⟩
        cases i with
        | zero => simp
        | succ i =>
          simp only [List.getElem?_cons_succ, c i]
          by_cases hc : n ≤ i ∧ i < n + vs.length
          · rw [if_pos hc, if_pos (by omega), Nat.add_sub_add_right]
          · rw [if_neg hc, if_neg (by omega)]

theorem mem_splice {n : Nat} {vs l r : List V} (h : splice n vs l = some r) : ∀ v ∈ r, v ∈ vs ∨ v ∈ l := by
  obtain ⟨_, _, c⟩ := splice_eq h
  intro v hv
  obtain ⟨i, hi⟩ := List.mem_iff_getElem?.1 hv
  rw [c i] at hi
  split at hi
  · exact .inl (List.mem_of_getElem? hi)
  · exact .inr (List.mem_of_getElem? hi)

/-- The cells of a row: a short list, or a table of so many. -/
inductive Cs where
  | ls (l : List V)
  | tb (t : Tb V) (n : Nat)
  | big (d : V) (t : T V) (n : Nat)

namespace Cs

def len : Cs → Nat
  | .ls l => lenL l 0
  | .tb _ n => n
  | .big _ _ n => n

def getL : List V → Nat → Option V
  | [], _ => none
  | v :: l, n => match n with | 0 => some v | n + 1 => getL l n

def getB (d : V) (t : T V) (i : Nat) : V := match t.get i with | some v => v | none => d

def get? : Cs → Nat → Option V
  | .ls l, i => getL l i
  | .tb t n, i => cond (Nat.blt i n) (some (Tb.get .nilptr t i)) none
  | .big d t n, i => cond (Nat.blt i n) (some (getB d t i)) none

def readT (t : Tb V) : Nat → Nat → List V
  | 0, _ => []
  | k + 1, o => Tb.get .nilptr t o :: readT t k (o + 1)

def readB (d : V) (t : T V) : Nat → Nat → List V
  | 0, _ => []
  | k + 1, o => getB d t o :: readB d t k (o + 1)

def rangeL (l : List V) (o k : Nat) : Option (List V) := match dropN o l with | some r => takeN k r | none => none

def range : Cs → Nat → Nat → Option (List V)
  | .ls l, o, k => rangeL l o k
  | .tb t n, o, k => cond (Nat.ble (o + k) n) (some (readT t k o)) none
  | .big d t n, o, k => cond (Nat.ble (o + k) n) (some (readB d t k o)) none

def writeT : List V → Nat → Tb V → Tb V
  | [], _, t => t
  | v :: vs, o, t => writeT vs (o + 1) (t.set o v)

def writeB : List V → Nat → T V → T V
  | [], _, t => t
  | v :: vs, o, t => writeB vs (o + 1) (t.set o (some v))

def putL (l : List V) (o : Nat) (vs : List V) : Option Cs := match splice o vs l with | some r => some (.ls r) | none => none

def put : Cs → Nat → List V → Option Cs
  | .ls l, o, vs => putL l o vs
  | .tb t n, o, vs => cond (Nat.ble (lenL vs o) n && Nat.ble n 511) (some (.tb (writeT vs o t) n)) none
  | .big d t n, o, vs => cond (Nat.ble (lenL vs o) n && Nat.ble n 262143) (some (.big d (writeB vs o t) n)) none

def ofBig (l : List V) (m : Nat) : Option Cs :=
  cond (Nat.ble m 511) (some (.tb (writeT l 0 (Tb.leaf .nilptr)) m)) (cond (Nat.ble m 262143) (some (.big .nilptr (writeB l 0 .leaf) m)) none)

def appL (l vs : List V) (m : Nat) : Option Cs := cond (Nat.ble m 16) (some (.ls (l ++ vs))) (ofBig (l ++ vs) m)

def appT (t : Tb V) (n : Nat) (vs : List V) (m : Nat) : Option Cs :=
  cond (Nat.ble m 511) (some (.tb (writeT vs n t) m)) (cond (Nat.ble m 262143) (some (.big .nilptr (writeB vs n (writeB (readT t n 0) 0 .leaf)) m)) none)

def app : Cs → List V → Option Cs
  | .ls l, vs => appL l vs (lenL l (lenL vs 0))
  | .tb t n, vs => appT t n vs (lenL vs n)
  | .big d t n, vs => cond (Nat.ble (lenL vs n) 262143) (some (.big d (writeB vs n t) (lenL vs n))) none

def ofL (l : List V) : Option Cs := appL [] l (lenL l 0)

/-- So many times the same. -/
def rep (v : V) (n : Nat) : Option Cs :=
  cond (Nat.ble n 511) (some (.tb (Tb.leaf v) n)) (cond (Nat.ble n 262143) (some (.big v .leaf n)) none)

/-! #### What they are -/

theorem getL_eq : ∀ (l : List V) (i : Nat), getL l i = l[i]? := by
  intro l
  induction l with
  | nil => intro i; simp [getL]
  | cons v l ih => intro i; cases i with
    | zero => simp [getL]
    | succ i => simp [getL, ih]

theorem readT_eq (t : Tb V) : ∀ (k o : Nat), (readT t k o).length = k ∧ ∀ j, (readT t k o)[j]? = if j < k then some (Tb.get .nilptr t (o + j)) else none := by
  intro k
  induction k with
  | zero => intro o; exact ⟨rfl, fun j => by simp [readT]⟩
  | succ k ih =>
    intro o
    obtain ⟨a, b⟩ := ih (o + 1)
    refine ⟨by simp [readT, a], fun j => ?_⟩
    cases j with
    | zero => simp [readT]
    | succ j =>
      simp only [readT, List.getElem?_cons_succ, b, show o + 1 + j = o + (j + 1) from by omega]
      by_cases h : j < k
      · rw [if_pos h, if_pos (by omega)]
      · rw [if_neg h, if_neg (by omega)]

theorem readB_eq (d : V) (t : T V) : ∀ (k o : Nat), (readB d t k o).length = k ∧ ∀ j, (readB d t k o)[j]? = if j < k then some (getB d t (o + j)) else none := by
  intro k
  induction k with
  | zero => intro o; exact ⟨rfl, fun j => by simp [readB]⟩
  | succ k ih =>
    intro o
    obtain ⟨a, b⟩ := ih (o + 1)
    refine ⟨by simp [readB, a], fun j => ?_⟩
    cases j with
    | zero => simp [readB]
    | succ j =>
      simp only [readB, List.getElem?_cons_succ, b, show o + 1 + j = o + (j + 1) from by omega]
      by_cases h : j < k
      · rw [if_pos h, if_pos (by omega)]
      · rw [if_neg h, if_neg (by omega)]

theorem writeT_eq : ∀ (vs : List V) (o : Nat) (t : Tb V) (i : Nat), o + vs.length ≤ 511 →
    Tb.get .nilptr (writeT vs o t) i = if o ≤ i ∧ i < o + vs.length then (vs[i - o]?).getD .nilptr else Tb.get .nilptr t i := by
  intro vs
  induction vs with
  | nil => intro o t i _; simp only [writeT, List.length_nil]; rw [if_neg (by omega)]
  | cons v vs ih =>
    intro o t i h
    simp only [List.length_cons] at h ⊢
    rw [writeT, ih _ _ _ (by omega), Tb.get_set _ _ _ _ _ (by unfold Tb.top; omega)]
    by_cases h1 : i = o
    · subst h1
      rw [if_neg (by omega), if_pos rfl, if_pos (by omega)]; simp
    · by_cases h2 : o + 1 ≤ i ∧ i < o + 1 + vs.length
      · rw [if_pos h2, if_pos (by omega)]
        obtain ⟨k, hk⟩ : ∃ k, i - o = k + 1 := ⟨i - o - 1, by omega⟩
        rw [hk, List.getElem?_cons_succ, show i - (o + 1) = k from by omega]
      · rw [if_neg h2, if_neg h1, if_neg (by omega)]

theorem writeB_eq : ∀ (vs : List V) (o : Nat) (t : T V) (i : Nat), o + vs.length ≤ 262143 →
    (writeB vs o t).get i = if o ≤ i ∧ i < o + vs.length then vs[i - o]? else t.get i := by
  intro vs
  induction vs with
  | nil => intro o t i _; simp only [writeB, List.length_nil]; rw [if_neg (by omega)]
  | cons v vs ih =>
    intro o t i h
    simp only [List.length_cons] at h ⊢
    rw [writeB, ih _ _ _ (by omega), T.get_set _ _ _ _ (by unfold T.top; omega)]
    by_cases h1 : i = o
    · subst h1
      rw [if_neg (by omega), if_pos rfl, if_pos (by omega)]; simp
    · by_cases h2 : o + 1 ≤ i ∧ i < o + 1 + vs.length
      · rw [if_pos h2, if_pos (by omega)]
        obtain ⟨k, hk⟩ : ∃ k, i - o = k + 1 := ⟨i - o - 1, by omega⟩
        rw [hk, List.getElem?_cons_succ, show i - (o + 1) = k from by omega]
      · rw [if_neg h2, if_neg h1, if_neg (by omega)]

theorem blt' {a b : Nat} (h : Nat.blt a b = true) : a < b := Nat.le_of_ble_eq_true h

theorem get_lt {c : Cs} {i : Nat} {v : V} (h : c.get? i = some v) : i < c.len := by
  cases c with
  | ls l =>
    simp only [get?, getL_eq] at h
    simp only [len, lenL_eq]
    have := (List.getElem?_eq_some_iff.1 h).1
    omega
  | tb t n =>
    simp only [get?] at h
    cases hb : Nat.blt i n with
    | true => exact blt' hb
    | false => simp [hb] at h
  | big d t n =>
    simp only [get?] at h
    cases hb : Nat.blt i n with
    | true => exact blt' hb
    | false => simp [hb] at h

theorem get_some {c : Cs} {i : Nat} (h : i < c.len) : ∃ v, c.get? i = some v := by
  cases c with
  | ls l =>
    simp only [len, lenL_eq, Nat.add_zero] at h
    exact ⟨l[i], by simp [get?, getL_eq, h]⟩
  | tb t n =>
    have hb : Nat.blt i n = true := Nat.ble_eq_true_of_le h
    exact ⟨_, by simp only [get?, hb, cond_true]; rfl⟩
  | big d t n =>
    have hb : Nat.blt i n = true := Nat.ble_eq_true_of_le h
    exact ⟨_, by simp only [get?, hb, cond_true]; rfl⟩

theorem range_eq {c : Cs} {o k : Nat} {x : List V} (h : c.range o k = some x) : x.length = k ∧ o + k ≤ c.len ∧ ∀ j, j < k → x[j]? = c.get? (o + j) := by
  cases c with
  | ls l =>
    simp only [range, rangeL] at h
    split at h
    · rename_i r hr
      obtain ⟨a1, rfl⟩ := dropN_eq hr
      obtain ⟨a2, rfl⟩ := takeN_eq h
      simp only [List.length_drop] at a2
      refine ⟨by simp; omega, by simp only [len, lenL_eq]; omega, fun j hj => ?_⟩
      rw [List.getElem?_take, if_pos hj, List.getElem?_drop]
      simp only [get?, getL_eq]
    · cases h
  | tb t n =>
    simp only [range] at h
    cases hb : Nat.ble (o + k) n with
    | false => simp [hb] at h
    | true =>
      simp only [hb, cond_true, Option.some.injEq] at h; subst h
      have hle := Nat.le_of_ble_eq_true hb
      obtain ⟨a, b⟩ := readT_eq t k o
      refine ⟨a, hle, fun j hj => ?_⟩
      have h1 : Nat.blt (o + j) n = true := Nat.ble_eq_true_of_le (by omega)
      rw [b, if_pos hj]
      simp only [get?, h1, cond_true]
  | big d t n =>
    simp only [range] at h
    cases hb : Nat.ble (o + k) n with
    | false => simp [hb] at h
    | true =>
      simp only [hb, cond_true, Option.some.injEq] at h; subst h
      have hle := Nat.le_of_ble_eq_true hb
      obtain ⟨a, b⟩ := readB_eq d t k o
      refine ⟨a, hle, fun j hj => ?_⟩
      have h1 : Nat.blt (o + j) n = true := Nat.ble_eq_true_of_le (by omega)
      rw [b, if_pos hj]
      simp only [get?, h1, cond_true]

theorem range_mem {c : Cs} {o k : Nat} {x : List V} (h : c.range o k = some x) {v : V} (hv : v ∈ x) : ∃ i, c.get? i = some v := by
  obtain ⟨a, _, b⟩ := range_eq h
  obtain ⟨j, hj⟩ := List.mem_iff_getElem?.1 hv
  have hjk : j < k := by rw [← a]; exact (List.getElem?_eq_some_iff.1 hj).1
  exact ⟨o + j, by rw [← b j hjk]; exact hj⟩

theorem range_some {c : Cs} {o k : Nat} (h : o + k ≤ c.len) : ∃ x, c.range o k = some x := by
  cases c with
  | ls l =>
    simp only [len, lenL_eq, Nat.add_zero] at h
    have hd : ∀ (n : Nat) (l : List V), n ≤ l.length → dropN n l = some (l.drop n) := by
      intro n
      induction n with
      | zero => intro l _; simp [dropN]
      | succ n ih => intro l hl; cases l with
        | nil => simp at hl
        | cons x l => simp only [dropN, ih l (by simpa using hl), List.drop_succ_cons]
    have ht : ∀ (n : Nat) (l : List V), n ≤ l.length → takeN n l = some (l.take n) := by
      intro n
      induction n with
      | zero => intro l _; simp [takeN]
      | succ n ih => intro l hl; cases l with
        | nil => simp at hl
        | cons x l => simp only [takeN, ih l (by simpa using hl), List.take_succ_cons]
    exact ⟨_, by simp only [range, rangeL, hd o l (by omega)]; exact ht _ _ (by simp; omega)⟩
  | tb t n =>
    have hb : Nat.ble (o + k) n = true := Nat.ble_eq_true_of_le h
    exact ⟨_, by simp only [range, hb, cond_true]; rfl⟩
  | big d t n =>
    have hb : Nat.ble (o + k) n = true := Nat.ble_eq_true_of_le h
    exact ⟨_, by simp only [range, hb, cond_true]; rfl⟩

theorem put_eq {c c' : Cs} {o : Nat} {vs : List V} (h : c.put o vs = some c') :
    o + vs.length ≤ c.len ∧ c'.len = c.len ∧ ∀ i, c'.get? i = if o ≤ i ∧ i < o + vs.length then vs[i - o]? else c.get? i := by
  cases c with
  | ls l =>
    simp only [put, putL] at h
    split at h
    · rename_i r hr
      simp only [Option.some.injEq] at h; subst h
      obtain ⟨s1, s2, s3⟩ := splice_eq hr
      exact ⟨by simp only [len, lenL_eq]; omega, by simp only [len, lenL_eq]; omega, fun i => by simp only [get?, getL_eq]; exact s3 i⟩
    · cases h
  | tb t n =>
    simp only [put] at h
    cases hb : (Nat.ble (lenL vs o) n && Nat.ble n 511) with
    | false => simp [hb] at h
    | true =>
      simp only [hb, cond_true, Option.some.injEq] at h; subst h
      simp only [Bool.and_eq_true] at hb
      have h1 := Nat.le_of_ble_eq_true hb.1
      have h2 := Nat.le_of_ble_eq_true hb.2
      rw [lenL_eq] at h1
      refine ⟨by simp only [len]; omega, rfl, fun i => ?_⟩
      simp only [get?]
      rw [writeT_eq _ _ _ _ (by omega)]
      by_cases hi : o ≤ i ∧ i < o + vs.length
      · have hin : Nat.blt i n = true := Nat.ble_eq_true_of_le (by omega)
        rw [if_pos hi, if_pos hi, hin, cond_true, List.getElem?_eq_getElem (by omega)]; rfl
      · rw [if_neg hi, if_neg hi]
  | big d t n =>
    simp only [put] at h
    cases hb : (Nat.ble (lenL vs o) n && Nat.ble n 262143) with
    | false => simp [hb] at h
    | true =>
      simp only [hb, cond_true, Option.some.injEq] at h; subst h
      simp only [Bool.and_eq_true] at hb
      have h1 := Nat.le_of_ble_eq_true hb.1
      have h2 := Nat.le_of_ble_eq_true hb.2
      rw [lenL_eq] at h1
      refine ⟨by simp only [len]; omega, rfl, fun i => ?_⟩
      simp only [get?, getB]
      rw [writeB_eq _ _ _ _ (by omega)]
      by_cases hi : o ≤ i ∧ i < o + vs.length
      · have hin : Nat.blt i n = true := Nat.ble_eq_true_of_le (by omega)
        rw [if_pos hi, if_pos hi, hin, cond_true, List.getElem?_eq_getElem (by omega)]
      · rw [if_neg hi, if_neg hi]

theorem ofBig_eq {l : List V} {m : Nat} {c : Cs} (hm : m = l.length) (h : ofBig l m = some c) : c.len = m ∧ ∀ i, c.get? i = l[i]? := by
  unfold ofBig at h
  cases hb : Nat.ble m 511 with
  | true =>
    simp only [hb, cond_true, Option.some.injEq] at h; subst h
    have h1 := Nat.le_of_ble_eq_true hb
    refine ⟨rfl, fun i => ?_⟩
    simp only [get?]
    rw [writeT_eq _ _ _ _ (by omega)]
    by_cases hi : i < m
    · have hin : Nat.blt i m = true := Nat.ble_eq_true_of_le hi
      rw [hin, cond_true, if_pos (by omega), Nat.sub_zero, List.getElem?_eq_getElem (by omega)]; rfl
    · have hin : Nat.blt i m = false := by
        cases hc : Nat.blt i m with
        | false => rfl
        | true => exact absurd (blt' hc) hi
      rw [hin, cond_false, List.getElem?_eq_none (by omega)]
  | false =>
    simp only [hb, cond_false] at h
    cases hb2 : Nat.ble m 262143 with
    | false => simp [hb2] at h
    | true =>
      simp only [hb2, cond_true, Option.some.injEq] at h; subst h
      have h1 := Nat.le_of_ble_eq_true hb2
      refine ⟨rfl, fun i => ?_⟩
      simp only [get?, getB]
      rw [writeB_eq _ _ _ _ (by omega)]
      by_cases hi : i < m
      · have hin : Nat.blt i m = true := Nat.ble_eq_true_of_le hi
        rw [hin, cond_true, if_pos (by omega), Nat.sub_zero, List.getElem?_eq_getElem (by omega)]
      · have hin : Nat.blt i m = false := by
          cases hc : Nat.blt i m with
          | false => rfl
          | true => exact absurd (blt' hc) hi
        rw [hin, cond_false, List.getElem?_eq_none (by omega)]

theorem appL_eq {l vs : List V} {m : Nat} {c : Cs} (hm : m = l.length + vs.length) (h : appL l vs m = some c) : c.len = m ∧ ∀ i, c.get? i = (l ++ vs)[i]? := by
  unfold appL at h
  cases hb : Nat.ble m 16 with
  | true =>
    simp only [hb, cond_true, Option.some.injEq] at h; subst h
    exact ⟨by simp only [len, lenL_eq, List.length_append]; omega, fun i => by simp only [get?, getL_eq]⟩
  | false =>
    simp only [hb, cond_false] at h
    exact ofBig_eq (by rw [List.length_append]; exact hm) h

theorem ofL_eq {l : List V} {c : Cs} (h : ofL l = some c) : c.len = l.length ∧ ∀ i, c.get? i = l[i]? := by
  have := appL_eq (by simp [lenL_eq]) h
  simpa [lenL_eq] using this

theorem app_eq {c c' : Cs} {vs : List V} (h : c.app vs = some c') : c'.len = c.len + vs.length ∧ ∀ i, c'.get? i = if i < c.len then c.get? i else vs[i - c.len]? := by
  cases c with
  | ls l =>
    simp only [app] at h
    obtain ⟨a, b⟩ := appL_eq (by simp only [lenL_eq]; omega) h
    refine ⟨by rw [a]; simp only [len, lenL_eq]; omega, fun i => ?_⟩
    rw [b]
    simp only [len, lenL_eq, Nat.add_zero, get?, getL_eq]
    by_cases hi : i < l.length
    · rw [if_pos hi, List.getElem?_append_left hi]
    · rw [if_neg hi, List.getElem?_append_right (by omega)]
  | tb t n =>
    simp only [app, appT] at h
    cases hb : Nat.ble (lenL vs n) 511 with
    | true =>
      simp only [hb, cond_true, Option.some.injEq] at h; subst h
      have h1 := Nat.le_of_ble_eq_true hb
      rw [lenL_eq] at h1
      refine ⟨by simp only [len, lenL_eq]; omega, fun i => ?_⟩
      show Cs.get? (.tb (writeT vs n t) (lenL vs n)) i = if i < n then Cs.get? (.tb t n) i else vs[i - n]?
      simp only [get?]
      rw [writeT_eq _ _ _ _ (by omega), lenL_eq]
      by_cases hi : i < n
      · have e1 : Nat.blt i (vs.length + n) = true := Nat.ble_eq_true_of_le (by omega)
        have e2 : Nat.blt i n = true := Nat.ble_eq_true_of_le hi
        rw [if_pos hi, e1, e2, if_neg (by omega)]
      · rw [if_neg hi]
        by_cases hj : i < vs.length + n
        · have e1 : Nat.blt i (vs.length + n) = true := Nat.ble_eq_true_of_le hj
          rw [e1, cond_true, if_pos (by omega), List.getElem?_eq_getElem (by omega)]; rfl
        · have e1 : Nat.blt i (vs.length + n) = false := by
            cases hc : Nat.blt i (vs.length + n) with
            | false => rfl
            | true => exact absurd (blt' hc) hj
          rw [e1, cond_false, List.getElem?_eq_none (by omega)]
    | false =>
      simp only [hb, cond_false] at h
      cases hb2 : Nat.ble (lenL vs n) 262143 with
      | false => simp [hb2] at h
      | true =>
        simp only [hb2, cond_true, Option.some.injEq] at h; subst h
        have h1 := Nat.le_of_ble_eq_true hb2
        rw [lenL_eq] at h1
        obtain ⟨r1, r2⟩ := readT_eq t n 0
        refine ⟨by simp only [len, lenL_eq]; omega, fun i => ?_⟩
        show Cs.get? (.big .nilptr (writeB vs n (writeB (readT t n 0) 0 .leaf)) (lenL vs n)) i = if i < n then Cs.get? (.tb t n) i else vs[i - n]?
        simp only [get?, getB]
        rw [writeB_eq _ _ _ _ (by omega), writeB_eq _ _ _ _ (by rw [r1]; omega), lenL_eq]
        by_cases hi : i < n
        · have e1 : Nat.blt i (vs.length + n) = true := Nat.ble_eq_true_of_le (by omega)
          have e2 : Nat.blt i n = true := Nat.ble_eq_true_of_le hi
          rw [if_pos hi, e1, e2, if_neg (by omega), if_pos (by rw [r1]; omega), r2, if_pos (by omega), Nat.sub_zero, Nat.zero_add]
        · rw [if_neg hi]
          by_cases hj : i < vs.length + n
          · have e1 : Nat.blt i (vs.length + n) = true := Nat.ble_eq_true_of_le hj
            rw [e1, cond_true, if_pos (by omega), List.getElem?_eq_getElem (by omega)]
          · have e1 : Nat.blt i (vs.length + n) = false := by
              cases hc : Nat.blt i (vs.length + n) with
              | false => rfl
              | true => exact absurd (blt' hc) hj
            rw [e1, cond_false, List.getElem?_eq_none (by omega)]
  | big d t n =>
    simp only [app] at h
    cases hb : Nat.ble (lenL vs n) 262143 with
    | false => simp [hb] at h
    | true =>
      simp only [hb, cond_true, Option.some.injEq] at h; subst h
      have h1 := Nat.le_of_ble_eq_true hb
      rw [lenL_eq] at h1
      refine ⟨by simp only [len, lenL_eq]; omega, fun i => ?_⟩
      show Cs.get? (.big d (writeB vs n t) (lenL vs n)) i = if i < n then Cs.get? (.big d t n) i else vs[i - n]?
      simp only [get?, getB]
      rw [writeB_eq _ _ _ _ (by omega), lenL_eq]
      by_cases hi : i < n
      · have e1 : Nat.blt i (vs.length + n) = true := Nat.ble_eq_true_of_le (by omega)
        have e2 : Nat.blt i n = true := Nat.ble_eq_true_of_le hi
        rw [if_pos hi, e1, e2, if_neg (by omega)]
      · rw [if_neg hi]
        by_cases hj : i < vs.length + n
        · have e1 : Nat.blt i (vs.length + n) = true := Nat.ble_eq_true_of_le hj
          rw [e1, cond_true, if_pos (by omega), List.getElem?_eq_getElem (by omega)]
        · have e1 : Nat.blt i (vs.length + n) = false := by
            cases hc : Nat.blt i (vs.length + n) with
            | false => rfl
            | true => exact absurd (blt' hc) hj
          rw [e1, cond_false, List.getElem?_eq_none (by omega)]

theorem rep_eq {v : V} {n : Nat} {c : Cs} (h : rep v n = some c) : c.len = n ∧ ∀ i, c.get? i = if i < n then some v else none := by
  unfold rep at h
  have key : ∀ i, (cond (Nat.blt i n) (some v) none : Option V) = if i < n then some v else none := fun i => by
    by_cases hi : i < n
    · have e1 : Nat.blt i n = true := Nat.ble_eq_true_of_le hi
      rw [e1, if_pos hi]; rfl
    · have e1 : Nat.blt i n = false := by
        cases hc : Nat.blt i n with
        | false => rfl
        | true => exact absurd (blt' hc) hi
      rw [e1, if_neg hi]; rfl
  cases hb : Nat.ble n 511 with
  | true =>
    simp only [hb, cond_true, Option.some.injEq] at h; subst h
    have h1 := Nat.le_of_ble_eq_true hb
    refine ⟨rfl, fun i => ?_⟩
    rw [← key]
    simp only [get?]
    cases hi : Nat.blt i n with
    | false => rfl
    | true =>
      have := blt' hi
      simp only [cond_true]
      unfold Tb.get Tb.leaf Tb.getF
      simp only [N8.get_all]
      rw [Nat.ble_eq_true_of_le (by omega)]; rfl
  | false =>
    simp only [hb, cond_false] at h
    cases hb2 : Nat.ble n 262143 with
    | false => simp [hb2] at h
    | true =>
      simp only [hb2, cond_true, Option.some.injEq] at h; subst h
      refine ⟨rfl, fun i => ?_⟩
      rw [← key]
      simp only [get?, getB, T.get_leaf]

end Cs
end Go.Sim
