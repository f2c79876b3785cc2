/- The jobs' laws: tables of jobs, and whether two are equal. -/
import Derived.Test.YtbkafllejpbimaaCode
import Derived.Test.YtbkafllejpbimaaSimLib

namespace Go.Proofs.Ytbkafllejpbimaa
open Go.Sim

noncomputable abbrev P := Try.prog

theorem ble (a b : Nat) (h : Nat.ble a b = true) : a ≤ b := Nat.le_of_ble_eq_true h

theorem ti3 : isAggD (TypeDesc.int .i64) = false := rfl

/-- params.within -/
theorem within_ok {a lo hi : Int} {h : H} {Q : V → H → Prop} (hq : Q (.bool (decide (lo ≤ a ∧ a ≤ hi))) h) : RF P ctx 40 [.int .i64 a, .int .i64 lo, .int .i64 hi] h Q := by
  refine RF.enterE ctx_ok fn40 (ble _ _ rfl) (ble _ _ rfl) (vb40 a lo hi h Q) ?_
  refine ⟨fun h1 => ⟨fun h2 => ?_, fun h2 => ?_⟩, fun h1 => ?_⟩
  · simpa [h1, h2] using hq
  · simpa [h1, h2] using hq
  · simpa [h1] using hq

/-- The error of parameters. -/
def chk (a b d e : Int) : Int := if 1 ≤ a ∧ a ≤ 9 ∧ 10 ≤ b ∧ b ≤ 27 ∧ 16 ≤ d ∧ d ≤ 2097152 ∧ 0 ≤ e ∧ e ≤ 9 then 0 else 2

def par (a b d e : Int) (s u : Bool) : V := .agg [.int .i64 a, .int .i64 b, .int .i64 d, .int .i64 e, .bool s, .bool u]

theorem check_ok {a b d e : Int} {s u : Bool} {h : H} {Q : V → H → Prop} (hn : h.next < T.top) (hq : ∀ h', Ext h h' 1 → Q (.int .i64 (chk a b d e)) h') : RF P ctx 23 [par a b d e s u] h Q := by
  refine RF.enterE ctx_ok fn23 (ble _ _ rfl) (ble _ _ rfl) (vb23 a b d e s u h Q) ⟨hn, ?_⟩
  rintro p h1 rfl rfl
  have hg := get_new_self (h := h) (.cells (.ls [.int .i64 a, .int .i64 b, .int .i64 d, .int .i64 e, .bool s, .bool u]) ⟨0, 25, 0⟩ true false) hn
  have hx := Ext.new (h := h) (.cells (.ls [.int .i64 a, .int .i64 b, .int .i64 d, .int .i64 e, .bool s, .bool u]) ⟨0, 25, 0⟩ true false) hn
  have hq := hq _ hx
  unfold chk at hq
  refine ⟨_, ald_one ty3 rfl hg rfl, within_ok ?_⟩
  refine ⟨_, rfl, fun h1 => ?_, fun h1 => by rwa [if_neg (by simp at h1; omega)] at hq⟩
  refine ⟨_, ald_one ty3 rfl hg rfl, within_ok ?_⟩
  refine ⟨_, rfl, fun h2 => ?_, fun h2 => by rwa [if_neg (by simp at h2; omega)] at hq⟩
  refine ⟨_, ald_one ty3 rfl hg rfl, within_ok ?_⟩
  refine ⟨_, rfl, fun h3 => ?_, fun h3 => by rwa [if_neg (by simp at h3; omega)] at hq⟩
  refine ⟨_, ald_one ty3 rfl hg rfl, within_ok ?_⟩
  refine ⟨_, rfl, fun h4 => ?_, fun h4 => by rwa [if_neg (by simp at h4; omega)] at hq⟩
  rwa [if_pos (by simp at h1 h2 h3 h4; omega)] at hq

/-- cheesepresskit.Mod -/
theorem mod_ok {n m : Int} {h : H} {Q : V → H → Prop} (h1 : 0 < m) (h2 : m ≤ 4611686018427387904) (hq : Q (.int .i64 (n % m)) h) : RF P ctx 7 [.int .i64 n, .int .i64 m] h Q := by
  refine RF.enterE ctx_ok fn7 (ble _ _ rfl) (ble _ _ rfl) (vb7 n m h Q) ?_
  have hb := Int.tmod_lt_of_pos n h1
  have hb2 := Int.lt_tmod_of_pos n h1
  refine ⟨fun h => by omega, fun _ => ⟨by omega, fun h3 => ?_, fun h3 => ?_⟩⟩
  all_goals
    have h4 : n % m = n.tmod m % m := by
      have := Int.tmod_add_mul_tdiv n m
      calc n % m = (n.tmod m + m * n.tdiv m) % m := by rw [this]
        _ = n.tmod m % m := Int.add_mul_emod_self_left _ _ _
  · rw [w64_id (by omega) (by omega)]
    have : n.tmod m + m = n % m := by
      rw [h4, ← Int.emod_eq_of_lt (a := n.tmod m + m) (b := m) (by omega) (by omega), Int.add_emod_right]
    rwa [this]
  · have : n.tmod m = n % m := by rw [h4, Int.emod_eq_of_lt (by omega) hb]
    rwa [this]

theorem isNaN_ok {a : Int} {h : H} {Q : V → H → Prop} (hq : Q (.bool false) h) : RF P ctx 59 [.int .i64 a] h Q := by
  refine RF.enterE ctx_ok fn59 (ble _ _ rfl) (ble _ _ rfl) (vb59 a h Q) ⟨fun h1 => absurd rfl h1, fun _ => hq⟩

theorem less_ok {a b : Int} {h : H} {Q : V → H → Prop} (hq : Q (.bool (decide (a < b))) h) : RF P ctx 50 [.int .i64 a, .int .i64 b] h Q := by
  refine RF.enterE ctx_ok fn50 (ble _ _ rfl) (ble _ _ rfl) (vb50 a b h Q) (isNaN_ok ?_)
  exact ⟨_, rfl, fun h1 => (by cases h1), fun _ => ⟨fun h1 => (by simpa [h1] using hq), fun h1 => (by simpa [h1] using hq)⟩⟩

/-- A slice of integers. -/
def ints (l : List Int) : List V := l.map fun n => .int .i64 n

theorem many_ok {v : V} {l : List Int} {h : H} {Q : V → H → Prop} (s : Sl h v 1 l.length (ints l)) (hq : Q (.int .i64 (if l.length = 0 ∨ 4096 < l.length then 6 else 0)) h) : RF P ctx 24 [v] h Q := by
  refine RF.enterE ctx_ok fn24 (ble _ _ rfl) (ble _ _ rfl) (vb24 v h Q) ?_
  refine ⟨_, s.len ty51 rfl, fun h1 => ?_, fun h1 => ⟨_, s.len ty51 rfl, fun h2 => ?_, fun h2 => ?_⟩⟩
  · rwa [if_pos (.inl (by omega))] at hq
  · rwa [if_pos (.inr (by omega))] at hq
  · rwa [if_neg (by omega)] at hq


/-- What a loop's rule asks. -/
theorem loop_wp {b : Bool} {x : Code} {n : Nat} {tm : Tm} {d : List AD} {h : H} {Q : AX → St → Prop} (I : Nat → Tm → H → Prop) (k : Nat) (h0 : I k tm h)
    (hI : ∀ k tm h, I k tm h → wpC P ctx b x ⟨n, tm, d, h⟩ (thenC (fun s1 => s1.n = n ∧ s1.dfr = d ∧ ∃ j, j < k ∧ I j s1.tm s1.heap) Q)) : wpC P ctx b (.loop x) ⟨n, tm, d, h⟩ Q := ⟨I, ⟨k, h0⟩, hI⟩

/-- The least of the first numbers. -/
def minL (l : List Int) : Nat → Int
  | 0 => l.getD 0 0
  | n + 1 => min (minL l n) (l.getD (n + 1) 0)

theorem ints_get {l : List Int} {i : Nat} (hi : i < l.length) : (ints l)[i]? = some (.int .i64 (l.getD i 0)) := by
  simp [ints, hi]

set_option maxRecDepth 100000 in
theorem min_ok {v : V} {l : List Int} {h : H} {Q : V → H → Prop} (s : Sl h v 1 l.length (ints l)) (hl : 0 < l.length) (hlt : l.length < 4611686018427387904) (hq : Q (.int .i64 (minL l (l.length - 1))) h) : RF P ctx 41 [v] h Q := by
  refine RF.enterE ctx_ok fn41 (ble _ _ rfl) (ble _ _ rfl) (vb41 v h Q) ?_
  refine ⟨_, s.len ty51 rfl, fun h1 => absurd h1 (by omega), fun _ => ?_⟩
  obtain ⟨b, o, e1, e2⟩ := s.at1 (i := 0) hl ty51 rfl ty3 rfl rfl (ints_get hl)
  refine ⟨b, o, e1, _, e2, ?_⟩
  refine loop_wp (fun k tm h' => ∃ i : Nat, 1 ≤ i ∧ i ≤ l.length ∧ k = l.length - i ∧ h' = h ∧ getV tm 4 = .int .i64 i ∧ getV tm 0 = v ∧ getV tm 3 = .int .i64 (minL l (i - 1))) (l.length - 1) ?_ ?_
  · exact ⟨1, by omega, by omega, rfl, rfl, by kernel_rfl, by kernel_rfl, by kernel_rfl⟩
  · rintro k tm h' ⟨i, h1, h2, rfl, rfl, t4, t0, t3⟩
    rw [tm3 rfl t4 t0 t3]
    refine wpC.seal _ (vl41_0 _ _ _ _ _ _ _) ⟨_, s.len ty51 rfl, fun h3 => ?_, fun h3 tm' _ g4 g0 g3 => ?_⟩
    · have hi : i < l.length := by omega
      obtain ⟨b, o, e1, e2⟩ := s.at1 (i := i) hi ty51 rfl ty3 rfl rfl (ints_get hi)
      refine ⟨b, o, e1, _, e2, fun tm' _ g4 g0 g3 => ⟨rfl, rfl, l.length - (i + 1), by omega, i + 1, by omega, by omega, rfl, rfl, ?_, g0, ?_⟩⟩
      · rw [g4, w64_id (by omega) (by omega)]; rfl
      · rw [g3]
        obtain ⟨j, rfl⟩ : ∃ j, i = j + 1 := ⟨i - 1, by omega⟩
        rfl
    · show wpC P ctx false r41_1 ⟨25, tm', [], h'⟩ _
      rw [tm1 rfl g3]
      refine wpC.seal _ (vr41_1 _ _ _ _ _) fun tm2 q2 _ _ _ => ?_
      show Q (getV tm2 2) h'
      rw [q2]
      have : i - 1 = l.length - 1 := by omega
      rw [this]; exact hq

end Go.Proofs.Ytbkafllejpbimaa

namespace Go.Proofs.Ytbkafllejpbimaa
open Go.Sim

/-- The greatest of the first numbers. -/
def maxL (l : List Int) : Nat → Int
  | 0 => l.getD 0 0
  | n + 1 => max (maxL l n) (l.getD (n + 1) 0)

set_option maxRecDepth 100000 in
theorem max_ok {v : V} {l : List Int} {h : H} {Q : V → H → Prop} (s : Sl h v 1 l.length (ints l)) (hl : 0 < l.length) (hlt : l.length < 4611686018427387904) (hq : Q (.int .i64 (maxL l (l.length - 1))) h) : RF P ctx 42 [v] h Q := by
  refine RF.enterE ctx_ok fn42 (ble _ _ rfl) (ble _ _ rfl) (vb42 v h Q) ?_
  refine ⟨_, s.len ty51 rfl, fun h1 => absurd h1 (by omega), fun _ => ?_⟩
  obtain ⟨b, o, e1, e2⟩ := s.at1 (i := 0) hl ty51 rfl ty3 rfl rfl (ints_get hl)
  refine ⟨b, o, e1, _, e2, ?_⟩
  refine loop_wp (fun k tm h' => ∃ i : Nat, 1 ≤ i ∧ i ≤ l.length ∧ k = l.length - i ∧ h' = h ∧ getV tm 4 = .int .i64 i ∧ getV tm 0 = v ∧ getV tm 3 = .int .i64 (maxL l (i - 1))) (l.length - 1) ?_ ?_
  · exact ⟨1, by omega, by omega, rfl, rfl, by kernel_rfl, by kernel_rfl, by kernel_rfl⟩
  · rintro k tm h' ⟨i, h1, h2, rfl, rfl, t4, t0, t3⟩
    rw [tm3 rfl t4 t0 t3]
    refine wpC.seal _ (vl42_0 _ _ _ _ _ _ _) ⟨_, s.len ty51 rfl, fun h3 => ?_, fun h3 tm' _ g4 g0 g3 => ?_⟩
    · have hi : i < l.length := by omega
      obtain ⟨b, o, e1, e2⟩ := s.at1 (i := i) hi ty51 rfl ty3 rfl rfl (ints_get hi)
      refine ⟨b, o, e1, _, e2, fun tm' _ g4 g0 g3 => ⟨rfl, rfl, l.length - (i + 1), by omega, i + 1, by omega, by omega, rfl, rfl, ?_, g0, ?_⟩⟩
      · rw [g4, w64_id (by omega) (by omega)]; rfl
      · rw [g3]
        obtain ⟨j, rfl⟩ : ∃ j, i = j + 1 := ⟨i - 1, by omega⟩
        rfl
    · show wpC P ctx false r42_1 ⟨25, tm', [], h'⟩ _
      rw [tm1 rfl g3]
      refine wpC.seal _ (vr42_1 _ _ _ _ _) fun tm2 q2 _ _ _ => ?_
      show Q (getV tm2 2) h'
      rw [q2]
      have : i - 1 = l.length - 1 := by omega
      rw [this]; exact hq


theorem minL_le (l : List Int) : ∀ n, ∀ i, i ≤ n → minL l n ≤ l.getD i 0 := by
  intro n
  induction n with
  | zero => intro i hi; obtain rfl : i = 0 := by omega
            exact Int.le_refl _
  | succ n ih =>
    intro i hi
    show min (minL l n) (l.getD (n + 1) 0) ≤ _
    rcases Nat.lt_or_ge i (n + 1) with g | g
    · have := ih i (by omega); omega
    · obtain rfl : i = n + 1 := by omega
      omega
theorem le_maxL (l : List Int) : ∀ n, ∀ i, i ≤ n → l.getD i 0 ≤ maxL l n := by
  intro n
  induction n with
  | zero => intro i hi; obtain rfl : i = 0 := by omega
            exact Int.le_refl _
  | succ n ih =>
    intro i hi
    show _ ≤ max (maxL l n) (l.getD (n + 1) 0)
    rcases Nat.lt_or_ge i (n + 1) with g | g
    · have := ih i (by omega); omega
    · obtain rfl : i = n + 1 := by omega
      omega
theorem minL_mem (l : List Int) : ∀ n, ∃ i, i ≤ n ∧ minL l n = l.getD i 0 := by
  intro n
  induction n with
  | zero => exact ⟨0, Nat.le_refl _, rfl⟩
  | succ n ih =>
    obtain ⟨i, h1, h2⟩ := ih
    by_cases h : minL l n ≤ l.getD (n + 1) 0
    · exact ⟨i, by omega, by rw [← h2]; show min _ _ = _; omega⟩
    · exact ⟨n + 1, by omega, by show min _ _ = _; omega⟩
theorem maxL_mem (l : List Int) : ∀ n, ∃ i, i ≤ n ∧ maxL l n = l.getD i 0 := by
  intro n
  induction n with
  | zero => exact ⟨0, Nat.le_refl _, rfl⟩
  | succ n ih =>
    obtain ⟨i, h1, h2⟩ := ih
    by_cases h : l.getD (n + 1) 0 ≤ maxL l n
    · exact ⟨i, by omega, by rw [← h2]; show max _ _ = _; omega⟩
    · exact ⟨n + 1, by omega, by show max _ _ = _; omega⟩

/-- Are all numbers within bounds? -/
def bnd (l : List Int) : Prop := ∀ i, i < l.length → 0 ≤ l.getD i 0 ∧ l.getD i 0 ≤ 1048576

open Classical in
theorem bounded_ok {v : V} {l : List Int} {h : H} {Q : V → H → Prop} (s : Sl h v 1 l.length (ints l)) (hl : 0 < l.length) (hlt : l.length < 4611686018427387904) (hq : Q (.int .i64 (if bnd l then 0 else 2)) h) : RF P ctx 25 [v] h Q := by
  refine RF.enterE ctx_ok fn25 (ble _ _ rfl) (ble _ _ rfl) (vb25 v h Q) (min_ok s hl hlt ⟨_, rfl, fun h1 => ?_, fun h1 => max_ok s hl hlt ⟨_, rfl, fun h2 => ?_, fun h2 => ?_⟩⟩)
  · obtain ⟨i, g1, g2⟩ := minL_mem l (l.length - 1)
    rwa [if_neg (fun hb => by have := hb i (by omega); omega)] at hq
  · obtain ⟨i, g1, g2⟩ := maxL_mem l (l.length - 1)
    rwa [if_neg (fun hb => by have := hb i (by omega); omega)] at hq
  · rwa [if_pos (show bnd l from fun i hi => by have := minL_le l (l.length - 1) i (by omega); have := le_maxL l (l.length - 1) i (by omega); omega)] at hq

/-- Are the numbers in order? -/
def srt (l : List Int) : Prop := ∀ i, i + 1 < l.length → l.getD i 0 ≤ l.getD (i + 1) 0

set_option maxRecDepth 100000 in
open Classical in
theorem isSorted_ok {v : V} {l : List Int} {h : H} {Q : V → H → Prop} (s : Sl h v 1 l.length (ints l)) (hlt : l.length < 4611686018427387904) (hn : h.next ≤ T.top) (hlo : h.low ≤ T.top) (hq : Q (.bool (decide (srt l))) h) : RF P ctx 43 [v] h Q := by
  refine RF.enterE ctx_ok fn43 (ble _ _ rfl) (ble _ _ rfl) (vb43 v h Q) ?_
  refine ⟨_, s.len ty51 rfl, ?_⟩
  refine loop_wp (fun k tm h' => ∃ i : Int, -1 ≤ i ∧ i < l.length ∧ k = (i + 1).toNat ∧ h' = h ∧ getV tm 3 = .int .i64 i ∧ getV tm 0 = v ∧ ∀ j : Nat, i ≤ j → j + 1 < l.length → l.getD j 0 ≤ l.getD (j + 1) 0) l.length ?_ ?_
  · refine ⟨(l.length : Int) - 1, by omega, by omega, by omega, rfl, ?_, by kernel_rfl, fun j h1 h2 => by omega⟩
    have e : w64 ((l.length : Int) - 1) = (l.length : Int) - 1 := w64_id (by omega) (by omega)
    exact Eq.trans (b := V.int .i64 (w64 ((l.length : Int) - 1))) (by kernel_rfl) (by rw [e])
  · rintro k tm h' ⟨i, h1, h2, rfl, rfl, t3, t0, hs⟩
    rw [tm2 rfl t3 t0]
    refine wpC.seal _ (vl43_0 _ _ _ _ _ _) ⟨fun h3 => ⟨⟨hn, hlo⟩, ?_⟩, fun h3 tm' _ g3 g0 => ?_⟩
    · obtain ⟨n, rfl⟩ : ∃ n : Nat, i = (n : Int) + 1 := ⟨(i - 1).toNat, by omega⟩
      obtain ⟨b, o, e1, e2⟩ := s.at1 (i := n + 1) (by omega) ty51 rfl ty3 rfl rfl (ints_get (by omega))
      obtain ⟨b', o', e3, e4⟩ := s.at1 (i := n) (by omega) ty51 rfl ty3 rfl rfl (ints_get (by omega))
      refine ⟨b, o, e1, _, e2, b', o', ?_, _, e4, less_ok ⟨_, rfl, fun g => ?_, fun g => ?_⟩⟩
      · rw [w64_id (by omega) (by omega), show (n : Int) + 1 - 1 = n from by omega]; exact e3
      · intro tm' g2 _ _
        show Q (getV tm' 2) h'
        rw [g2]
        have : ¬ srt l := fun hb => by have := hb n (by omega); have := of_decide_eq_true g; omega
        simpa [this] using hq
      · intro tm' _ g3 g0
        refine ⟨rfl, rfl, (n + 1 : Nat), by omega, (n : Int), by omega, by omega, by omega, rfl, ?_, g0, fun j hj hj2 => ?_⟩
        · rw [g3, w64_id (by omega) (by omega)]; congr 1; omega
        · rcases Nat.lt_or_ge n j with q | q
          · exact hs j (by omega) hj2
          · obtain rfl : j = n := by omega
            have := of_decide_eq_false g; omega
    · show wpC P ctx false r43_1 ⟨21, tm', [], h'⟩ _
      refine wpC.seal _ (vr43_1 _ _ _ _) fun tm2 q2 _ _ => ?_
      show Q (getV tm2 2) h'
      rw [q2]
      have : srt l := fun j hj => hs j (by omega) hj
      simpa [this] using hq

open Classical in
theorem sorted_ok {v : V} {l : List Int} {h : H} {Q : V → H → Prop} (s : Sl h v 1 l.length (ints l)) (hlt : l.length < 4611686018427387904) (hn : h.next ≤ T.top) (hlo : h.low ≤ T.top) (hq : Q (.int .i64 (if srt l then 0 else 9)) h) : RF P ctx 26 [v] h Q := by
  refine RF.enterE ctx_ok fn26 (ble _ _ rfl) (ble _ _ rfl) (vb26 v h Q) (isSorted_ok s hlt hn hlo ⟨_, rfl, fun g => ?_, fun g => ?_⟩)
  · rwa [if_pos (of_decide_eq_true g)] at hq
  · rwa [if_neg (of_decide_eq_false g)] at hq

end Go.Proofs.Ytbkafllejpbimaa

namespace Go.Proofs.Ytbkafllejpbimaa
open Go.Sim

theorem shl_u64 {n : Nat} (h : n < 64) : intB .shl .u64 1 (n : Int) = some (.int .u64 ((2 ^ n : Nat) : Int)) := by
  have h1 : Nat.ble n 64 = true := Nat.ble_eq_true_of_le (by omega)
  have h2 : (2 ^ n : Nat) < 18446744073709551616 := by
    calc (2 ^ n : Nat) < 2 ^ 64 := Nat.pow_lt_pow_right (by omega) h
      _ = _ := by decide
  show cond (ltF (n : Int) 0) none (some (V.int .u64 (wrapF .u64 (shlF 1 (cond (Nat.ble n 64) n 64))))) = _
  rw [h1, cond_true, ltF_eq, shlF_eq, wrapF_eq]
  have h3 : decide ((n : Int) < 0) = false := by simp
  rw [h3, cond_false]
  congr 2
  have e : (1 : Int) * 2 ^ n = ((2 ^ n : Nat) : Int) := by rw [Int.one_mul, Int.natCast_pow]; rfl
  rw [e]
  show ((2 ^ n : Nat) : Int) % (2 ^ 64 : Int) = _
  exact Int.emod_eq_of_lt (Int.natCast_nonneg _) (by have h4 : ((2 ^ n : Nat) : Int) < ((18446744073709551616 : Nat) : Int) := Int.ofNat_lt.2 h2; exact h4)

theorem shr_u64 {a n : Nat} (h : n ≤ 64) : intB .shr .u64 (a : Int) (n : Int) = some (.int .u64 ((a / 2 ^ n : Nat) : Int)) := by
  have h1 : Nat.ble n 64 = true := Nat.ble_eq_true_of_le h
  show cond (ltF (n : Int) 0) none (some (V.int .u64 (shrF (a : Int) (cond (Nat.ble n 64) n 64)))) = _
  rw [h1, cond_true, ltF_eq]
  have h3 : decide ((n : Int) < 0) = false := by simp
  rw [h3, cond_false]
  congr 2
  show Int.ofNat (Nat.shiftRight a n) = _
  rw [show Nat.shiftRight a n = a >>> n from rfl, Nat.shiftRight_eq_div_pow]
  rfl

/-- How long a prefix may be. -/
def pre (b e : Int) : Int := if e = 0 then 0 else ((2 ^ b.toNat / 2 ^ (9 - e).toNat : Nat) : Int)

theorem pre_le {b e : Int} (hb : b ≤ 27) : 0 ≤ pre b e ∧ pre b e ≤ 134217728 := by
  unfold pre
  split
  · omega
  · have h1 : 2 ^ b.toNat ≤ 2 ^ 27 := Nat.pow_le_pow_right (by omega) (by omega)
    have h2 : 2 ^ b.toNat / 2 ^ (9 - e).toNat ≤ 134217728 := Nat.le_trans (Nat.div_le_self _ _) h1
    exact ⟨Int.natCast_nonneg _, Int.ofNat_le.2 h2⟩

def cellsP (a b d e : Int) (s u : Bool) : O := .cells (.ls [.int .i64 a, .int .i64 b, .int .i64 d, .int .i64 e, .bool s, .bool u]) ⟨0, 25, 0⟩ true false

set_option maxRecDepth 100000 in
theorem reach_ok {p : Nat} {a b d e : Int} {s u : Bool} {h : H} {Q : V → H → Prop} (hg : h.get p = some (cellsP a b d e s u)) (hb : 10 ≤ b ∧ b ≤ 27) (he : 0 ≤ e ∧ e ≤ 9) (hn : h.next ≤ T.top) (hlo : h.low ≤ T.top) (hq : Q (.int .i64 (pre b e)) h) :
    RF P ctx 61 [.ptr p 0] h Q := by
  refine RF.enterE ctx_ok fn61 (ble _ _ rfl) (ble _ _ rfl) (vb61 _ h Q) ?_
  unfold pre at hq
  show ∃ x2, ald ctx 3 h (.ptr p (0 + 3)) = _ ∧ _
  refine ⟨e, ald_one ty3 rfl hg rfl, fun h0 => by rwa [if_pos h0] at hq, fun h0 => ⟨⟨hn, hlo⟩, ?_⟩⟩
  show ∃ x5, ald ctx 3 h (.ptr p (0 + 1)) = _ ∧ _
  refine ⟨b, ald_one ty3 rfl hg rfl, ?_⟩
  obtain ⟨n, rfl⟩ : ∃ n : Nat, b = n := ⟨b.toNat, by omega⟩
  obtain ⟨m, hm⟩ : ∃ m : Nat, 9 - e = m := ⟨(9 - e).toNat, by omega⟩
  refine ⟨_, shl_u64 (by omega), ?_⟩
  show ∃ x9, ald ctx 3 h (.ptr p (0 + 3)) = _ ∧ _
  refine ⟨e, ald_one ty3 rfl hg rfl, ?_⟩
  have hw : wrapF .u64 (w64 (9 - e)) = (m : Int) := by
    rw [w64_id (by omega) (by omega), hm, wrapF_eq]
    simp only [IntKind.wrap, IntKind.bits, IntKind.signed]; simp; omega
  rw [hw]
  refine ⟨_, shr_u64 (by omega), ?_⟩
  rw [if_neg h0, hm] at hq
  have h1 : 2 ^ n ≤ 2 ^ 27 := Nat.pow_le_pow_right (by omega) (by omega)
  have h2 : 2 ^ n / 2 ^ m ≤ 134217728 := Nat.le_trans (Nat.div_le_self _ _) h1
  rw [w64_id (Int.le_trans (by decide) (Int.natCast_nonneg _)) (Int.lt_of_le_of_lt (Int.ofNat_le.2 h2) (by decide))]
  exact hq

theorem chk_ok {a b d e : Int} (h : chk a b d e = 0) : 10 ≤ b ∧ b ≤ 27 ∧ 0 ≤ e ∧ e ≤ 9 := by
  unfold chk at h
  split at h
  · omega
  · omega

set_option maxRecDepth 100000 in
theorem asked_ok {p : Nat} {a b d e : Int} {s u : Bool} {h : H} {Q : V → H → Prop} (hc : chk a b d e = 0) (hp : p < h.next) (hg : h.get p = some (cellsP a b d e s u)) (hn : h.next + 2 ≤ T.top) (hlo : h.low ≤ T.top)
    (hq : ∀ h', Ext h h' 2 → Q (.tuple [.int .i64 (pre b e), .int .i64 0]) h') : RF P ctx 60 [par a b d e s u, .func (.func 61) [] [.ptr p 0]] h Q := by
  refine RF.enterE ctx_ok fn60 (ble _ _ rfl) (ble _ _ rfl) (vb60 a b d e s u _ h Q) ⟨by omega, ?_⟩
  rintro q h1 rfl rfl
  have hx := Ext.new (h := h) (cellsP a b d e s u) (by omega)
  have hg1 := get_new_self (h := h) (cellsP a b d e s u) (by omega)
  refine ⟨_, _, _, _, _, _, ald_agg ty24 rfl hg1 rfl, check_ok (by rw [new_next]; omega) fun h2 hx2 => ⟨_, rfl, fun g => absurd hc g, fun _ => ?_⟩⟩
  have hx3 := hx.trans hx2
  show RF P ctx 61 [.ptr p 0] h2 _
  obtain ⟨c1, c2, c3, c4⟩ := chk_ok hc
  refine reach_ok (by rw [hx3.get p hp]; exact hg) ⟨c1, c2⟩ ⟨c3, c4⟩ (by have := hx3.top; omega) (by have := hx3.low; omega) ⟨_, rfl, hq h2 hx3⟩

set_option maxRecDepth 100000 in
theorem prefix_ok {a b d e : Int} {s u : Bool} {h : H} {Q : V → H → Prop} (hc : chk a b d e = 0) (hn : h.next + 3 ≤ T.top) (hlo : h.low ≤ T.top)
    (hq : ∀ h', Ext h h' 3 → Q (.tuple [.int .i64 (pre b e), .int .i64 0]) h') : RF P ctx 52 [par a b d e s u] h Q := by
  refine RF.enterE ctx_ok fn52 (ble _ _ rfl) (ble _ _ rfl) (vb52 a b d e s u h Q) ⟨by omega, ?_⟩
  rintro q h1 rfl rfl
  have hx := Ext.new (h := h) (cellsP a b d e s u) (by omega)
  have hg1 := get_new_self (h := h) (cellsP a b d e s u) (by omega)
  refine ⟨_, _, _, _, _, _, ald_agg ty24 rfl hg1 rfl, asked_ok hc (by rw [new_next]; omega) hg1 (by rw [new_next]; omega) (by have := hx.low; exact Nat.le_trans this hlo) fun h2 hx2 => ⟨_, _, rfl, hq h2 (hx.trans hx2)⟩⟩

end Go.Proofs.Ytbkafllejpbimaa

namespace Go.Proofs.Ytbkafllejpbimaa
open Go.Sim

/-- A variable that holds an integer. -/
def cI (n : Int) : O := .cells (.ls [.int .i64 n]) ⟨0, 4, 0⟩ true false

theorem endW_cell {n m a t p o : Nat} {tm : Tm} {h : H} {Q : V → H → Prop} {v : V} {body : Code} (hp : getV tm a = .ptr p o) (ha : ald ctx t h (.ptr p o) = some v) (hq : Q v h) : endW ctx ⟨n, [.cell a t], body⟩ Q .ret ⟨m, tm, [], h⟩ := by
  show (match leave ctx _ tm h [.cell a t] [] with | some vs => Q (tupled vs) h | none => False)
  simp only [leave, hp, ha]
  exact hq

def job (x z y : Int) : List V := [.int .i64 x, .int .i64 z, .int .i64 y]

set_option maxRecDepth 100000 in
theorem next_ok {p r : Nat} {x y z : Int} {h : H} {Q : V → H → Prop} (hp : h.get p = some (cI x)) (hpn : p < h.next) (hr : h.get r = some (cI y)) (hrn : r < h.next) (hx : 0 ≤ x ∧ x ≤ 1099511627776) (hy : 0 ≤ y ∧ y ≤ 1099511627776) (hn : h.next + 2 ≤ T.top)
    (hq : ∀ h', ExtX (fun b => b = p) h h' 2 → h'.get p = some (cI z) → Q (.agg (job x z (max 0 (x - y)))) h') : RF P ctx 53 [.int .i64 z, .ptr p 0, .ptr r 0] h Q := by
  refine RF.enterE ctx_ok fn53 (ble _ _ rfl) (ble _ _ rfl) (vb53 z _ _ h Q) ⟨by omega, ?_⟩
  rintro p0 h1 rfl e1
  have n1 : h1.next = h.next + 1 := by rw [e1, new_next]
  have x1 : Ext h h1 1 := by rw [e1]; exact Ext.new _ (by omega)
  have s1 := get_new_self (h := h) (.cells (.ls [.int .i64 0, .int .i64 0, .int .i64 0]) ⟨0, 34, 0⟩ true false) (by omega)
  rw [← e1] at s1
  have lp : ald ctx 3 h1 (.ptr p 0) = some (.int .i64 x) := ald_one ty3 rfl ((x1.get p hpn).trans hp) rfl
  have lr : ald ctx 3 h1 (.ptr r 0) = some (.int .i64 y) := ald_one ty3 rfl ((x1.get r hrn).trans hr) rfl
  refine ⟨x, lp, x, lp, y, lr, by omega, ?_⟩
  rintro p5 h6 rfl e6
  have n6 : h6.next = h.next + 2 := by rw [e6, new_next, n1]
  have x6 : Ext h1 h6 1 := by rw [e6]; exact Ext.new _ (by omega)
  have s6 := get_new_self (h := h1) (.cells (.ls [.int .i64 0, .int .i64 0, .int .i64 0]) ⟨0, 34, 0⟩ true false) (by omega)
  rw [← e6] at s6
  have y6 : ExtX (fun b => b = p) h h6 2 := .of (x1.trans x6)
  obtain ⟨h7, e7, y7, g7p, g70, g75, n7⟩ : ∃ h7, ast ctx 33 h6 (.ptr h1.next 0) (.agg [.int .i64 x, .int .i64 z, .int .i64 (max 0 (w64 (x - y)))]) = some h7 ∧ ExtX (fun b => b = p) h h7 2 ∧ h7.get p = some (cI x) ∧
      h7.get h.next = some (.cells (.ls [.int .i64 0, .int .i64 0, .int .i64 0]) ⟨0, 34, 0⟩ true false) ∧ h7.get h1.next = some (.cells (.ls [.int .i64 x, .int .i64 z, .int .i64 (max 0 (w64 (x - y)))]) ⟨0, 34, 0⟩ true false) ∧ h7.next = h6.next :=
    ⟨_, ast_at ty33 s6 rfl (Nat.le_refl _) rfl rfl, y6.upd _ (by omega) (.inr (by omega)), by rw [get_upd_ne _ (by omega) (by omega), x6.get p (by omega), x1.get p hpn, hp], by rw [get_upd_ne _ (by omega) (by omega), x6.get _ (by omega), s1], get_upd_self _ (by omega), rfl⟩
  refine ⟨h7, e7, ?_⟩
  obtain ⟨h8, e8, y8, g8p, g80, g85, n8⟩ : ∃ h8, ast ctx 3 h7 (.ptr p 0) (.int .i64 z) = some h8 ∧ ExtX (fun b => b = p) h h8 2 ∧ h8.get p = some (cI z) ∧
      h8.get h.next = some (.cells (.ls [.int .i64 0, .int .i64 0, .int .i64 0]) ⟨0, 34, 0⟩ true false) ∧ h8.get h1.next = some (.cells (.ls [.int .i64 x, .int .i64 z, .int .i64 (max 0 (w64 (x - y)))]) ⟨0, 34, 0⟩ true false) ∧ h8.next = h6.next :=
    ⟨_, ast_at ty3 g7p rfl (Nat.le_refl _) rfl rfl, y7.upd _ (by omega) (.inl rfl), get_upd_self _ (by omega), by rw [get_upd_ne _ (by omega) (by omega), g70], by rw [get_upd_ne _ (by omega) (by omega), g75], n7⟩
  refine ⟨h8, e8, ?_⟩
  refine ⟨_, _, _, ald_agg ty33 rfl g85 rfl, _, ast_at ty33 g80 rfl (Nat.le_refl _) rfl rfl, ?_⟩
  have y9 := y8.upd (some (.cells (.ls [.int .i64 x, .int .i64 z, .int .i64 (max 0 (w64 (x - y)))]) ⟨0, 34, 0⟩ true false)) (b := h.next) (by omega) (.inr (Nat.le_refl _))
  refine endW_cell (p := h.next) (o := 0) (by kernel_rfl) (ald_agg ty33 rfl (get_upd_self _ (by omega)) rfl) ?_
  have := hq _ y9 ((get_upd_ne _ (by omega) (by omega)).trans g8p)
  rw [w64_id (by omega) (by omega)]
  rw [w64_id (by omega) (by omega)] at this
  exact this

end Go.Proofs.Ytbkafllejpbimaa

namespace Go.Proofs.Ytbkafllejpbimaa
open Go.Sim

abbrev te33 : TI := ⟨33, (.struct #[⟨"From", 3, 0, false, "", "", 0⟩, ⟨"To", 3, 1, false, "", "", 8⟩, ⟨"Prefix", 3, 2, false, "", "", 16⟩]), 3, 24, some (.agg [(ip 0), (ip 0), (ip 0)]), true, false, false, []⟩
theorem te33_at : ctx.ty.get 33 = some te33 := ty33

/-- A variable that holds one value. -/
def c1 (k : Nat) (v : V) : O := .cells (.ls [v]) ⟨0, k, 0⟩ true false

set_option maxRecDepth 100000 in
theorem round_ok {l out i d : Nat} {a : V} {x z y : Int} {tm : Tm} {w : V} {xs : List V} {h : H} {Q : V → H → Prop} (hg : h.get l = some (.loop .ready none 18 tm #[11, 12] a27_0 g27_1 d)) (t5 : getV tm 5 = .ptr out 0)
    (go : h.get out = some (c1 28 w)) (ow : Ow h w te33 i xs) (hlo : l ≠ out) (hw : ∀ b, vblk w = some b → b ≠ l ∧ b ≠ out) (hl : l < h.next) (ho : out < h.next) (hi : i ≤ 4096) (hn : h.next + 3 ≤ T.top) (hw1 : w.one = true)
    (hq : ∀ h' w', ExtX (fun b => b = l ∨ b = out ∨ vblk w = some b) h h' 3 → h'.get l = some (.loop .ready none 18 tm #[11, 12] a27_0 g27_1 d) → h'.get out = some (c1 28 w') → Ow h' w' te33 (i + 1) (xs ++ job x z y) → (∀ b, vblk w' = some b → h.next ≤ b) → Q (.bool true) h') :
    RR P l [a, .agg (job x z y)] h Q := by
  refine RR.intro (by omega) hg rfl (RC.of_wp ctx_ok a27_0 ?_)
  refine wpC.seal _ (va27_0 _ _ _ _ _) ⟨by omega, ?_⟩
  rintro p0 h1 rfl e1
  have n1 : h1.next = h.next + 1 := by rw [e1, new_next]
  have x1 : Ext h h1 1 := by rw [e1]; exact Ext.new _ (by omega)
  have s1 := get_new_self (h := h) (.cells (.ls [.int .i64 0, .int .i64 0, .int .i64 0]) ⟨0, 34, 0⟩ true false) (by omega)
  rw [← e1] at s1
  obtain ⟨h2, e2, y2, g2, n2⟩ : ∃ h2, ast ctx 33 h1 (.ptr h.next 0) (.agg (job x z y)) = some h2 ∧ ExtX (fun b => b = l ∨ b = out ∨ vblk w = some b) h h2 1 ∧ h2.get h.next = some (.cells (.ls (job x z y)) ⟨0, 34, 0⟩ true false) ∧ h2.next = h1.next :=
    ⟨_, ast_at ty33 s1 rfl (Nat.le_refl _) rfl rfl, (ExtX.of x1).upd _ (by omega) (.inr (by omega)), get_upd_self _ (by omega), rfl⟩
  have gl2 : h2.get l = some (.loop .ready none 18 tm #[11, 12] a27_0 g27_1 d) := by
    have : h2 = h1.upd h.next (some (.cells (.ls (job x z y)) ⟨0, 34, 0⟩ true false)) := Option.some.inj (e2.symm.trans (ast_at ty33 s1 rfl (Nat.le_refl _) rfl rfl))
    rw [this, get_upd_ne _ (by omega) (by omega), x1.get _ hl, hg]
  have k2 : ∀ b, b < h.next → h2.get b = h.get b := by
    have : h2 = h1.upd h.next (some (.cells (.ls (job x z y)) ⟨0, 34, 0⟩ true false)) := Option.some.inj (e2.symm.trans (ast_at ty33 s1 rfl (Nat.le_refl _) rfl rfl))
    intro b hb
    rw [this, get_upd_ne _ (by omega) (by omega), x1.get _ hb]
  refine ⟨h2, e2, fun tma q4 q12 q5 q7 => ⟨rfl, _, _, _, _, _, _, _, gl2, RC.of_wp ctx_ok g27_1 ?_⟩⟩
  have q5' : getV tma 5 = .ptr out 0 := by rw [q5]; exact Eq.trans (by kernel_rfl) t5
  rw [tm2 rfl q5' q7]
  have y3 := y2.upd (some (.loop .busy none 18 tm #[11, 12] a27_0 g27_1 d)) (b := l) (by omega) (.inl (.inl rfl))
  have gl3 : (h2.upd l (some (.loop .busy none 18 tm #[11, 12] a27_0 g27_1 d))).get l = some (.loop .busy none 18 tm #[11, 12] a27_0 g27_1 d) := get_upd_self _ (by omega)
  have go3 : (h2.upd l (some (.loop .busy none 18 tm #[11, 12] a27_0 g27_1 d))).get out = some (c1 28 w) := by rw [get_upd_ne _ (by omega) (fun g => hlo g.symm), k2 _ ho, go]
  have gp3 : (h2.upd l (some (.loop .busy none 18 tm #[11, 12] a27_0 g27_1 d))).get h.next = some (.cells (.ls (job x z y)) ⟨0, 34, 0⟩ true false) := by rw [get_upd_ne _ (by omega) (by omega), g2]
  have ow3 : Ow (h2.upd l (some (.loop .busy none 18 tm #[11, 12] a27_0 g27_1 d))) w te33 i xs := by
    refine ow.keep (by show h.next ≤ h2.next; omega) fun b hb => ?_
    have hbl : b < h.next := by
      obtain ⟨_, ⟨rfl, _⟩ | ⟨b', cs, rfl, h3, _⟩⟩ := ow
      · cases hb
      · cases hb; exact h3
    rw [get_upd_ne _ (by omega) (hw b hb).1, k2 b hbl]
  have n3 : (h2.upd l (some (.loop .busy none 18 tm #[11, 12] a27_0 g27_1 d))).next = h.next + 1 := by show h2.next = _; omega
  show wpC P ctx true (slim g27_1) ⟨18, _, [], h2.upd l (some (.loop .busy none 18 tm #[11, 12] a27_0 g27_1 d))⟩ _
  generalize h2.upd l (some (.loop .busy none 18 tm #[11, 12] a27_0 g27_1 d)) = h3 at *
  obtain ⟨v4, h5, e5, sl5, x5, vb5⟩ := buildSlice1 (c := ctx) (h := h3) (u := .agg (job x z y)) (ys := job x z y) ty27 rfl te33_at rfl rfl rfl rfl (Nat.le_of_ble_eq_true rfl) rfl (by omega)
  obtain ⟨v6, h7, e7, ow7, l7, u7, g7, vb7, low7, lo7⟩ := (ow3.ext x5).append (c := ctx) sl5 (by omega) ty27 rfl te33_at rfl rfl (by show (i + 1) * 3 ≤ 262143; omega) (by show (i + 1) * 24 ≤ _; omega) (by have := x5.top; omega)
  have y5 := y3.trans (.of x5)
  have y7 : ExtX (fun b => b = l ∨ b = out ∨ vblk w = some b) h h7 3 := y5.trans (n := 1) ⟨l7, u7, fun b hb hs => g7 b hb fun q => hs (.inr (.inr q)), low7, fun m h1 _ h3 => lo7 m h1 fun b hb => h3 b (.inr (.inr hb))⟩
  have n5 := x5.top
  have m5 := x5.le
  have go7 : h7.get out = some (c1 28 w) := by rw [g7 _ (by omega) (fun q => (hw _ q).2 rfl), x5.get _ (by omega), go3]
  have gl7 : h7.get l = some (.loop .busy none 18 tm #[11, 12] a27_0 g27_1 d) := by rw [g7 _ (by omega) (fun q => (hw _ q).1 rfl), x5.get _ (by omega), gl3]
  have hone : v6.one = true := by
    obtain ⟨_, ⟨rfl, _⟩ | ⟨b', cs, rfl, _⟩⟩ := ow7
    · rfl
    · rfl
  have hcells : v6.cells = [v6] := by
    obtain ⟨_, ⟨rfl, _⟩ | ⟨b', cs, rfl, _⟩⟩ := ow7
    · rfl
    · rfl
  obtain ⟨h8, e8, y8, go8, gl8, ow8, n8⟩ : ∃ h8, ast ctx 27 h7 (.ptr out 0) v6 = some h8 ∧ ExtX (fun b => b = l ∨ b = out ∨ vblk w = some b) h h8 3 ∧ h8.get out = some (c1 28 v6) ∧ h8.get l = some (.loop .busy none 18 tm #[11, 12] a27_0 g27_1 d) ∧ Ow h8 v6 te33 (i + 1) (xs ++ job x z y) ∧ h8.next = h7.next := by
    refine ⟨_, ast_at (cs' := .ls [v6]) ty27 go7 (by rw [hcells]; rfl) (Nat.le_refl _) (by rw [hcells]; simp [allOne, hone]) (by rw [hcells]; rfl), y7.upd _ (by omega) (.inl (.inr (.inl rfl))), get_upd_self _ (by omega), by rw [get_upd_ne _ (by omega) hlo, gl7], ?_, rfl⟩
    refine ow7.keep (Nat.le_refl _) fun b hb => get_upd_ne _ (by omega) ?_
    rw [vb7] at hb; cases hb; omega
  refine wpC.seal _ (vg27_1 _ _ _ _ _ _) ⟨w, ald_one ty27 rfl go3 rfl, x, z, y, ald_agg ty33 rfl gp3 rfl, v4, h5, e5, trivial, v6, h7, e7, h8, e8, fun tmb _ _ _ _ => ?_⟩
  show (match roundEnd l .normal ⟨18, tmb, [], h8⟩ with | some (.ret v h') => Q v h' | _ => False)
  simp only [roundEnd, gl8]
  refine hq _ v6 (y8.upd _ (by omega) (.inl (.inl rfl))) (get_upd_self _ (by omega)) (by rw [get_upd_ne _ (by omega) (fun g => hlo g.symm), go8]) (ow8.keep (Nat.le_refl _) fun b hb => get_upd_ne _ (by omega) ?_) fun b hb => ?_
  · rw [vb7] at hb; cases hb; omega
  · rw [vb7] at hb; cases hb; omega

end Go.Proofs.Ytbkafllejpbimaa

namespace Go.Proofs.Ytbkafllejpbimaa
open Go.Sim

/-- Where the last job ended. -/
def la (l : List Int) : Nat → Int
  | 0 => 0
  | i + 1 => l.getD i 0
/-- The cells of the first jobs. -/
def jc (R : Int) (l : List Int) : Nat → List V
  | 0 => []
  | i + 1 => jc R l i ++ job (la l i) (l.getD i 0) (max 0 (la l i - R))

theorem la_bnd {l : List Int} (hb : bnd l) {i : Nat} (hi : i ≤ l.length) : 0 ≤ la l i ∧ la l i ≤ 1048576 := by
  cases i with
  | zero => exact ⟨Int.le_refl _, (by decide : (0 : Int) ≤ 1048576)⟩
  | succ i => exact hb i (by omega)

theorem one_of_ow {h : H} {v : V} {te : TI} {n : Nat} {xs : List V} (s : Ow h v te n xs) : v.one = true := by
  obtain ⟨_, ⟨rfl, _⟩ | ⟨b', cs, rfl, _⟩⟩ := s
  · rfl
  · rfl

set_option maxRecDepth 100000 in
theorem iter_ok {l out pc sc d : Nat} {a b e f : Int} {s u : Bool} {tm : Tm} {v : V} {lst : List Int} {h : H} {m : Nat} {hb : H} {Q : V → H → Prop} (hc : chk a b f e = 0) (bn : bnd lst) (hlen : lst.length ≤ 4096)
    (hg : h.get l = some (.loop .ready none 18 tm #[11, 12] a27_0 g27_1 d)) (t5 : getV tm 5 = .ptr out 0) (go : h.get out = some (c1 28 .nilslice)) (hlo : l ≠ out) (hl : l < h.next) (ho : out < h.next)
    (gp : h.get pc = some (cellsP a b f e s u)) (gs : h.get sc = some (c1 23 v)) (hsc : sc < h.next) (sl : Sl hb v 1 lst.length (ints lst)) (xb : Ext hb h m) (hbl : hb.next ≤ l) (hbo : hb.next ≤ out)
    (hn : h.next + 5 + 5 * lst.length ≤ T.top) (hlow : h.low ≤ T.top)
    (hq : ∀ h' w', ExtX (fun b => b = l ∨ b = out) h h' (5 + 5 * lst.length) → h'.get l = some (.loop .ready none 18 tm #[11, 12] a27_0 g27_1 d) → h'.get out = some (c1 28 w') → Ow h' w' te33 lst.length (jc (pre b e) lst lst.length) → (∀ b, vblk w' = some b → h.next ≤ b) → Q (.tuple []) h') :
    RF P ctx 51 [.yield l, .ptr pc 0, .ptr sc 0] h Q := by
  obtain ⟨c1', c2, c3, c4⟩ := chk_ok hc
  have hpre := pre_le (b := b) (e := e) c2
  refine RF.enterE ctx_ok fn51 (ble _ _ rfl) (ble _ _ rfl) (vb51 _ _ _ h Q) ⟨_, _, _, _, _, _, ald_agg ty24 rfl gp rfl, ?_⟩
  refine prefix_ok hc (by omega) hlow fun h7 x7 => ⟨_, _, rfl, rfl, by have := x7.top; omega, ?_⟩
  have u7 := x7.top
  have l7 := x7.le
  rintro p10 h11 rfl e11
  have n11 : h11.next = h7.next + 1 := by rw [e11, new_next]
  have x11 : Ext h7 h11 1 := by rw [e11]; exact Ext.new _ (by omega)
  have s11 : h11.get h7.next = some (cI 0) := by rw [e11]; exact get_new_self _ (by omega)
  obtain ⟨h12, e12, y12, g12, n12, k12⟩ : ∃ h12, ast ctx 3 h11 (.ptr h7.next 0) (.int .i64 (pre b e)) = some h12 ∧ ExtX (fun b => b = l ∨ b = out) h h12 4 ∧ h12.get h7.next = some (cI (pre b e)) ∧ h12.next = h11.next ∧ h12.low ≤ h11.low :=
    ⟨_, ast_at ty3 s11 rfl (Nat.le_refl _) rfl rfl, (ExtX.of (x7.trans x11)).upd _ (by omega) (.inr (by omega)), get_upd_self _ (by omega), rfl, by rw [H.low_upd]; omega⟩
  refine ⟨h12, e12, rfl, by omega, ?_⟩
  rintro p13 h14 rfl e14
  have n14 : h14.next = h12.next + 1 := by rw [e14, new_next]
  have x14 : Ext h12 h14 1 := by rw [e14]; exact Ext.new _ (by omega)
  have s14 : h14.get h12.next = some (cI 0) := by rw [e14]; exact get_new_self _ (by omega)
  obtain ⟨h15, e15, y15, g15s, g15r, n15⟩ : ∃ h15, ast ctx 3 h14 (.ptr h12.next 0) (.int .i64 0) = some h15 ∧ ExtX (fun b => b = l ∨ b = out) h h15 5 ∧ h15.get h12.next = some (cI 0) ∧ h15.get h7.next = some (cI (pre b e)) ∧ h15.next = h14.next :=
    ⟨_, ast_at ty3 s14 rfl (Nat.le_refl _) rfl rfl, (y12.trans (.of x14)).upd _ (by omega) (.inr (by omega)), get_upd_self _ (by omega), by rw [get_upd_ne _ (by omega) (by omega), x14.get _ (by omega), g12], rfl⟩
  have q15 : h15.get l = h.get l ∧ h15.get out = h.get out ∧ h15.get sc = h.get sc := by
    have z : h15 = h14.upd h12.next (some (cI 0)) := Option.some.inj (e15.symm.trans (ast_at ty3 s14 rfl (Nat.le_refl _) rfl rfl))
    have z2 : h12 = h11.upd h7.next (some (cI (pre b e))) := Option.some.inj (e12.symm.trans (ast_at ty3 s11 rfl (Nat.le_refl _) rfl rfl))
    have : ∀ i, i < h.next → h15.get i = h.get i := fun i hi => by
      rw [z, get_upd_ne _ (by omega) (by omega), x14.get _ (by omega), z2, get_upd_ne _ (by omega) (by omega), x11.get _ (by omega), x7.get _ hi]
    exact ⟨this _ hl, this _ ho, this _ hsc⟩
  have sl15 : Sl h15 v 1 lst.length (ints lst) := sl.ext (ExtX.ext xb y15 (fun b g => by rcases g with q | q <;> omega))
  refine ⟨h15, e15, v, ald_one ty22 rfl (q15.2.2.trans gs) rfl, _, sl15.len ty22 rfl, ?_⟩
  refine loop_wp (fun k tm' h' => ∃ i : Nat, i ≤ lst.length ∧ k = lst.length - i ∧ getV tm' 18 = .int .i64 i ∧ getV tm' 17 = .int .i64 lst.length ∧ getV tm' 16 = v ∧ getV tm' 0 = .yield l ∧ getV tm' 7 = .func (.func 53) [] [.ptr h12.next 0, .ptr h7.next 0] ∧
    ∃ w, ExtX (fun b => b = l ∨ b = out) h h' (5 + 5 * i) ∧ h'.get l = some (.loop .ready none 18 tm #[11, 12] a27_0 g27_1 d) ∧ h'.get out = some (c1 28 w) ∧ Ow h' w te33 i (jc (pre b e) lst i) ∧ (∀ b, vblk w = some b → h12.next < b) ∧
      h'.get h7.next = some (cI (pre b e)) ∧ h'.get h12.next = some (cI (la lst i)) ∧ h12.next < h'.next) lst.length ?_ ?_
  · exact ⟨0, by omega, by omega, by kernel_rfl, by kernel_rfl, by kernel_rfl, by kernel_rfl, by kernel_rfl, .nilslice, y15, q15.1.trans hg, q15.2.1.trans go, Ow.nil _ _, fun b hb => (by cases hb), g15r, g15s, by omega⟩
  · rintro k tmk hk ⟨i, h1, rfl, t18, t17, t16, t0, t7, w, yk, glk, gok, owk, vbk, grk, gsk, nk⟩
    rw [tm5 rfl t18 t17 t16 t0 t7]
    have uk := yk.top
    refine wpC.seal _ (vl51_0 _ _ _ _ _ _ _ _ _) ⟨fun h3 => ?_, fun h3 tmz _ _ _ _ _ => ?_⟩
    · have hi : i < lst.length := by omega
      have slk : Sl hk v 1 lst.length (ints lst) := sl.ext (ExtX.ext xb yk (fun b g => by rcases g with q | q <;> omega))
      obtain ⟨pb, po, a1, a2⟩ := slk.at1 (i := i) hi ty22 rfl ty3 rfl rfl (ints_get hi)
      refine ⟨pb, po, a1, _, a2, ?_⟩
      have hla := la_bnd bn h1
      show RF P ctx 53 [.int .i64 (lst.getD i 0), .ptr h12.next 0, .ptr h7.next 0] hk _
      refine next_ok gsk nk grk (by omega) ⟨hla.1, by omega⟩ ⟨hpre.1, by omega⟩ (by omega) fun h4 y4 g4s => ⟨_, _, _, rfl, ?_⟩
      have u4 := y4.top
      have l4 := y4.le
      show RR P l [.int .i64 i, .agg (job (la lst i) (lst.getD i 0) (max 0 (la lst i - pre b e)))] h4 _
      have vlt : ∀ b, vblk w = some b → b < hk.next := fun b hb => by
        obtain ⟨_, ⟨rfl, _⟩ | ⟨b', cs, rfl, h3, _⟩⟩ := owk
        · cases hb
        · cases hb; exact h3
      refine round_ok (i := i) (w := w) ((y4.get _ (by omega) (by omega)).trans glk) t5 ((y4.get _ (by omega) (by omega)).trans gok) (owk.keep l4 fun b hb => y4.get _ (vlt b hb) (by have := vbk b hb; omega)) hlo (fun b hb => by have := vbk b hb; omega) (by omega) (by omega) (by omega) (by omega) (one_of_ow owk) ?_
      intro h6 w6 y6 gl6 go6 ow6 vb6
      refine ⟨true, rfl, fun _ => ?_, fun g => (by cases g)⟩
      intro tmn q18 q17 q16 q0 q7
      refine ⟨rfl, rfl, lst.length - (i + 1), by omega, i + 1, by omega, rfl, ?_, q17, q16, q0, q7, w6, ?_, gl6, go6, ow6, fun b hb => by have := vb6 b hb; omega, ?_, ?_, ?_⟩
      · rw [q18, w64_id (by omega) (by omega)]; rfl
      · have z4 : ExtX (fun b => b = l ∨ b = out) h h4 (5 + 5 * i + 2) := ⟨by have := yk.le; omega, by omega, fun b hb hs => (y4.get _ (by have := yk.le; omega) (by omega)).trans (yk.get b hb hs), Nat.le_trans y4.low yk.low, fun k r1 r2 r3 => y4.lo k (yk.lo k r1 r2 r3) (by have := yk.le; omega) fun b hb => by subst hb; omega⟩
        have u6 := y6.top
        have l6 := y6.le
        have lk := yk.le
        show ExtX _ h h6 _
        exact ⟨by omega, by omega, fun b hb hs => (y6.get _ (by omega) (fun q => by
          rcases q with q | q | q
          · exact hs (.inl q)
          · exact hs (.inr q)
          · have := vbk b q; omega)).trans (z4.get b hb hs), Nat.le_trans y6.low z4.low, fun k r1 r2 r3 => y6.lo k (z4.lo k r1 r2 r3) (by omega) fun b hb => by
          rcases hb with q | q | q
          · exact r3 b (.inl q)
          · exact r3 b (.inr q)
          · have := vbk b q; omega⟩
      · show h6.get h7.next = _
        rw [y6.get _ (by omega) (fun q => by
          rcases q with q | q | q
          · omega
          · omega
          · have := vbk _ q; omega), y4.get _ (by omega) (by omega), grk]
      · show h6.get h12.next = _
        rw [y6.get _ (by omega) (fun q => by
          rcases q with q | q | q
          · omega
          · omega
          · have := vbk _ q; omega), g4s]; rfl
      · show h12.next < h6.next
        have := y6.le; omega
    · have hi : i = lst.length := by omega
      subst hi
      show Q (.tuple []) hk
      exact hq hk w yk glk gok owk fun b hb => by have := vbk b hb; omega

end Go.Proofs.Ytbkafllejpbimaa

namespace Go.Proofs.Ytbkafllejpbimaa
open Go.Sim

theorem one_of_sl {h : H} {v : V} {k n : Nat} {xs : List V} (s : Sl h v k n xs) : v.one = true := by
  obtain ⟨_, ⟨rfl, _⟩ | ⟨b, o, cp, cs, k, w, op, rfl, _⟩⟩ := s
  · rfl
  · rfl

theorem all_ok {a b d e : Int} {s u : Bool} {v : V} {h : H} {Q : V → H → Prop} (hv : v.one = true) (hn : h.next + 2 ≤ T.top)
    (hq : ∀ h', Ext h h' 2 → h'.next = h.next + 2 → h'.get h.next = some (cellsP a b d e s u) → h'.get (h.next + 1) = some (c1 23 v) → Q (.func (.func 51) [] [.ptr h.next 0, .ptr (h.next + 1) 0]) h') : RF P ctx 44 [par a b d e s u, v] h Q := by
  refine RF.enterE ctx_ok fn44 (ble _ _ rfl) (ble _ _ rfl) (vb44 a b d e s u v h Q) ⟨by omega, ?_⟩
  rintro p0 h1 rfl e1
  have n1 : h1.next = h.next + 1 := by rw [e1, new_next]
  have x1 : Ext h h1 1 := by rw [e1]; exact Ext.new _ (by omega)
  have s1 : h1.get h.next = some (cellsP a b d e s u) := by rw [e1]; exact get_new_self _ (by omega)
  refine ⟨hv, by omega, ?_⟩
  rintro p2 h3 rfl e3
  have n3 : h3.next = h1.next + 1 := by rw [e3, new_next]
  have x3 : Ext h1 h3 1 := by rw [e3]; exact Ext.new _ (by omega)
  have s3 : h3.get h1.next = some (c1 23 v) := by rw [e3]; exact get_new_self _ (by omega)
  rw [n1] at s3 ⊢
  exact hq h3 (x1.trans x3) (by omega) ((x3.get _ (by omega)).trans s1) s3

set_option maxRecDepth 100000 in
theorem table_ok {a b d e : Int} {s u : Bool} {v : V} {lst : List Int} {h : H} {Q : V → H → Prop} (hc : chk a b d e = 0) (bn : bnd lst) (hlen : lst.length ≤ 4096) (sl : Sl h v 1 lst.length (ints lst)) (hn : h.next + 11 + 5 * lst.length ≤ T.top) (hlow : h.low ≤ T.top)
    (hq : ∀ h' w, Ext h h' (11 + 5 * lst.length) → Ow h' w te33 lst.length (jc (pre b e) lst lst.length) → Q w h') : RF P ctx 27 [par a b d e s u, v] h Q := by
  refine RF.enterE ctx_ok fn27 (ble _ _ rfl) (ble _ _ rfl) (vb27 a b d e s u v h Q) ⟨by omega, ?_⟩
  rintro p0 h1 rfl e1
  have n1 : h1.next = h.next + 1 := by rw [e1, new_next]
  have x1 : Ext h h1 1 := by rw [e1]; exact Ext.new _ (by omega)
  have s1 : h1.get h.next = some (cellsP a b d e s u) := by rw [e1]; exact get_new_self _ (by omega)
  refine ⟨rfl, by omega, ?_⟩
  rintro p2 h3 rfl e3
  have n3 : h3.next = h1.next + 1 := by rw [e3, new_next]
  have x3 : Ext h1 h3 1 := by rw [e3]; exact Ext.new _ (by omega)
  have s3 : h3.get h1.next = some (c1 28 .nilslice) := by rw [e3]; exact get_new_self _ (by omega)
  refine ⟨_, _, _, _, _, _, ald_agg ty24 rfl ((x3.get _ (by omega)).trans s1) rfl, all_ok (one_of_sl sl) (by omega) fun h11 x11 n11 gp gs => ⟨_, rfl, ?_⟩⟩
  have x0 : Ext h h11 4 := (x1.trans x3).trans x11
  suffices key : ∀ tm, getV tm 10 = .func (.func 51) [] [.ptr h3.next 0, .ptr (h3.next + 1) 0] → getV tm 5 = .ptr h1.next 0 → RC P false q27_2 ⟨18, tm, [], h11⟩ (fun e s1 => (thenC (fun s1 => wpC P ctx false r27_3 s1 (endW ctx ⟨18, [.tmp 4], b27⟩ Q)) (endW ctx ⟨18, [.tmp 4], b27⟩ Q)) (exitB 0 e) s1) from key _ (by kernel_rfl) (by kernel_rfl)
  intro tm t10 t5
  refine RC.rangeFunc ctx_ok (g := 51) (first := []) (captured := [.ptr h3.next 0, .ptr (h3.next + 1) 0]) (show evx tm (t 10) = _ from congrArg some t10) (by show h11.next + 1 < _; omega) ?_
  show RF P ctx 51 [.yield (h11.next + 1), .ptr h3.next 0, .ptr (h3.next + 1) 0] ((h11.new (.deferred true)).new (.loop .ready none 18 tm #[11, 12] a27_0 g27_1 h11.next)) _
  have na : (h11.new (.deferred true)).next = h11.next + 1 := new_next _ _
  have xa : Ext h11 (h11.new (.deferred true)) 1 := Ext.new _ (by omega)
  have ga : (h11.new (.deferred true)).get h11.next = some (.deferred true) := get_new_self _ (by omega)
  generalize h11.new (.deferred true) = ha at *
  have nb (o : O) : (ha.new o).next = h11.next + 2 := by rw [new_next, na]
  have xb (o : O) : Ext ha (ha.new o) 1 := Ext.new _ (by omega)
  have gb (o : O) : (ha.new o).get (h11.next + 1) = some o := by rw [← na]; exact get_new_self _ (by omega)
  have lb (o : O) : (ha.new o).low ≤ T.top := Nat.le_trans ((x0.trans xa).trans (xb o)).low hlow
  refine iter_ok (s := s) (u := u) (out := h1.next) hc bn hlen (gb _) t5 ?_ (by omega) (by rw [nb]; omega) (by rw [nb]; omega) ?_ ?_ (by rw [nb]; omega) sl ((x0.trans xa).trans (xb _)) (by omega) (by omega) (by rw [nb]; omega) (lb _) ?_
  · rw [(xb _).get _ (by omega), xa.get _ (by omega), x11.get _ (by omega), s3]
  · rw [(xb _).get _ (by omega), xa.get _ (by omega), gp]
  · rw [(xb _).get _ (by omega), xa.get _ (by omega), gs]
  · intro h' w' y gl go ow vb
    have gd : h'.get h11.next = some (.deferred true) := by
      rw [y.get _ (by rw [nb]; omega) (by omega), (xb _).get _ (by omega), ga]
    have z : Ext h h' (4 + 1 + 1 + (5 + 5 * lst.length)) := ExtX.ext ((x0.trans xa).trans (xb _)) y (fun b g => by rcases g with q | q <;> omega)
    have u' := y.top
    have l' := y.le
    rw [nb] at u' l'
    simp only [rangeEnd, gl]
    have z1 := z.upd (some (.loop .exhausted none 18 tm #[11, 12] a27_0 g27_1 h11.next)) (b := h11.next + 1) (by omega) (by omega)
    have k1 : ∀ i, i ≠ h11.next + 1 → (h'.upd (h11.next + 1) (some (.loop .exhausted none 18 tm #[11, 12] a27_0 g27_1 h11.next))).get i = h'.get i := fun i hi => get_upd_ne _ (by omega) hi
    show wpC P ctx false r27_3 ⟨18, tm, [.coll h11.next], h'.upd (h11.next + 1) (some (.loop .exhausted none 18 tm #[11, 12] a27_0 g27_1 h11.next))⟩ _
    have m1 : (h'.upd (h11.next + 1) (some (.loop .exhausted none 18 tm #[11, 12] a27_0 g27_1 h11.next))).next = h'.next := rfl
    generalize h'.upd (h11.next + 1) (some (.loop .exhausted none 18 tm #[11, 12] a27_0 g27_1 h11.next)) = h2 at *
    rw [tm1 rfl t5]
    refine wpC.seal _ (vr27_3 _ _ _ _ _) ⟨w', ald_one ty27 rfl ((k1 _ (by omega)).trans go) rfl, fun tmq q4 _ _ _ => ?_⟩
    show wpD [.coll h11.next] h2 _
    simp only [wpD, (k1 _ (by omega)).trans gd]
    show Q (getV tmq 4) (h2.upd h11.next (some (.deferred false)))
    rw [q4]
    have vb' : ∀ b, vblk w' = some b → b ≠ h11.next + 1 ∧ b ≠ h11.next := fun b hb => by have := vb b hb; rw [nb] at this; omega
    exact hq _ w' ((z1.upd _ (by omega) (by omega)).mono (by omega)) (ow.keep (show h'.next ≤ h2.next by omega) fun b hb => by rw [get_upd_ne _ (by omega) (vb' b hb).2, k1 _ (vb' b hb).1])

end Go.Proofs.Ytbkafllejpbimaa

namespace Go.Proofs.Ytbkafllejpbimaa
open Go.Sim

open Classical in
/-- Why there is no table of ends. -/
noncomputable def ofE (k : Int) (l : List Int) : Int := if k ≠ 0 then k else if l.length = 0 ∨ 4096 < l.length then 6 else if bnd l then (if srt l then 0 else 9) else 2

set_option maxRecDepth 100000 in
theorem of_ok {a b d e : Int} {s u : Bool} {v : V} {l : List Int} {h : H} {Q : V → H → Prop} (sl : Sl h v 1 l.length (ints l)) (hlt : l.length < 4611686018427387904) (hn : h.next + 20600 ≤ T.top) (hlow : h.low ≤ T.top)
    (hq : ∀ h' w, Ext h h' 20600 → (ofE (chk a b d e) l = 0 → Ow h' w te33 l.length (jc (pre b e) l l.length)) → (ofE (chk a b d e) l ≠ 0 → w = .nilslice) → Q (.tuple [w, .int .i64 (ofE (chk a b d e) l)]) h') : RF P ctx 8 [par a b d e s u, v] h Q := by
  refine RF.enterE ctx_ok fn8 (ble _ _ rfl) (ble _ _ rfl) (vb8 a b d e s u v h Q) ⟨by omega, ?_⟩
  rintro p0 h1 rfl e1
  have n1 : h1.next = h.next + 1 := by rw [e1, new_next]
  have x1 : Ext h h1 1 := by rw [e1]; exact Ext.new _ (by omega)
  have s1 : h1.get h.next = some (cellsP a b d e s u) := by rw [e1]; exact get_new_self _ (by omega)
  refine ⟨_, _, _, _, _, _, ald_agg ty24 rfl s1 rfl, check_ok (by omega) fun h9 x9 => ⟨_, rfl, fun g => ?_, fun g => ?_⟩⟩
  · have hE : ofE (chk a b d e) l = chk a b d e := by unfold ofE; rw [if_pos g]
    rw [hE] at hq
    exact hq h9 _ ((x1.trans x9).mono (by omega)) (fun q => absurd q g) fun _ => rfl
  · have g0 : chk a b d e = 0 := by omega
    have n9 := x9.top
    have l9 := x9.le
    have x0 := x1.trans x9
    have sl9 := sl.ext x0
    refine loop_wp (fun k tm h' => ∃ i : Nat, i ≤ 3 ∧ k = 3 - i ∧ h' = h9 ∧ getV tm 16 = .int .i64 i ∧ getV tm 15 = .agg [.func (.func 24) [] [], .func (.func 25) [] [], .func (.func 26) [] []] ∧ getV tm 1 = v ∧ getV tm 2 = .ptr h.next 0 ∧
      (1 ≤ i → ¬(l.length = 0 ∨ 4096 < l.length)) ∧ (2 ≤ i → bnd l) ∧ (3 ≤ i → srt l)) 3 ?_ ?_
    · exact ⟨0, by omega, by omega, rfl, by kernel_rfl, by kernel_rfl, by kernel_rfl, by kernel_rfl, fun q => by omega, fun q => by omega, fun q => by omega⟩
    · rintro k tm h' ⟨i, h2, rfl, rfl, t16, t15, t1, t2, i1, i2, i3⟩
      have t2' : getV (Tb.set (Tb.set (Tb.set tm 16 (.int .i64 i)) 15 (.agg [.func (.func 24) [] [], .func (.func 25) [] [], .func (.func 26) [] []])) 1 v) 2 = .ptr h.next 0 := by rw [← tm3 rfl t16 t15 t1]; exact t2
      rw [tm3 rfl t16 t15 t1]
      refine wpC.seal _ (vl8_0 _ _ _ _ _ _ _ _ _) ⟨fun h3 => ?_, fun h3 tmz _ _ _ _ q1 q2 => ?_⟩
      · have hi : i = 0 ∨ i = 1 ∨ i = 2 := by omega
        rcases hi with rfl | rfl | rfl
        · refine ⟨.func (.func 24) [] [], by kernel_rfl, ?_⟩
          show RF P ctx 24 [v] h' _
          refine many_ok sl9 ⟨_, rfl, fun g tmn q4 q5 q16 q15 q1 q2 => ?_, fun g tmn q4 q5 q16 q15 q1 q2 => ?_⟩
          · show Q (.tuple [getV tmn 4, getV tmn 5]) h'
            rw [q4, q5]
            have hc : l.length = 0 ∨ 4096 < l.length := by
              by_cases q : l.length = 0 ∨ 4096 < l.length
              · exact q
              · exact absurd (by first | rw [if_neg q] | rw [if_pos (Classical.not_not.1 q)]) g
            have hE : ofE (chk a b d e) l = 6 := by unfold ofE; rw [if_neg (by omega), if_pos hc]
            have hk : ∀ n : Int, n = 6 → Q (.tuple [.nilslice, .int .i64 n]) h' := fun n hn => by
              subst hn; rw [hE] at hq
              exact hq h' _ (x0.mono (by omega)) (fun q => absurd q (by decide)) fun _ => rfl
            exact hk _ (by first | rw [if_neg hc] | rw [if_pos hc])
          · have hc : ¬ (l.length = 0 ∨ 4096 < l.length) := fun q => g (by first | (rw [if_neg q]; decide) | (rw [if_pos q]; decide))
            exact ⟨rfl, rfl, 3 - 1, by omega, 1, by omega, rfl, rfl, by rw [q16]; exact congrArg _ (w64_id (by decide) (by decide)), q15, q1, q2.trans t2', fun _ => hc, fun q => (by omega), fun q => (by omega)⟩
        · refine ⟨.func (.func 25) [] [], by kernel_rfl, ?_⟩
          show RF P ctx 25 [v] h' _
          refine bounded_ok sl9 (by have := i1 (by omega); omega) hlt ⟨_, rfl, fun g tmn q4 q5 q16 q15 q1 q2 => ?_, fun g tmn q4 q5 q16 q15 q1 q2 => ?_⟩
          · show Q (.tuple [getV tmn 4, getV tmn 5]) h'
            rw [q4, q5]
            have hc : ¬ bnd l := by
              by_cases q : ¬ bnd l
              · exact q
              · exact absurd (by first | rw [if_neg q] | rw [if_pos (Classical.not_not.1 q)]) g
            have hE : ofE (chk a b d e) l = 2 := by unfold ofE; rw [if_neg (by omega), if_neg (i1 (by omega)), if_neg hc]
            have hk : ∀ n : Int, n = 2 → Q (.tuple [.nilslice, .int .i64 n]) h' := fun n hn => by
              subst hn; rw [hE] at hq
              exact hq h' _ (x0.mono (by omega)) (fun q => absurd q (by decide)) fun _ => rfl
            exact hk _ (by first | rw [if_neg hc] | rw [if_pos hc])
          · have hc : ¬ (¬ bnd l) := fun q => g (by first | (rw [if_neg q]; decide) | (rw [if_pos q]; decide))
            exact ⟨rfl, rfl, 3 - 2, by omega, 2, by omega, rfl, rfl, by rw [q16]; exact congrArg _ (w64_id (by decide) (by decide)), q15, q1, q2.trans t2', fun _ => i1 (by omega), fun _ => Classical.not_not.1 hc, fun q => (by omega)⟩
        · refine ⟨.func (.func 26) [] [], by kernel_rfl, ?_⟩
          show RF P ctx 26 [v] h' _
          refine sorted_ok sl9 hlt (by omega) (Nat.le_trans x0.low hlow) ⟨_, rfl, fun g tmn q4 q5 q16 q15 q1 q2 => ?_, fun g tmn q4 q5 q16 q15 q1 q2 => ?_⟩
          · show Q (.tuple [getV tmn 4, getV tmn 5]) h'
            rw [q4, q5]
            have hc : ¬ srt l := by
              by_cases q : ¬ srt l
              · exact q
              · exact absurd (by first | rw [if_neg q] | rw [if_pos (Classical.not_not.1 q)]) g
            have hE : ofE (chk a b d e) l = 9 := by unfold ofE; rw [if_neg (by omega), if_neg (i1 (by omega)), if_pos (i2 (by omega)), if_neg hc]
            have hk : ∀ n : Int, n = 9 → Q (.tuple [.nilslice, .int .i64 n]) h' := fun n hn => by
              subst hn; rw [hE] at hq
              exact hq h' _ (x0.mono (by omega)) (fun q => absurd q (by decide)) fun _ => rfl
            exact hk _ (by first | rw [if_neg hc] | rw [if_pos hc])
          · have hc : ¬ (¬ srt l) := fun q => g (by first | (rw [if_neg q]; decide) | (rw [if_pos q]; decide))
            exact ⟨rfl, rfl, 3 - 3, by omega, 3, by omega, rfl, rfl, by rw [q16]; exact congrArg _ (w64_id (by decide) (by decide)), q15, q1, q2.trans t2', fun _ => i1 (by omega), fun _ => i2 (by omega), fun _ => Classical.not_not.1 hc⟩
      · have hi : i = 3 := by omega
        subst hi
        have hE : ofE (chk a b d e) l = 0 := by unfold ofE; rw [if_neg (by omega), if_neg (i1 (by omega)), if_pos (i2 (by omega)), if_pos (i3 (by omega))]
        show wpC P ctx false r8_1 ⟨29, tmz, [], h'⟩ _
        rw [tm2 rfl (q2.trans t2') q1]
        have i1' := i1 (by omega)
        refine wpC.seal _ (vr8_1 _ _ _ _ _ _) ⟨_, _, _, _, _, _, ald_agg ty24 rfl ((x9.get _ (by omega)).trans s1) rfl, table_ok g0 (i2 (by omega)) (by omega) sl9 (by omega) (Nat.le_trans x0.low hlow) fun h5 w x5 ow => ⟨_, rfl, fun tmn q4 q5 _ _ _ _ => ?_⟩⟩
        show Q (.tuple [getV tmn 4, getV tmn 5]) h5
        rw [q4, q5]
        rw [hE] at hq
        exact hq h5 w ((x0.trans x5).mono (by omega)) (fun _ => ow) fun q => absurd rfl q

end Go.Proofs.Ytbkafllejpbimaa

namespace Go.Proofs.Ytbkafllejpbimaa
open Go.Sim

/-- The cells of jobs. -/
def jl : List (Int × Int × Int) → List V
  | [] => []
  | (x, z, y) :: r => job x z y ++ jl r

theorem jl_len : ∀ l : List (Int × Int × Int), (jl l).length = l.length * 3 := by
  intro l
  induction l with
  | nil => rfl
  | cons p l ih => obtain ⟨x, z, y⟩ := p; simp [jl, job, ih]; omega
theorem jl_app (l r : List (Int × Int × Int)) : jl (l ++ r) = jl l ++ jl r := by
  induction l with
  | nil => rfl
  | cons p l ih => obtain ⟨x, z, y⟩ := p; simp [jl, ih]
theorem jl_get : ∀ (l : List (Int × Int × Int)) (i j : Nat) {x z y : Int}, l[i]? = some (x, z, y) → j < 3 → (jl l)[i * 3 + j]? = (job x z y)[j]? := by
  intro l
  induction l with
  | nil => intro i j x z y h _; simp at h
  | cons p l ih =>
    obtain ⟨a, b, d⟩ := p
    intro i j x z y h hj
    cases i with
    | zero =>
      simp only [List.getElem?_cons_zero, Option.some.injEq, Prod.mk.injEq] at h
      obtain ⟨rfl, rfl, rfl⟩ := h
      simp only [jl]
      rw [List.getElem?_append_left (by simp [job]; omega)]
      congr 1; omega
    | succ i =>
      simp only [List.getElem?_cons_succ] at h
      simp only [jl]
      rw [List.getElem?_append_right (by simp [job]; omega), ← ih i j h hj]
      congr 1; simp [job]; omega

/-- The first jobs. -/
def jt (R : Int) (l : List Int) : Nat → List (Int × Int × Int)
  | 0 => []
  | i + 1 => jt R l i ++ [(la l i, l.getD i 0, max 0 (la l i - R))]
theorem jc_jl (R : Int) (l : List Int) (i : Nat) : jc R l i = jl (jt R l i) := by
  induction i with
  | zero => rfl
  | succ i ih => simp only [jc, jt, jl_app, ih]; rfl
theorem jt_len (R : Int) (l : List Int) (i : Nat) : (jt R l i).length = i := by
  induction i with
  | zero => rfl
  | succ i ih => simp [jt, ih]

/-- A job of a table. -/
theorem at3 {h : H} {v : V} {l : List (Int × Int × Int)} (s : Sl h v 3 l.length (jl l)) {i : Nat} {x z y : Int} (hi : l[i]? = some (x, z, y)) :
    ∃ b o, aidx ctx 27 v (.int .i64 i) = some (.ptr b o) ∧ ald ctx 33 h (.ptr b o) = some (.agg (job x z y)) ∧ ald ctx 3 h (.ptr b (o + 0)) = some (.int .i64 x) ∧ ald ctx 3 h (.ptr b (o + 1)) = some (.int .i64 z) ∧ ald ctx 3 h (.ptr b (o + 2)) = some (.int .i64 y) := by
  have hil : i < l.length := by
    rcases Nat.lt_or_ge i l.length with g | g
    · exact g
    · rw [List.getElem?_eq_none g] at hi; cases hi
  obtain ⟨b, o, h1, cs, k, w, op, hg, hc⟩ := s.at hil ty27 rfl ty33 rfl
  have hj : ∀ j, j < 3 → cs.get? (o + j) = (job x z y)[j]? := fun j hj => (hc j hj).trans (jl_get l i j hi hj)
  exact ⟨b, o, h1, ald_agg ty33 rfl hg (Cs.range_is (k := 3) (by decide) rfl hj), ald_one ty3 rfl hg (hj 0 (by omega)), ald_one ty3 rfl hg (hj 1 (by omega)), ald_one ty3 rfl hg (hj 2 (by omega))⟩

theorem neq33 (x z y x' z' y' : Int) : ∃ b, abin ctx .neq 33 (t 19) (t 23) (.agg (job x z y)) (.agg (job x' z' y')) = some (.bool b) ∧ (b = true ↔ (x, z, y) ≠ (x', z', y')) := by
  have e : abin ctx .neq 33 (t 19) (t 23) (.agg (job x z y)) (.agg (job x' z' y')) = (match (match some (eqF x x') with | some true => (match some (eqF z z') with | some true => (match some (eqF y y') with | some true => some true | r => r) | r => r) | r => r) with | some r => some (.bool (!r)) | none => none) := by kernel_rfl
  rw [e, eqF_eq, eqF_eq, eqF_eq]
  by_cases h1 : x = x' <;> by_cases h2 : z = z' <;> by_cases h3 : y = y' <;> simp [h1, h2, h3]

end Go.Proofs.Ytbkafllejpbimaa
