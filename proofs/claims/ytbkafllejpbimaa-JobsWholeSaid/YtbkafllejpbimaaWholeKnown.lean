/- The law JobsWhole: whatever the numbers, it returns true. No condition. -/
import Derived.Test.YtbkafllejpbimaaM2
import Derived.Test.YtbkafllejpbimaaSimDr
import Derived.Test.YtbkafllejpbimaaSimFrame
import Derived.Test.YtbkafllejpbimaaSimLaw
import Derived.ProofKit

namespace Go.Proofs.Ytbkafllejpbimaa
open Go.Sim

theorem neq33' (p q : Operand) (x z y x' z' y' : Int) : ∃ b, abin ctx .neq 33 p q (.agg (job x z y)) (.agg (job x' z' y')) = some (.bool b) ∧ (b = true ↔ (x, z, y) ≠ (x', z', y')) := by
  have e : abin ctx .neq 33 p q (.agg (job x z y)) (.agg (job x' z' y')) = (match (match some (eqF x x') with | some true => (match some (eqF z z') with | some true => (match some (eqF y y') with | some true => some true | r => r) | r => r) | r => r) with | some r => some (.bool (!r)) | none => none) := by kernel_rfl
  rw [e, eqF_eq, eqF_eq, eqF_eq]
  by_cases h1 : x = x' <;> by_cases h2 : z = z' <;> by_cases h3 : y = y' <;> simp [h1, h2, h3]

set_option maxRecDepth 100000 in
theorem sameJobs_ok {v w : V} {l m : List (Int × Int × Int)} {h : H} {Q : V → H → Prop} (s1 : Sl h v 3 l.length (jl l)) (s2 : Sl h w 3 m.length (jl m)) (hl : l.length < 4611686018427387904) (hn : h.next ≤ T.top) (hlo : h.low ≤ T.top)
    (hq : Q (.bool (decide (l = m))) h) : RF P ctx 13 [v, w] h Q := by
  refine RF.enterE ctx_ok fn13 (ble _ _ rfl) (ble _ _ rfl) (vb13 v w h Q) ⟨_, s1.len ty27 rfl, _, s2.len ty27 rfl, fun h1 => ?_, fun h1 => ?_⟩
  · have : ¬ l = m := fun e => h1 (by rw [e])
    simpa [this] using hq
  · have hlm : l.length = m.length := by omega
    refine loop_wp (fun k tm h' => ∃ i : Nat, i ≤ l.length ∧ k = l.length - i ∧ h' = h ∧ getV tm 5 = .int .i64 i ∧ getV tm 0 = v ∧ getV tm 1 = w ∧ ∀ j, j < i → l[j]? = m[j]?) l.length ?_ ?_
    · exact ⟨0, by omega, by omega, rfl, by kernel_rfl, by kernel_rfl, by kernel_rfl, fun j hj => by omega⟩
    · rintro k tm h' ⟨i, h2, rfl, rfl, t5, t0, t1, hs⟩
      rw [tm3 rfl t5 t0 t1]
      refine wpC.seal _ (vl13_0 _ _ _ _ _ _ _) ⟨_, s1.len ty27 rfl, fun h3 => ⟨⟨hn, hlo⟩, ?_⟩, fun h3 tmz _ _ _ _ => ?_⟩
      · have hi : i < l.length := by omega
        obtain ⟨⟨x, z, y⟩, hx⟩ : ∃ p, l[i]? = some p := ⟨l[i], List.getElem?_eq_getElem hi⟩
        obtain ⟨⟨x', z', y'⟩, hx'⟩ : ∃ p, m[i]? = some p := ⟨m[i]'(by omega), List.getElem?_eq_getElem (by omega)⟩
        obtain ⟨b, o, a1, a2, _⟩ := at3 s1 hx
        obtain ⟨b', o', a1', a2', _⟩ := at3 s2 hx'
        obtain ⟨r, e, hr⟩ := neq33' (t 20) (t 24) x z y x' z' y'
        refine ⟨b, o, a1, x, z, y, a2, b', o', a1', x', z', y', a2', r, e, fun g tmn q4 _ _ _ => ?_, fun g tmn _ q5 q0 q1 => ?_⟩
        · show Q (getV tmn 4) h'
          rw [q4]
          have : ¬ l = m := fun q => by rw [q, hx'] at hx; exact (hr.1 g) (Option.some.inj hx).symm
          simpa [this] using hq
        · refine ⟨rfl, rfl, l.length - (i + 1), by omega, i + 1, by omega, rfl, rfl, ?_, q0, q1, fun j hj => ?_⟩
          · rw [q5, w64_id (by omega) (by omega)]; rfl
          · rcases Nat.lt_or_ge j i with q | q
            · exact hs j q
            · obtain rfl : j = i := by omega
              rw [hx, hx']
              have : ¬ (x, z, y) ≠ (x', z', y') := fun q => by rw [hr.2 q] at g; cases g
              rw [Classical.not_not.1 this]
      · have hi : i = l.length := by omega
        show wpC P ctx false r13_1 ⟨26, tmz, [], h'⟩ _
        refine wpC.seal _ (vr13_1 _ _ _ _) fun tm2 q4 _ _ _ => ?_
        show Q (getV tm2 4) h'
        rw [q4]
        have : l = m := List.ext_getElem? fun j => by
          rcases Nat.lt_or_ge j i with q | q
          · exact hs j q
          · rw [List.getElem?_eq_none (by omega), List.getElem?_eq_none (by omega)]
        simpa [this] using hq

set_option maxRecDepth 100000 in
theorem sameInts_ok {v w : V} {l m : List Int} {h : H} {Q : V → H → Prop} (s1 : Sl h v 1 l.length (ints l)) (s2 : Sl h w 1 m.length (ints m)) (hl : l.length < 4611686018427387904) (hn : h.next ≤ T.top) (hlo : h.low ≤ T.top)
    (hq : Q (.bool (decide (l = m))) h) : RF P ctx 14 [v, w] h Q := by
  refine RF.enterE ctx_ok fn14 (ble _ _ rfl) (ble _ _ rfl) (vb14 v w h Q) ⟨_, s1.len ty22 rfl, _, s2.len ty22 rfl, fun h1 => ?_, fun h1 => ?_⟩
  · have : ¬ l = m := fun e => h1 (by rw [e])
    simpa [this] using hq
  · have hlm : l.length = m.length := by omega
    refine loop_wp (fun k tm h' => ∃ i : Nat, i ≤ l.length ∧ k = l.length - i ∧ h' = h ∧ getV tm 5 = .int .i64 i ∧ getV tm 0 = v ∧ getV tm 1 = w ∧ ∀ j, j < i → l[j]? = m[j]?) l.length ?_ ?_
    · exact ⟨0, by omega, by omega, rfl, by kernel_rfl, by kernel_rfl, by kernel_rfl, fun j hj => by omega⟩
    · rintro k tm h' ⟨i, h2, rfl, rfl, t5, t0, t1, hs⟩
      rw [tm3 rfl t5 t0 t1]
      refine wpC.seal _ (vl14_0 _ _ _ _ _ _ _) ⟨_, s1.len ty22 rfl, fun h3 => ⟨⟨hn, hlo⟩, ?_⟩, fun h3 tmz _ _ _ _ => ?_⟩
      · have hi : i < l.length := by omega
        have hx : l[i]? = some (l.getD i 0) := by simp [List.getD, hi]
        have hx' : m[i]? = some (m.getD i 0) := by simp [List.getD, show i < m.length by omega]
        obtain ⟨b, o, a1, a2⟩ := s1.at1 (c := ctx) hi ty22 rfl ty3 rfl rfl (ints_get hi)
        obtain ⟨b', o', a1', a2'⟩ := s2.at1 (c := ctx) (i := i) (by omega) ty22 rfl ty3 rfl rfl (ints_get (by omega))
        refine ⟨b, o, a1, _, a2, b', o', a1', _, a2', fun g tmn q4 _ _ _ => ?_, fun g tmn _ q5 q0 q1 => ?_⟩
        · show Q (getV tmn 4) h'
          rw [q4]
          have : ¬ l = m := fun q => g (by rw [q])
          simpa [this] using hq
        · refine ⟨rfl, rfl, l.length - (i + 1), by omega, i + 1, by omega, rfl, rfl, ?_, q0, q1, fun j hj => ?_⟩
          · rw [q5, w64_id (by omega) (by omega)]; rfl
          · rcases Nat.lt_or_ge j i with q | q
            · exact hs j q
            · obtain rfl : j = i := by omega
              rw [hx, hx', Classical.not_not.1 g]
      · have hi : i = l.length := by omega
        show wpC P ctx false r14_1 ⟨26, tmz, [], h'⟩ _
        refine wpC.seal _ (vr14_1 _ _ _ _) fun tm2 q4 _ _ _ => ?_
        show Q (getV tm2 4) h'
        rw [q4]
        have : l = m := List.ext_getElem? fun j => by
          rcases Nat.lt_or_ge j i with q | q
          · exact hs j q
          · rw [List.getElem?_eq_none (by omega), List.getElem?_eq_none (by omega)]
        simpa [this] using hq

/-- An empty slice written down. -/
theorem build0 {h : H} (hn : h.next < T.top) : abuildSlice ctx 22 0 [] h = some (.slice h.next 0 0 (.exact 0), h.new (.cells (.ls []) ⟨0, 4, 0⟩ true false)) := by
  have e1 : abuildSlice ctx 22 0 [] h = (match newC h (some (.ls [])) ⟨0, 4, 0⟩ false with | some (b, h') => some (.slice b 0 0 (.exact 0), h') | none => none) := by kernel_rfl
  rw [e1]
  unfold newC
  rw [(blt_iff _ _).2 hn]
  rfl

theorem allOne_ints (l : List Int) : allOne (ints l) = true := by
  induction l with
  | nil => rfl
  | cons a l ih => exact ih

theorem own_ok {v : V} {l : List Int} {h : H} {Q : V → H → Prop} (s : Sl h v 1 l.length (ints l)) (hz : l.length = 0 → srcCells 1 h v = some (0, [])) (hlen : l.length ≤ 262143) (hn : h.next + 2 ≤ T.top)
    (hq : ∀ h' w, Ext h h' 2 → Sl h' w 1 l.length (ints l) → Q w h') : RF P ctx 11 [v] h Q := by
  refine RF.enterE ctx_ok fn11 (ble _ _ rfl) (ble _ _ rfl) (vb11 v h Q) ⟨_, _, build0 (by omega), trivial, ?_⟩
  generalize e1 : h.new (.cells (.ls []) ⟨0, 4, 0⟩ true false) = h1
  have x1 : Ext h h1 1 := by rw [← e1]; exact Ext.new _ (by omega)
  have g1 : h1.get h.next = some (.cells (.ls []) ⟨0, 4, 0⟩ true false) := by rw [← e1]; exact get_new_self _ (by omega)
  have u1 := x1.top
  have n1 : h.next < h1.next := by rw [← e1, new_next]; omega
  rcases Nat.eq_zero_or_pos l.length with h0 | h0
  · have hl : l = [] := List.eq_nil_of_length_eq_zero h0
    have hsrc : srcCells te3.size h1 v = some (0, []) := by
      have hz0 := hz h0
      obtain ⟨_, ⟨rfl, _⟩ | ⟨b, o, cp, cs, k, w, op, rfl, hb, hg, _⟩⟩ := s
      · rfl
      · refine Eq.trans ?_ hz0
        have e := x1.get b hb
        unfold srcCells
        simp only [e]
    refine ⟨.slice h.next 0 0 (.exact 0), h1.upd h.next (some (.cells (.ls []) ⟨0, 4, 0⟩ true false)), ?_, ?_⟩
    · unfold aappend
      rw [ty22]
      simp only [te3_at, hsrc]
      show appTo te3 h1 0 [] (.slice h.next 0 0 (.exact 0)) = _
      unfold appTo
      simp only [g1]
      rfl
    · subst hl
      exact hq _ _ ((x1.upd _ (by omega) (Nat.le_refl _)).mono (by omega)) ⟨rfl, .inr ⟨h.next, 0, _, _, _, _, _, rfl, n1, get_upd_self _ (by omega), fun i hi => by simp at hi⟩⟩
  · have hsl := s.ext x1
    have hlen2 : (ints l).length = l.length := by simp [ints]
    obtain ⟨cs, c1, c2⟩ := Cs.ofL_some (l := ints l) (by rw [hlen2]; omega)
    obtain ⟨c3, c4⟩ := Cs.ofL_eq c1
    refine ⟨.slice h1.next 0 l.length (.skip 0), h1.new (.cells cs (rkOf te3) true true), ?_, ?_⟩
    · unfold aappend
      rw [ty22]
      simp only [te3_at, hsl.src (esz := te3.size) (by decide) h0]
      show appTo te3 h1 l.length (ints l) (.slice h.next 0 0 (.exact 0)) = _
      unfold appTo
      simp only [g1]
      unfold appExact
      have e2 : Nat.ble (0 + l.length) 0 = false := by cases hb : Nat.ble (0 + l.length) 0 with
        | false => rfl
        | true => have := Nat.le_of_ble_eq_true hb; omega
      rw [e2, cond_false]
      have e3 : appR (.ls []) 0 (0 * te3.size) (ints l) = some cs := by
        show cond (allOne ([] ++ ints l)) (Cs.ofL ([] ++ ints l)) none = _
        rw [List.nil_append, allOne_ints, cond_true, c1]
      rw [e3, Nat.zero_add]
      exact growNew_is (by show l.length * 8 ≤ _; omega) (by omega)
    · exact hq _ _ (x1.trans (Ext.new _ (by omega))) ⟨by rw [hlen2]; omega, .inr ⟨h1.next, 0, _, cs, _, _, _, rfl, by rw [new_next]; omega, get_new_self _ (by omega), fun i hi => by rw [c4, Nat.zero_add]⟩⟩

end Go.Proofs.Ytbkafllejpbimaa

namespace Go.Proofs.Ytbkafllejpbimaa
open Go.Sim

set_option maxRecDepth 100000 in
theorem refCheck_ok {a b d e : Int} {s u : Bool} {h : H} {Q : V → H → Prop} (hn : h.next < T.top) (hq : ∀ h', Ext h h' 1 → Q (.int .i64 (chk a b d e)) h') : RF P ctx 32 [par a b d e s u] h Q := by
  refine RF.enterE ctx_ok fn32 (ble _ _ rfl) (ble _ _ rfl) (vb32 a b d e s u h Q) ⟨hn, ?_⟩
  rintro p h1 rfl rfl
  have hg := get_new_self (h := h) (.cells (.ls [.int .i64 a, .int .i64 b, .int .i64 d, .int .i64 e, .bool s, .bool u]) ⟨0, 25, 0⟩ true false) hn
  have hx := Ext.new (h := h) (.cells (.ls [.int .i64 a, .int .i64 b, .int .i64 d, .int .i64 e, .bool s, .bool u]) ⟨0, 25, 0⟩ true false) hn
  have hq := hq _ hx
  unfold chk at hq
  refine ⟨_, ald_one ty3 rfl hg rfl, fun c => by rwa [if_neg (by omega)] at hq, fun c1 => ?_⟩
  refine ⟨_, ald_one ty3 rfl hg rfl, fun c => by rwa [if_neg (by omega)] at hq, fun c2 => ?_⟩
  refine ⟨_, ald_one ty3 rfl hg rfl, fun c => by rwa [if_neg (by omega)] at hq, fun c3 => ?_⟩
  refine ⟨_, ald_one ty3 rfl hg rfl, fun c => by rwa [if_neg (by omega)] at hq, fun c4 => ?_⟩
  refine ⟨_, ald_one ty3 rfl hg rfl, fun c => by rwa [if_neg (by omega)] at hq, fun c5 => ?_⟩
  refine ⟨_, ald_one ty3 rfl hg rfl, fun c => by rwa [if_neg (by omega)] at hq, fun c6 => ?_⟩
  refine ⟨_, ald_one ty3 rfl hg rfl, fun c => by rwa [if_neg (by omega)] at hq, fun c7 => ?_⟩
  refine ⟨_, ald_one ty3 rfl hg rfl, fun c => by rwa [if_neg (by omega)] at hq, fun c8 => ?_⟩
  rwa [if_pos (by omega)] at hq

theorem shl_i64 {n : Nat} (h : n < 63) : intB .shl .i64 1 (n : Int) = some (.int .i64 ((2 ^ n : Nat) : Int)) := by
  have h1 : Nat.ble n 64 = true := Nat.ble_eq_true_of_le (by omega)
  have h2 : (2 ^ n : Nat) < 9223372036854775808 := by
    calc (2 ^ n : Nat) < 2 ^ 63 := Nat.pow_lt_pow_right (by omega) h
      _ = _ := by decide
  show cond (ltF (n : Int) 0) none (some (V.int .i64 (wrapF .i64 (shlF 1 (cond (Nat.ble n 64) n 64))))) = _
  rw [h1, cond_true, ltF_eq, shlF_eq]
  have h3 : decide ((n : Int) < 0) = false := by simp
  rw [h3, cond_false]
  have e : (1 : Int) * 2 ^ n = ((2 ^ n : Nat) : Int) := by rw [Int.one_mul, Int.natCast_pow]; rfl
  rw [e]
  exact congrArg _ (congrArg _ (w64_id (Int.le_trans (by decide) (Int.natCast_nonneg _)) (Int.lt_of_lt_of_le (Int.ofNat_lt.2 h2) (by decide))))

theorem wrap_u64 {n : Nat} (h : n < 18446744073709551616) : wrapF .u64 (n : Int) = (n : Int) := by
  rw [wrapF_eq]
  simp only [IntKind.wrap, IntKind.bits, IntKind.signed]; simp; omega

theorem chk_02 (a b d e : Int) : chk a b d e = 0 ∨ chk a b d e = 2 := by unfold chk; split <;> simp

set_option maxRecDepth 100000 in
theorem window_ok {a b d e : Int} {s u : Bool} {h : H} {Q : V → H → Prop} (hn : h.next + 2 ≤ T.top)
    (hq : ∀ h', Ext h h' 2 → Q (.tuple [.int .i64 (if chk a b d e = 0 then ((2 ^ b.toNat : Nat) : Int) else 0), .int .i64 (chk a b d e)]) h') : RF P ctx 39 [par a b d e s u] h Q := by
  refine RF.enterE ctx_ok fn39 (ble _ _ rfl) (ble _ _ rfl) (vb39 a b d e s u h Q) ⟨by omega, ?_⟩
  rintro p h1 rfl e1
  have n1 : h1.next = h.next + 1 := by rw [e1, new_next]
  have x1 : Ext h h1 1 := by rw [e1]; exact Ext.new _ (by omega)
  have s1 : h1.get h.next = some (cellsP a b d e s u) := by rw [e1]; exact get_new_self _ (by omega)
  refine ⟨_, _, _, _, _, _, ald_agg ty24 rfl s1 rfl, refCheck_ok (by omega) fun h9 x9 => ⟨_, rfl, fun g => ?_, fun g => ?_⟩⟩
  · have hq := hq h9 (x1.trans x9)
    rwa [if_neg g] at hq
  · have g : chk a b d e = 0 := Classical.not_not.1 g
    have hq := hq h9 (x1.trans x9)
    rw [if_pos g, g] at hq
    obtain ⟨c1, c2, c3, c4⟩ := chk_ok g
    obtain ⟨n, rfl⟩ : ∃ n : Nat, b = n := ⟨b.toNat, by omega⟩
    refine ⟨_, ald_one ty3 rfl ((x9.get _ (by omega)).trans s1) rfl, _, by rw [wrap_u64 (by omega)]; exact shl_i64 (by omega), ?_⟩
    exact hq

theorem tdiv2 (n : Nat) : Int.tdiv (n : Int) 2 = ((n / 2 : Nat) : Int) := by
  rw [Int.tdiv_eq_ediv_of_nonneg (Int.natCast_nonneg _)]; rfl

set_option maxRecDepth 100000 in
theorem refPrefix_ok {a b d e : Int} {s u : Bool} {h : H} {Q : V → H → Prop} (hn : h.next + 3 ≤ T.top)
    (hq : ∀ h', Ext h h' 3 → Q (.tuple [.int .i64 (if chk a b d e = 0 then pre b e else 0), .int .i64 (chk a b d e)]) h') : RF P ctx 22 [par a b d e s u] h Q := by
  refine RF.enterE ctx_ok fn22 (ble _ _ rfl) (ble _ _ rfl) (vb22 a b d e s u h Q) ⟨by omega, ?_⟩
  rintro p h1 rfl e1
  have n1 : h1.next = h.next + 1 := by rw [e1, new_next]
  have x1 : Ext h h1 1 := by rw [e1]; exact Ext.new _ (by omega)
  have s1 : h1.get h.next = some (cellsP a b d e s u) := by rw [e1]; exact get_new_self _ (by omega)
  refine ⟨_, _, _, _, _, _, ald_agg ty24 rfl s1 rfl, window_ok (by omega) fun h9 x9 => ⟨_, _, rfl, fun g => ?_, fun g => ?_⟩⟩
  · have hq := hq h9 (x1.trans x9)
    rwa [if_neg g] at hq
  · have g : chk a b d e = 0 := Classical.not_not.1 g
    have hq := hq h9 (x1.trans x9)
    rw [if_pos g] at hq
    rw [g] at hq ⊢
    obtain ⟨c1, c2, c3, c4⟩ := chk_ok g
    have s9 := (x9.get _ (by omega)).trans s1
    refine ⟨_, ald_one ty3 rfl s9 rfl, fun g0 => ?_, fun g0 => ⟨_, ald_one ty3 rfl s9 rfl, ?_⟩⟩
    · unfold pre at hq; rwa [if_pos g0] at hq
    · unfold pre at hq; rw [if_neg g0] at hq
      rw [if_pos rfl]
      have hp : 2 ^ b.toNat ≤ 2 ^ 27 := Nat.pow_le_pow_right (by omega) (by omega)
      have hp2 : ∀ i : Nat, 2 ^ b.toNat / 2 ^ i ≤ 134217728 := fun i => Nat.le_trans (Nat.div_le_self _ _) hp
      refine loop_wp (fun k tm h' => ∃ i : Nat, e + i ≤ 9 ∧ k = (9 - (e + i)).toNat ∧ h' = h9 ∧ getV tm 6 = .int .i64 (e + i) ∧ getV tm 4 = .int .i64 ((2 ^ b.toNat / 2 ^ i : Nat) : Int)) (9 - e).toNat ?_ ?_
      · exact ⟨0, by omega, by simp, rfl, by simp; kernel_rfl, by simp; kernel_rfl⟩
      · rintro k tm h' ⟨i, h2, rfl, rfl, t6, t4⟩
        rw [tm2 rfl t6 t4]
        refine wpC.seal _ (vl22_0 _ _ _ _ _ _) ⟨fun h3 => ⟨by decide, fun tmz _ _ q6 q4 => ⟨rfl, rfl, (9 - (e + (i + 1 : Nat))).toNat, by omega, i + 1, by omega, rfl, rfl, ?_, ?_⟩⟩, fun h3 tmz _ _ q6 q4 => ?_⟩
        · rw [q6, w64_id (by omega) (by omega)]; congr 1; omega
        · rw [q4, tdiv2, w64_id (Int.le_trans (by decide) (Int.natCast_nonneg _)) (Int.lt_of_le_of_lt (Int.ofNat_le.2 (Nat.le_trans (Nat.div_le_self _ _) (hp2 i))) (by decide)), Nat.div_div_eq_div_mul, ← Nat.pow_succ]
        · show wpC P ctx false r22_1 ⟨29, tmz, [], h'⟩ _
          rw [tm1 rfl q4]
          refine wpC.seal _ (vr22_1 _ _ _ _ _) fun tmn q2 q3 _ _ => ?_
          show Q (.tuple [getV tmn 2, getV tmn 3]) h'
          rw [q2, q3]
          have : (9 - e).toNat = i := by omega
          rw [this] at hq
          exact hq

end Go.Proofs.Ytbkafllejpbimaa

namespace Go.Proofs.Ytbkafllejpbimaa
open Go.Sim

/-- An element written down and put behind a slice of one's own. -/
theorem push_ok {hb h : H} {v z u : V} {te ti : TI} {n m t e : Nat} {xs ys : List V} (x : Ext hb h m) (s : Ow h v te n xs) (vb : ∀ b, vblk v = some b → hb.next ≤ b)
    (ht : ctx.ty.get t = some ti) (hd : ti.desc = .slice e) (he : ctx.ty.get e = some te) (hz : te.zero = some z) (hzl : lenIs z.cells te.size = true) (hu : u.cells = ys) (hl : ys.length = te.size) (hs : te.size ≤ 16) (ho : allOne ys = true) (hok : teOk te = true)
    (hsz : (n + 1) * te.size ≤ 262143) (hby : (n + 1) * te.bytes ≤ 1099511627776) (hn : hb.next + m + 2 ≤ T.top) :
    ∃ v4 h5, abuildSlice ctx t 1 [(0, u)] h = some (v4, h5) ∧ ∃ v6 h7, aappend ctx t h5 v v4 = some (v6, h7) ∧ Ext hb h7 (m + 2) ∧ Ow h7 v6 te (n + 1) (xs ++ ys) ∧ (∀ b, vblk v6 = some b → hb.next ≤ b) := by
  have ux := x.top
  have lx := x.le
  obtain ⟨v4, h5, e5, sl5, x5, vb5⟩ := buildSlice1 (c := ctx) (h := h) (u := u) (ys := ys) ht hd he hz hzl hu hl hs ho (by omega)
  have u5 := x5.top
  have l5 := x5.le
  obtain ⟨v6, h7, e7, ow7, l7, u7, g7, vb7, low7, lo7⟩ := (s.ext x5).append (c := ctx) sl5 (by omega) ht hd he hok ho hsz hby (by omega)
  refine ⟨v4, h5, e5, v6, h7, e7, ?_, ow7, fun b hb => ?_⟩
  · have y := x.trans x5
    exact ⟨Nat.le_trans y.le l7, by have := y.top; omega, fun b hb => (g7 b (by have := y.le; omega) (fun q => by have := vb b q; omega)).trans (y.get b hb), Nat.le_trans low7 y.low, lo7 _ y.lo fun b hb => Nat.le_trans (Nat.min_le_right _ _) (vb b hb)⟩
  · rw [vb7] at hb; cases hb; omega

set_option maxRecDepth 100000 in
theorem refTable_ok {a b d e : Int} {s u : Bool} {v : V} {lst : List Int} {h : H} {Q : V → H → Prop} (hc : chk a b d e = 0) (bn : bnd lst) (hlen : lst.length ≤ 4096) (sl : Sl h v 1 lst.length (ints lst)) (hn : h.next + 4 + 2 * lst.length ≤ T.top)
    (hq : ∀ h' w, Ext h h' (4 + 2 * lst.length) → Ow h' w te33 lst.length (jc (pre b e) lst lst.length) → Q w h') : RF P ctx 33 [par a b d e s u, v] h Q := by
  refine RF.enterE ctx_ok fn33 (ble _ _ rfl) (ble _ _ rfl) (vb33 a b d e s u v h Q) ⟨by omega, ?_⟩
  rintro p0 h1 rfl e1
  have n1 : h1.next = h.next + 1 := by rw [e1, new_next]
  have x1 : Ext h h1 1 := by rw [e1]; exact Ext.new _ (by omega)
  have s1 : h1.get h.next = some (cellsP a b d e s u) := by rw [e1]; exact get_new_self _ (by omega)
  obtain ⟨c1', c2, c3, c4⟩ := chk_ok hc
  have hpre := pre_le (b := b) (e := e) c2
  refine ⟨_, _, _, _, _, _, ald_agg ty24 rfl s1 rfl, refPrefix_ok (by omega) fun h9 x9 => ⟨_, _, rfl, ?_⟩⟩
  rw [if_pos hc]
  have x0 := x1.trans x9
  refine loop_wp (fun k tm h' => ∃ i : Nat, i ≤ lst.length ∧ k = lst.length - i ∧ getV tm 9 = .int .i64 i ∧ getV tm 1 = v ∧ getV tm 8 = .int .i64 (la lst i) ∧ getV tm 5 = .int .i64 (pre b e) ∧
    ∃ w, getV tm 7 = w ∧ Ext h h' (4 + 2 * i) ∧ Ow h' w te33 i (jc (pre b e) lst i) ∧ (∀ b, vblk w = some b → h.next ≤ b)) lst.length ?_ ?_
  · exact ⟨0, by omega, by omega, by kernel_rfl, by kernel_rfl, by kernel_rfl, by kernel_rfl, .nilslice, by kernel_rfl, x0, Ow.nil _ _, fun b hb => (by cases hb)⟩
  · rintro k tm h' ⟨i, h2, rfl, t9, t1, t8, t5, w, t7, xx, ow, vb⟩
    rw [tm5 rfl t9 t1 t7 t8 t5]
    have slk := sl.ext xx
    refine wpC.seal _ (vl33_0 _ _ _ _ _ _ _ _ _) ⟨_, slk.len ty22 rfl, fun h3 => ?_, fun h3 tmz _ _ _ q7 _ _ => ?_⟩
    · have hi : i < lst.length := by omega
      have hla := la_bnd bn h2
      obtain ⟨pb, po, a1, a2⟩ := slk.at1 (c := ctx) (i := i) hi ty22 rfl ty3 rfl rfl (ints_get hi)
      rw [w64_id (n := la lst i - pre b e) (by omega) (by omega)]
      obtain ⟨v4, h5, e5, v6, h7, e7, x7, ow7, vb7⟩ := push_ok (u := .agg (job (la lst i) (lst.getD i 0) (max 0 (la lst i - pre b e)))) xx ow vb ty27 rfl te33_at rfl rfl rfl rfl (Nat.le_of_ble_eq_true rfl) rfl rfl (by show (i + 1) * 3 ≤ 262143; omega) (by show (i + 1) * 24 ≤ _; omega) (by omega)
      obtain ⟨pb2, po2, a3, a4⟩ := (sl.ext x7).at1 (c := ctx) (i := i) hi ty22 rfl ty3 rfl rfl (ints_get hi)
      refine ⟨pb, po, a1, _, a2, v4, h5, e5, trivial, v6, h7, e7, pb2, po2, a3, _, a4, fun tmn _ q9 q1 q7 q8 q5 => ⟨rfl, rfl, lst.length - (i + 1), by omega, i + 1, by omega, rfl, ?_, q1, q8, q5, v6, q7, x7, ow7, vb7⟩⟩
      rw [q9, w64_id (by omega) (by omega)]; rfl
    · have hi : i = lst.length := by omega
      subst hi
      show wpC P ctx false r33_1 ⟨39, tmz, [], h'⟩ _
      rw [tm1 rfl q7]
      refine wpC.seal _ (vr33_1 _ _ _ _ _) fun tm2 q4 _ _ _ _ _ => ?_
      show Q (getV tm2 4) h'
      rw [q4]
      exact hq h' w xx ow

end Go.Proofs.Ytbkafllejpbimaa

namespace Go.Proofs.Ytbkafllejpbimaa
open Go.Sim

set_option maxRecDepth 100000 in
theorem refOf_ok {a b d e : Int} {s u : Bool} {v : V} {l : List Int} {h : H} {Q : V → H → Prop} (sl : Sl h v 1 l.length (ints l)) (hlt : l.length < 4611686018427387904) (hn : h.next + 8200 ≤ T.top) (hlow : h.low ≤ T.top)
    (hq : ∀ h' w, Ext h h' 8200 → (ofE (chk a b d e) l = 0 → Ow h' w te33 l.length (jc (pre b e) l l.length)) → (ofE (chk a b d e) l ≠ 0 → w = .nilslice) → Q (.tuple [w, .int .i64 (ofE (chk a b d e) l)]) h') : RF P ctx 12 [par a b d e s u, v] h Q := by
  refine RF.enterE ctx_ok fn12 (ble _ _ rfl) (ble _ _ rfl) (vb12 a b d e s u v h Q) ⟨by omega, ?_⟩
  rintro p0 h1 rfl e1
  have n1 : h1.next = h.next + 1 := by rw [e1, new_next]
  have x1 : Ext h h1 1 := by rw [e1]; exact Ext.new _ (by omega)
  have s1 : h1.get h.next = some (cellsP a b d e s u) := by rw [e1]; exact get_new_self _ (by omega)
  refine ⟨_, _, _, _, _, _, ald_agg ty24 rfl s1 rfl, refCheck_ok (by omega) fun h9 x9 => ⟨_, rfl, fun g => ?_, fun g => ?_⟩⟩
  · have hE : ofE (chk a b d e) l = chk a b d e := by unfold ofE; rw [if_pos g]
    rw [hE] at hq
    exact hq h9 _ ((x1.trans x9).mono (by omega)) (fun q => absurd q g) fun _ => rfl
  have g0 : chk a b d e = 0 := Classical.not_not.1 g
  have x0 := x1.trans x9
  have u0 := x0.top
  have sl9 := sl.ext x0
  have s9 : h9.get h.next = some (cellsP a b d e s u) := (x9.get _ (by omega)).trans s1
  have lo9 : h9.low ≤ T.top := Nat.le_trans x0.low hlow
  have err : ∀ n : Int, ofE (chk a b d e) l = n → n ≠ 0 → Q (.tuple [.nilslice, .int .i64 n]) h9 := fun n hE h0 => by
    rw [hE] at hq
    exact hq h9 _ (x0.mono (by omega)) (fun q => absurd q h0) fun _ => rfl
  have ng : ¬ chk a b d e ≠ 0 := g
  refine ⟨_, sl9.len ty22 rfl, fun c => ?_, fun c1 => ⟨_, sl9.len ty22 rfl, fun c => ?_, fun c2 => ?_⟩⟩
  · exact err 6 (by unfold ofE; rw [if_neg ng, if_pos (.inl (by omega))]) (by decide)
  · exact err 6 (by unfold ofE; rw [if_neg ng, if_pos (.inr (by omega))]) (by decide)
  have nl : ¬ (l.length = 0 ∨ 4096 < l.length) := by omega
  refine loop_wp (fun k tm h' => ∃ i : Nat, i ≤ l.length ∧ k = l.length - i ∧ h' = h9 ∧ getV tm 7 = .int .i64 i ∧ getV tm 1 = v ∧ getV tm 2 = .ptr h.next 0 ∧ ∀ j, j < i → 0 ≤ l.getD j 0 ∧ l.getD j 0 ≤ 1048576) l.length ?_ ?_
  · exact ⟨0, by omega, by omega, rfl, by kernel_rfl, by kernel_rfl, by kernel_rfl, fun j hj => by omega⟩
  rintro k tm h' ⟨i, h2, rfl, rfl, t7, t1, t2, hs⟩
  have t2' : getV (Tb.set (Tb.set tm 7 (.int .i64 i)) 1 v) 2 = .ptr h.next 0 := by rw [← tm2 rfl t7 t1]; exact t2
  rw [tm2 rfl t7 t1]
  refine wpC.seal _ (vl12_0 _ _ _ _ _ _) ⟨_, sl9.len ty22 rfl, fun h3 => ?_, fun h3 tmz _ _ _ q1 _ q2 => ?_⟩
  · have hi : i < l.length := by omega
    obtain ⟨pb, po, a1, a2⟩ := sl9.at1 (c := ctx) (i := i) hi ty22 rfl ty3 rfl rfl (ints_get hi)
    refine ⟨pb, po, a1, _, a2, fun c tmn q4 q5 _ _ _ _ => ?_, fun d1 => ⟨pb, po, a1, _, a2, fun c tmn q4 q5 _ _ _ _ => ?_, fun d2 tmn _ _ q7 q1 _ q2 => ?_⟩⟩
    · show Q (.tuple [getV tmn 4, getV tmn 5]) h'
      rw [q4, q5]
      exact err 2 (by unfold ofE; rw [if_neg ng, if_neg nl, if_neg (fun bn => by have := bn i hi; omega)]) (by decide)
    · show Q (.tuple [getV tmn 4, getV tmn 5]) h'
      rw [q4, q5]
      exact err 2 (by unfold ofE; rw [if_neg ng, if_neg nl, if_neg (fun bn => by have := bn i hi; omega)]) (by decide)
    · refine ⟨rfl, rfl, l.length - (i + 1), by omega, i + 1, by omega, rfl, rfl, ?_, q1, q2.trans t2', fun j hj => ?_⟩
      · rw [q7, w64_id (by omega) (by omega)]; rfl
      · rcases Nat.lt_or_ge j i with q | q
        · exact hs j q
        · obtain rfl : j = i := by omega
          omega
  have bn : bnd l := fun j hj => hs j (by omega)
  show wpC P ctx false r12_3 ⟨59, tmz, [], h'⟩ _
  refine wpC.seal _ (vr12_3 _ _ _ _) ?_
  have p1 : getV (Tb.set tmz 8 (.int .i64 1)) 1 = v := Eq.trans (by kernel_rfl) q1
  have p2 : getV (Tb.set tmz 8 (.int .i64 1)) 2 = .ptr h.next 0 := Eq.trans (by kernel_rfl) (q2.trans t2')
  refine loop_wp (fun k tm h2 => ∃ i : Nat, 1 ≤ i ∧ i ≤ l.length ∧ k = l.length - i ∧ h2 = h' ∧ getV tm 8 = .int .i64 i ∧ getV tm 1 = v ∧ getV tm 2 = .ptr h.next 0 ∧ ∀ j, j + 1 < i → l.getD j 0 ≤ l.getD (j + 1) 0) (l.length - 1) ?_ ?_
  · exact ⟨1, by omega, by omega, by omega, rfl, by kernel_rfl, p1, p2, fun j hj => by omega⟩
  clear hs t7 t1 t2 t2' q1 q2 p1 p2
  rintro k tm2' h2' ⟨m, m1, m2, rfl, rfl, t8, t1, t2, hs⟩
  have t2' : getV (Tb.set (Tb.set tm2' 8 (.int .i64 m)) 1 v) 2 = .ptr h.next 0 := by rw [← tm2 rfl t8 t1]; exact t2
  rw [tm2 rfl t8 t1]
  refine wpC.seal _ (vl12_1 _ _ _ _ _ _) ⟨_, sl9.len ty22 rfl, fun h3 => ⟨⟨by omega, lo9⟩, ?_⟩, fun h3 tmz2 _ _ _ q1 _ q2 => ?_⟩
  · have hi : m < l.length := by omega
    have hw : w64 ((m : Int) - 1) = ((m - 1 : Nat) : Int) := by rw [w64_id (by omega) (by omega)]; omega
    rw [hw]
    obtain ⟨pb, po, a1, a2⟩ := sl9.at1 (c := ctx) (i := m) hi ty22 rfl ty3 rfl rfl (ints_get hi)
    obtain ⟨pb', po', a1', a2'⟩ := sl9.at1 (c := ctx) (i := m - 1) (by omega) ty22 rfl ty3 rfl rfl (ints_get (by omega))
    refine ⟨pb, po, a1, _, a2, pb', po', a1', _, a2', fun c tmn q4 q5 _ _ _ _ => ?_, fun d1 tmn _ _ _ q1 q8 q2 => ?_⟩
    · show sealQ _ _ _ _
      intro tme z4 z5 _ _ _ _
      show Q (.tuple [getV tme 4, getV tme 5]) h2'
      rw [z4, z5]
      show Q (.tuple [getV tmn 4, getV tmn 5]) h2'
      rw [q4, q5]
      refine err 9 ?_ (by decide)
      unfold ofE
      rw [if_neg ng, if_neg nl, if_pos bn, if_neg (fun sr => ?_)]
      have := sr (m - 1) (by omega)
      rw [show m - 1 + 1 = m by omega] at this
      omega
    · refine ⟨rfl, rfl, l.length - (m + 1), by omega, m + 1, by omega, by omega, rfl, rfl, ?_, q1, q2.trans t2', fun j hj => ?_⟩
      · rw [q8, w64_id (by omega) (by omega)]; rfl
      · rcases Nat.lt_or_ge (j + 1) m with q | q
        · exact hs j q
        · obtain rfl : m = j + 1 := by omega
          have : j + 1 - 1 = j := by omega
          rw [this] at d1; omega
  · have sr : srt l := fun j hj => hs j (by omega)
    show wpC P ctx false r12_2 ⟨59, tmz2, [], h2'⟩ _
    rw [tm2 rfl (q2.trans t2') q1]
    refine Eq.mpr (vr12_2 _ _ _ _ _ _) ⟨_, _, _, _, _, _, ald_agg ty24 rfl s9 rfl, refTable_ok g0 bn (by omega) sl9 (by omega) fun h5 w x5 ow => ⟨_, rfl, fun tmn q4 q5 _ _ _ _ => ?_⟩⟩
    show Q (.tuple [getV tmn 4, getV tmn 5]) h5
    rw [q4, q5]
    have hE : ofE (chk a b d e) l = 0 := by unfold ofE; rw [if_neg ng, if_neg nl, if_pos bn, if_pos sr]
    rw [hE] at hq
    exact hq h5 w ((x0.trans x5).mono (by omega)) (fun _ => ow) fun q => absurd rfl q

end Go.Proofs.Ytbkafllejpbimaa

namespace Go.Proofs.Ytbkafllejpbimaa
open Go.Sim

theorem ofE_len {k : Int} {l : List Int} (h : ofE k l = 0) : l.length ≤ 4096 := by
  unfold ofE at h
  split at h
  · omega
  · split at h
    · cases h
    · omega

set_option maxRecDepth 100000 in
open Classical in
theorem refCheckT_ok {a b d e : Int} {s u : Bool} {v : V} {l : List (Int × Int × Int)} {h : H} {Q : V → H → Prop} (sl : Sl h v 3 l.length (jl l)) (hlt : l.length < 4611686018427387904) (hn : h.next + 17000 ≤ T.top) (hlow : h.low ≤ T.top)
    (hq : ∀ h', Ext h h' 17000 → Q (.int .i64 (chkE (chk a b d e) (pre b e) l)) h') : RF P ctx 15 [par a b d e s u, v] h Q := by
  refine RF.enterE ctx_ok fn15 (ble _ _ rfl) (ble _ _ rfl) (vb15 a b d e s u v h Q) ⟨by omega, ?_⟩
  rintro p0 h1 rfl e1
  have n1 : h1.next = h.next + 1 := by rw [e1, new_next]
  have x1 : Ext h h1 1 := by rw [e1]; exact Ext.new _ (by omega)
  have s1 : h1.get h.next = some (cellsP a b d e s u) := by rw [e1]; exact get_new_self _ (by omega)
  have fin : ∀ (h' : H) (w : V) (tmz : Tm), getV tmz 2 = .ptr h.next 0 → getV tmz 5 = w → getV tmz 1 = v → Ext h h' 8300 → h'.get h.next = some (cellsP a b d e s u) → Sl h' w 1 (tos (l.take 4097)).length (ints (tos (l.take 4097))) →
      wpC P ctx false r15_3 ⟨52, tmz, [], h'⟩ (endW ctx ⟨52, [.tmp 4], b15⟩ Q) := by
    intro h' w tmz q2 q5 q1 xx g sw
    have ux := xx.top
    have lo : h'.low ≤ T.top := Nat.le_trans xx.low hlow
    have htos : (tos (l.take 4097)).length = min 4097 l.length := by simp [tos]
    rw [tm2 rfl q2 q5]
    refine wpC.seal _ (vr15_3 _ _ _ _ _ _) ⟨_, _, _, _, _, _, ald_agg ty24 rfl g rfl, refOf_ok sw (by omega) (by omega) lo fun h7 w7 x7 ow7 _ => ⟨_, _, rfl, fun c tmn q4 _ _ _ _ _ _ => ?_, fun c => ?_⟩⟩
    · show Q (getV tmn 4) h7
      rw [q4]
      have hq := hq h7 ((xx.trans x7).mono (by omega))
      unfold chkE at hq
      rwa [if_neg c] at hq
    · have c0 : ofE (chk a b d e) (tos (l.take 4097)) = 0 := Classical.not_not.1 c
      have hq := hq h7 ((xx.trans x7).mono (by omega))
      unfold chkE at hq
      rw [if_pos c0] at hq
      have hle := ofE_len c0
      have sl7 := sl.ext (xx.trans x7)
      have u7 := (xx.trans x7).top
      have lo7 : h7.low ≤ T.top := Nat.le_trans x7.low lo
      have hj : Sl h7 w7 3 (jt (pre b e) (tos (l.take 4097)) (tos (l.take 4097)).length).length (jl (jt (pre b e) (tos (l.take 4097)) (tos (l.take 4097)).length)) := by
        have := (ow7 c0).sl
        rw [jc_jl] at this
        rw [jt_len]; exact this
      have hwl : (jt (pre b e) (tos (l.take 4097)) (tos (l.take 4097)).length).length = l.length := by rw [jt_len]; omega
      generalize jt (pre b e) (tos (l.take 4097)) (tos (l.take 4097)).length = want at hq hj hwl
      refine loop_wp (fun k tm h2 => ∃ i : Nat, i ≤ l.length ∧ k = l.length - i ∧ h2 = h7 ∧ getV tm 9 = .int .i64 i ∧ getV tm 1 = v ∧ getV tm 7 = w7 ∧ ∀ j, j < i → l[j]? = want[j]?) l.length ?_ ?_
      · exact ⟨0, by omega, by omega, rfl, by kernel_rfl, Eq.trans (by kernel_rfl) q1, by kernel_rfl, fun j hj => by omega⟩
      rintro k tm h2 ⟨i, i1, rfl, rfl, t9, t1, t7, hs⟩
      rw [tm3 rfl t9 t1 t7]
      refine wpC.seal _ (vl15_1 _ _ _ _ _ _ _) ⟨_, sl7.len ty27 rfl, fun h3 => ⟨⟨by omega, lo7⟩, ?_⟩, fun h3 tmz2 _ _ _ _ _ _ _ => ?_⟩
      · have hi : i < l.length := by omega
        obtain ⟨⟨x, z, y⟩, hx⟩ : ∃ p, l[i]? = some p := ⟨l[i], List.getElem?_eq_getElem hi⟩
        obtain ⟨⟨x', z', y'⟩, hx'⟩ : ∃ p, want[i]? = some p := ⟨want[i]'(by omega), List.getElem?_eq_getElem (by omega)⟩
        obtain ⟨b1, o1, a1, a2, _⟩ := at3 sl7 hx
        obtain ⟨b2, o2, a1', a2', _⟩ := at3 hj hx'
        obtain ⟨r, er, hr⟩ := neq33' (t 46) (t 50) x z y x' z' y'
        refine ⟨b1, o1, a1, x, z, y, a2, b2, o2, a1', x', z', y', a2', r, er, fun g tmn q4 _ _ _ _ _ _ => ?_, fun g tmn _ _ q1 _ q9 q7 _ => ?_⟩
        · show sealQ _ _ _ _
          intro tme z4 _ _ _ _ _ _
          show Q (getV tme 4) h2
          rw [z4]
          show Q (getV tmn 4) h2
          rw [q4]
          have : ¬ l = want := fun q => by rw [q, hx'] at hx; exact (hr.1 g) (Option.some.inj hx).symm
          rwa [if_neg this] at hq
        · refine ⟨rfl, rfl, l.length - (i + 1), by omega, i + 1, by omega, rfl, rfl, ?_, q1, q7, fun j hj => ?_⟩
          · rw [q9, w64_id (by omega) (by omega)]; rfl
          · rcases Nat.lt_or_ge j i with q | q
            · exact hs j q
            · obtain rfl : j = i := by omega
              rw [hx, hx']
              have : ¬ (x, z, y) ≠ (x', z', y') := fun q => by rw [hr.2 q] at g; cases g
              rw [Classical.not_not.1 this]
      · have hi : i = l.length := by omega
        show wpC P ctx false r15_2 ⟨52, tmz2, [], h2⟩ _
        refine Eq.mpr (vr15_2 _ _ _ _) fun tmn q4 _ _ _ _ _ _ => ?_
        show Q (getV tmn 4) h2
        rw [q4]
        have : l = want := List.ext_getElem? fun j => by
          rcases Nat.lt_or_ge j i with q | q
          · exact hs j q
          · rw [List.getElem?_eq_none (by omega), List.getElem?_eq_none (by omega)]
        rwa [if_pos this] at hq
  refine loop_wp (fun k tm h' => ∃ i : Nat, i ≤ l.length ∧ i ≤ 4097 ∧ k = l.length - i ∧ getV tm 6 = .int .i64 i ∧ getV tm 1 = v ∧ getV tm 2 = .ptr h.next 0 ∧
    ∃ w, getV tm 5 = w ∧ Ext h1 h' (2 * i) ∧ Ow h' w te3 i (ints ((tos l).take i)) ∧ (∀ b, vblk w = some b → h1.next ≤ b)) l.length ?_ ?_
  · exact ⟨0, by omega, by omega, by omega, by kernel_rfl, by kernel_rfl, by kernel_rfl, .nilslice, by kernel_rfl, Ext.refl _, Ow.nil _ _, fun b hb => (by cases hb)⟩
  rintro k tm h' ⟨i, i1, i2, rfl, t6, t1, t2, w, t5, xx, ow, vb⟩
  have t2' : getV (Tb.set (Tb.set (Tb.set tm 6 (.int .i64 i)) 1 v) 5 w) 2 = .ptr h.next 0 := by rw [← tm3 rfl t6 t1 t5]; exact t2
  rw [tm3 rfl t6 t1 t5]
  have slk := (sl.ext x1).ext xx
  have g' : h'.get h.next = some (cellsP a b d e s u) := (xx.get _ (by omega)).trans s1
  have out : i = min 4097 l.length → ∀ tmz, getV tmz 2 = getV (Tb.set (Tb.set (Tb.set tm 6 (.int .i64 i)) 1 v) 5 w) 2 → getV tmz 5 = w → getV tmz 1 = v → wpC P ctx false r15_3 ⟨52, tmz, [], h'⟩ (endW ctx ⟨52, [.tmp 4], b15⟩ Q) := by
    intro hi tmz q2 q5 q1
    refine fin h' w tmz (q2.trans t2') q5 q1 ((x1.trans xx).mono (by omega)) g' ?_
    have h1 : (tos (l.take 4097)) = (tos l).take i := by
      unfold tos
      rw [← List.map_take, hi]
      congr 1
      rcases Nat.le_total 4097 l.length with q | q
      · rw [Nat.min_eq_left q]
      · rw [Nat.min_eq_right q, List.take_of_length_le q, List.take_of_length_le (Nat.le_refl _)]
    have h2 : ((tos l).take i).length = i := by simp [tos]; omega
    rw [h1, h2]
    exact ow.sl
  refine wpC.seal _ (vl15_0 _ _ _ _ _ _ _) ⟨_, slk.len ty27 rfl, fun h3 => ⟨fun h4 => ?_, fun h4 tmz _ _ q1 q5 _ _ q2 => out (by omega) tmz q2 q5 q1⟩, fun h3 tmz _ _ q1 q5 _ _ q2 => out (by omega) tmz q2 q5 q1⟩
  have hi : i < l.length := by omega
  obtain ⟨⟨x, z, y⟩, hx⟩ : ∃ p, l[i]? = some p := ⟨l[i], List.getElem?_eq_getElem hi⟩
  obtain ⟨pb, po, a1, _, _, a2, _⟩ := at3 slk hx
  obtain ⟨v4, h5, e5, v6, h7, e7, x7, ow7, vb7⟩ := push_ok (u := .int .i64 z) (ys := [.int .i64 z]) xx ow vb ty22 rfl te3_at rfl rfl rfl rfl (Nat.le_of_ble_eq_true rfl) rfl rfl (by show (i + 1) * 1 ≤ 262143; omega) (by show (i + 1) * 8 ≤ _; omega) (by omega)
  refine ⟨pb, po, a1, z, a2, v4, h5, e5, trivial, v6, h7, e7, fun tmn _ q6 q1 q5 _ _ q2 => ⟨rfl, rfl, l.length - (i + 1), by omega, i + 1, by omega, by omega, rfl, ?_, q1, q2.trans t2', v6, q5, x7, ?_, vb7⟩⟩
  · rw [q6, w64_id (by omega) (by omega)]; rfl
  · have : (tos l)[i]? = some z := by simp [tos, hx]
    rw [ints_take this]
    exact ow7

end Go.Proofs.Ytbkafllejpbimaa

namespace Go.Proofs.Ytbkafllejpbimaa
open Go.Sim

theorem lenB_eq : ∀ (l : List UInt8) (n : Nat), lenB l n = n + l.length
  | [], n => by simp [lenB]
  | _ :: l, n => by rw [lenB, lenB_eq l]; simp; omega

/-- A string's slice. -/
theorem slice_str {s : List UInt8} {x y : Int} {h : H} (h0 : 0 ≤ x) (h1 : x ≤ y) (h2 : y ≤ s.length) :
    aslice ctx 9 h (.str s) (some (.int .i64 x)) (some (.int .i64 y)) none = some (.str (sliceS s x.toNat y.toNat)) := by
  obtain ⟨m, rfl⟩ : ∃ m : Nat, x = m := ⟨x.toNat, by omega⟩
  obtain ⟨n, rfl⟩ : ∃ n : Nat, y = n := ⟨y.toNat, by omega⟩
  unfold aslice
  have e1 : asNatI (m : Int) = some m := rfl
  have e2 : asNatI (n : Int) = some n := rfl
  have e3 : lenB s 0 = s.length := by rw [lenB_eq]; omega
  simp only [ty9, Go.Sim.bnd, e1, e2, e3]
  rw [Nat.ble_eq_true_of_le (show n ≤ s.length by omega), cond_true]
  simp only
  rw [Nat.ble_eq_true_of_le (show m ≤ n by omega), cond_true]
  rfl

open Classical in
/-- The parts of a job, or why there are none. -/
noncomputable def partsR (s : List UInt8) (x z y : Int) : V :=
  if 0 ≤ y ∧ y ≤ x ∧ x ≤ z ∧ z ≤ s.length then .tuple [.str (sliceS s y.toNat x.toNat), .str (sliceS s x.toNat z.toNat), .int .i64 0] else .tuple [.str [], .str [], .int .i64 2]

set_option maxRecDepth 100000 in
theorem parts_ok {s : List UInt8} {x z y : Int} {h : H} {Q : V → H → Prop} (hn : h.next + 1 ≤ T.top) (hlow : h.low ≤ T.top) (hq : ∀ h', Ext h h' 1 → Q (partsR s x z y) h') : RF P ctx 18 [.str s, .agg (job x z y)] h Q := by
  refine RF.enterE ctx_ok fn18 (ble _ _ rfl) (ble _ _ rfl) (vb18 s x z y h Q) ⟨by omega, ?_⟩
  rintro p h1 rfl rfl
  have hg := get_new_self (h := h) (.cells (.ls (job x z y)) ⟨0, 34, 0⟩ true false) (by omega)
  have hx := Ext.new (h := h) (.cells (.ls (job x z y)) ⟨0, 34, 0⟩ true false) (by omega)
  have hq := hq _ hx
  unfold partsR at hq
  have hc : (Int.ofNat s.length) = (s.length : Int) := rfl
  refine ⟨y, ald_one ty3 rfl hg rfl, fun c => by rwa [if_neg (by omega)] at hq, fun c1 => ?_⟩
  refine ⟨y, ald_one ty3 rfl hg rfl, x, ald_one ty3 rfl hg rfl, fun c => by rwa [if_neg (by omega)] at hq, fun c2 => ?_⟩
  refine ⟨x, ald_one ty3 rfl hg rfl, z, ald_one ty3 rfl hg rfl, fun c => by rwa [if_neg (by omega)] at hq, fun c3 => ?_⟩
  refine ⟨z, ald_one ty3 rfl hg rfl, fun c => by rwa [if_neg (by omega)] at hq, fun c4 => ?_⟩
  rw [if_pos (by omega)] at hq
  exact ⟨⟨by rw [new_next]; omega, Nat.le_trans hx.low hlow⟩, y, ald_one ty3 rfl hg rfl, x, ald_one ty3 rfl hg rfl, _, slice_str (by omega) (by omega) (by omega), x, ald_one ty3 rfl hg rfl, z, ald_one ty3 rfl hg rfl, _, slice_str (by omega) (by omega) (by omega), hq⟩

set_option maxRecDepth 100000 in
theorem refParts_ok {s : List UInt8} {x z y : Int} {h : H} {Q : V → H → Prop} (hn : h.next + 1 ≤ T.top) (hlow : h.low ≤ T.top) (hq : ∀ h', Ext h h' 1 → Q (partsR s x z y) h') : RF P ctx 19 [.str s, .agg (job x z y)] h Q := by
  refine RF.enterE ctx_ok fn19 (ble _ _ rfl) (ble _ _ rfl) (vb19 s x z y h Q) ⟨by omega, ?_⟩
  rintro p h1 rfl rfl
  have hg := get_new_self (h := h) (.cells (.ls (job x z y)) ⟨0, 34, 0⟩ true false) (by omega)
  have hx := Ext.new (h := h) (.cells (.ls (job x z y)) ⟨0, 34, 0⟩ true false) (by omega)
  have hq := hq _ hx
  unfold partsR at hq
  have hc : (Int.ofNat s.length) = (s.length : Int) := rfl
  refine ⟨y, ald_one ty3 rfl hg rfl, fun c => by rwa [if_neg (by omega)] at hq, fun c1 => ?_⟩
  refine ⟨x, ald_one ty3 rfl hg rfl, y, ald_one ty3 rfl hg rfl, fun c => by rwa [if_neg (by omega)] at hq, fun c2 => ?_⟩
  refine ⟨z, ald_one ty3 rfl hg rfl, x, ald_one ty3 rfl hg rfl, fun c => by rwa [if_neg (by omega)] at hq, fun c3 => ?_⟩
  refine ⟨z, ald_one ty3 rfl hg rfl, fun c => by rwa [if_neg (by omega)] at hq, fun c4 => ?_⟩
  rw [if_pos (by omega)] at hq
  exact ⟨⟨by rw [new_next]; omega, Nat.le_trans hx.low hlow⟩, y, ald_one ty3 rfl hg rfl, x, ald_one ty3 rfl hg rfl, _, slice_str (by omega) (by omega) (by omega), x, ald_one ty3 rfl hg rfl, z, ald_one ty3 rfl hg rfl, _, slice_str (by omega) (by omega) (by omega), hq⟩

/-- How many bytes a block has. -/
def blk (b : Int) : Nat := min (2 ^ b.toNat) 131072

theorem blk_bnd {b : Int} (h : 10 ≤ b) : 1024 ≤ blk b ∧ blk b ≤ 131072 := by
  have h1 : 2 ^ 10 ≤ 2 ^ b.toNat := Nat.pow_le_pow_right (by omega) (by omega)
  unfold blk
  omega

theorem blk_int (b : Int) : min ((2 ^ b.toNat : Nat) : Int) 131072 = (blk b : Int) := by unfold blk; omega

/-- How many pieces there are. -/
def pcs (S n : Nat) : Nat := if n = 0 then 1 else (n - 1) / S + 1

theorem pcs_lt {S n i : Nat} (hS : 0 < S) : i < pcs S n ↔ i = 0 ∨ i * S < n := by
  unfold pcs
  split
  · rename_i h; subst h; omega
  · rename_i h
    rw [Nat.lt_succ_iff, Nat.le_div_iff_mul_le hS]
    constructor
    · intro q; right; omega
    · rintro (rfl | q)
      · omega
      · omega

theorem pcs_le {S n : Nat} (hS : 1024 ≤ S) : pcs S n ≤ n / 1024 + 1 := by
  unfold pcs
  split
  · omega
  · have h1 : (n - 1) / S ≤ (n - 1) / 1024 := Nat.div_le_div_left hS (by decide)
    omega

set_option maxRecDepth 100000 in
theorem refBlock_ok {a b d e : Int} {s u : Bool} {h : H} {Q : V → H → Prop} (hc : chk a b d e = 0) (hn : h.next + 3 ≤ T.top)
    (hq : ∀ h', Ext h h' 3 → Q (.tuple [.int .i64 (blk b), .int .i64 0]) h') : RF P ctx 64 [par a b d e s u] h Q := by
  refine RF.enterE ctx_ok fn64 (ble _ _ rfl) (ble _ _ rfl) (vb64 a b d e s u h Q) ⟨by omega, ?_⟩
  rintro p h1 rfl e1
  have n1 : h1.next = h.next + 1 := by rw [e1, new_next]
  have x1 : Ext h h1 1 := by rw [e1]; exact Ext.new _ (by omega)
  have s1 : h1.get h.next = some (cellsP a b d e s u) := by rw [e1]; exact get_new_self _ (by omega)
  refine ⟨_, _, _, _, _, _, ald_agg ty24 rfl s1 rfl, window_ok (by omega) fun h9 x9 => ⟨_, _, rfl, fun g => absurd hc g, fun _ => ?_⟩⟩
  rw [if_pos hc, blk_int]
  exact hq h9 (x1.trans x9)

set_option maxRecDepth 100000 in
theorem refEnds_ok {a b d e : Int} {s u : Bool} {n : Nat} {h : H} {Q : V → H → Prop} (hc : chk a b d e = 0) (hn0 : n ≤ 1048576) (hn : h.next + 4 + 2 * pcs (blk b) n ≤ T.top)
    (hq : ∀ h' w xs, Ext h h' (4 + 2 * pcs (blk b) n) → Sl h' w 1 (pcs (blk b) n) xs → Q w h') : RF P ctx 56 [par a b d e s u, .int .i64 n] h Q := by
  refine RF.enterE ctx_ok fn56 (ble _ _ rfl) (ble _ _ rfl) (vb56 a b d e s u n h Q) ⟨by omega, ?_⟩
  rintro p h1 rfl e1
  have n1 : h1.next = h.next + 1 := by rw [e1, new_next]
  have x1 : Ext h h1 1 := by rw [e1]; exact Ext.new _ (by omega)
  have s1 : h1.get h.next = some (cellsP a b d e s u) := by rw [e1]; exact get_new_self _ (by omega)
  obtain ⟨c1', c2, c3, c4⟩ := chk_ok hc
  obtain ⟨b1, b2⟩ := blk_bnd c1'
  have hk := pcs_le (n := n) b1
  refine ⟨_, _, _, _, _, _, ald_agg ty24 rfl s1 rfl, refBlock_ok hc (by omega) fun h9 x9 => ⟨_, _, rfl, ?_⟩⟩
  have x0 := x1.trans x9
  refine loop_wp (fun k tm h' => ∃ i : Nat, i ≤ pcs (blk b) n ∧ k = pcs (blk b) n - i ∧ getV tm 8 = .int .i64 ((min n (i * blk b) : Nat) : Int) ∧ getV tm 1 = .int .i64 n ∧ getV tm 5 = .int .i64 (blk b) ∧
    ∃ w xs, getV tm 7 = w ∧ Ext h h' (4 + 2 * i) ∧ Ow h' w te3 i xs ∧ (∀ b, vblk w = some b → h.next ≤ b)) (pcs (blk b) n) ?_ ?_
  · exact ⟨0, by omega, by omega, by simp; kernel_rfl, by kernel_rfl, by kernel_rfl, .nilslice, [], by kernel_rfl, x0, Ow.nil _ _, fun b hb => (by cases hb)⟩
  rintro k tm h' ⟨i, i1, rfl, t8, t1, t5, w, xs, t7, xx, ow, vb⟩
  rw [tm4 rfl t8 t1 t5 t7]
  have hlt := pcs_lt (n := n) (i := i) (show 0 < blk b by omega)
  have step : i < pcs (blk b) n → ∀ k0, k0 = pcs (blk b) n - i → ∃ v4 h5, abuildSlice ctx 22 1 [(0, (.int .i64 (min (n : Int) (w64 (((min n (i * blk b) : Nat) : Int) + (blk b : Int))))))] h' = some (v4, h5) ∧ (True ∧ ∃ v6 h7, aappend ctx 22 h5 w v4 = some (v6, h7) ∧
      (∀ tmn, getV tmn 8 = .int .i64 (min (n : Int) (w64 (((min n (i * blk b) : Nat) : Int) + (blk b : Int)))) → getV tmn 1 = .int .i64 n → getV tmn 5 = .int .i64 (blk b) → getV tmn 7 = v6 →
        ∃ j, j < k0 ∧ ∃ i : Nat, i ≤ pcs (blk b) n ∧ j = pcs (blk b) n - i ∧ getV tmn 8 = .int .i64 ((min n (i * blk b) : Nat) : Int) ∧ getV tmn 1 = .int .i64 n ∧ getV tmn 5 = .int .i64 (blk b) ∧
          ∃ w xs, getV tmn 7 = w ∧ Ext h h7 (4 + 2 * i) ∧ Ow h7 w te3 i xs ∧ (∀ b, vblk w = some b → h.next ≤ b))) := by
    intro hi k0 ek
    have hz : min (n : Int) (w64 (((min n (i * blk b) : Nat) : Int) + (blk b : Int))) = ((min n ((i + 1) * blk b) : Nat) : Int) := by
      rw [w64_id (by omega) (by omega), Nat.succ_mul]
      have : i * blk b ≤ n := by rcases hlt.1 hi with rfl | q <;> omega
      omega
    rw [hz]
    obtain ⟨v4, h5, e5, v6, h7, e7, x7, ow7, vb7⟩ := push_ok (u := .int .i64 ((min n ((i + 1) * blk b) : Nat) : Int)) (ys := [.int .i64 ((min n ((i + 1) * blk b) : Nat) : Int)]) xx ow vb ty22 rfl te3_at rfl rfl rfl rfl (Nat.le_of_ble_eq_true rfl) rfl rfl (by show (i + 1) * 1 ≤ 262143; omega) (by show (i + 1) * 8 ≤ _; omega) (by omega)
    exact ⟨v4, h5, e5, trivial, v6, h7, e7, fun tmn q8 q1 q5 q7 => ⟨pcs (blk b) n - (i + 1), by omega, i + 1, by omega, rfl, q8, q1, q5, v6, _, q7, x7, ow7, vb7⟩⟩
  refine wpC.seal _ (vl56_0 _ _ _ _ _ _ _ _) ⟨fun c => ?_, fun c => ⟨_, ow.sl.len ty22 rfl, fun c0 => ?_, fun c0 tmz _ _ _ _ q7 => ?_⟩⟩
  · obtain ⟨v4, h5, e5, _, v6, h7, e7, hh⟩ := step (hlt.2 (by omega)) _ rfl
    exact ⟨v4, h5, e5, trivial, v6, h7, e7, fun tmn _ q8 q1 q5 q7 => ⟨rfl, rfl, hh tmn q8 q1 q5 q7⟩⟩
  · obtain ⟨v4, h5, e5, _, v6, h7, e7, hh⟩ := step (hlt.2 (by omega)) _ rfl
    exact ⟨v4, h5, e5, trivial, v6, h7, e7, fun tmn _ q8 q1 q5 q7 => ⟨rfl, rfl, hh tmn q8 q1 q5 q7⟩⟩
  · have hi : i = pcs (blk b) n := by
      rcases Nat.lt_or_ge i (pcs (blk b) n) with q | q
      · rcases hlt.1 q with q | q <;> omega
      · omega
    subst hi
    show wpC P ctx false r56_1 ⟨32, tmz, [], h'⟩ _
    rw [tm1 rfl q7]
    refine wpC.seal _ (vr56_1 _ _ _ _ _) fun tm2 q4 _ _ _ _ => ?_
    show Q (getV tm2 4) h'
    rw [q4]
    exact hq h' w xs xx ow.sl

end Go.Proofs.Ytbkafllejpbimaa

namespace Go.Proofs.Ytbkafllejpbimaa
open Go.Sim

theorem vd58_67 (tm : Tm) (p o : Nat) (y1 : List UInt8) (y2 : Int) (d : List AD) (h : H) (Q : AX → St → Prop) : wpQ Try.prog ctx false d58_0.toList 12 d58_0.toList ⟨36, (Tb.set (Tb.set (Tb.set (Tb.set tm 9 (.func (.func 67) [] [])) 8 (.ptr p o)) 1 (.str y1)) 2 (.int .i64 y2)), d, h⟩ (sealQ [6, 7, 10, 2, 1] Q) = (∃ (x0 : Int) (x1 : Int) (x2 : Int), ald ctx 87 h (.ptr p o) = some (.agg [(.int .i64 x0), (.int .i64 x1), (.int .i64 x2)]) ∧ ∃ (x3 : Int), ald ctx 3 h (.ptr p (o + 1)) = some (.int .i64 x3) ∧ ∃ (l4 : List UInt8), aslice ctx 9 h (.str y1) (some (.int .i64 y2)) (some (.int .i64 (min (Int.ofNat (List.length y1)) (w64 (y2 + x3))))) none = some (.str l4) ∧ (true = true ∧ RF Try.prog ctx 67 [(.agg [(.int .i64 x0), (.int .i64 x1), (.int .i64 x2)]), (.str l4)] h (fun v5 h6 => ∃ (x7 : Int), v5 = (.int .i64 x7) ∧ (∀ tm', getV tm' 6 = getV tm 6 → getV tm' 7 = getV tm 7 → getV tm' 10 = (.int .i64 x7) → getV tm' 2 = (.int .i64 y2) → getV tm' 1 = (.str y1) → Q .normal ⟨36, tm', d, h6⟩)))) := by kernel_rfl
theorem vd58_68 (tm : Tm) (p o : Nat) (y1 : List UInt8) (y2 : Int) (d : List AD) (h : H) (Q : AX → St → Prop) : wpQ Try.prog ctx false d58_0.toList 12 d58_0.toList ⟨36, (Tb.set (Tb.set (Tb.set (Tb.set tm 9 (.func (.func 68) [] [])) 8 (.ptr p o)) 1 (.str y1)) 2 (.int .i64 y2)), d, h⟩ (sealQ [6, 7, 10, 2, 1] Q) = (∃ (x0 : Int) (x1 : Int) (x2 : Int), ald ctx 87 h (.ptr p o) = some (.agg [(.int .i64 x0), (.int .i64 x1), (.int .i64 x2)]) ∧ ∃ (x3 : Int), ald ctx 3 h (.ptr p (o + 1)) = some (.int .i64 x3) ∧ ∃ (l4 : List UInt8), aslice ctx 9 h (.str y1) (some (.int .i64 y2)) (some (.int .i64 (min (Int.ofNat (List.length y1)) (w64 (y2 + x3))))) none = some (.str l4) ∧ (true = true ∧ RF Try.prog ctx 68 [(.agg [(.int .i64 x0), (.int .i64 x1), (.int .i64 x2)]), (.str l4)] h (fun v5 h6 => ∃ (x7 : Int), v5 = (.int .i64 x7) ∧ (∀ tm', getV tm' 6 = getV tm 6 → getV tm' 7 = getV tm 7 → getV tm' 10 = (.int .i64 x7) → getV tm' 2 = (.int .i64 y2) → getV tm' 1 = (.str y1) → Q .normal ⟨36, tm', d, h6⟩)))) := by kernel_rfl
theorem vb70 (a0 : List UInt8) (h : H) (Q : V → H → Prop) : wpC Try.prog ctx false b70 ⟨17, setArgs [(.str a0)] 0 (Tb.leaf undefV), [], h⟩ (endW ctx ⟨17, [.tmp 2, .tmp 3], b70⟩ Q) = ((((Int.ofNat (List.length a0)) < (16 : Int) → Q (.tuple [(.int .u64 (0 : Int)), (.int .i64 (5 : Int))]) h) ∧ (¬((Int.ofNat (List.length a0)) < (16 : Int)) → (((16 : Int) < (Int.ofNat (List.length a0)) → Q (.tuple [(.int .u64 (0 : Int)), (.int .i64 (4 : Int))]) h) ∧ (¬((16 : Int) < (Int.ofNat (List.length a0))) → wpConv ctx 9 69 h (.str a0) (fun v1 h0 => ∃ v2 h3, aop ctx ⟨some 14, .sliceToArrayPointer 101 (t 13), 0, "", #[], none⟩ (fun _ => some v1) h0 = some (.val v2 h3) ∧ ∃ (z0 : Int) (z1 : Int) (z2 : Int) (z3 : Int) (z4 : Int) (z5 : Int) (z6 : Int) (z7 : Int) (z8 : Int) (z9 : Int) (z10 : Int) (z11 : Int) (z12 : Int) (z13 : Int) (z14 : Int) (z15 : Int), ald ctx 101 h3 v2 = some (.agg [(.int .u8 z0), (.int .u8 z1), (.int .u8 z2), (.int .u8 z3), (.int .u8 z4), (.int .u8 z5), (.int .u8 z6), (.int .u8 z7), (.int .u8 z8), (.int .u8 z9), (.int .u8 z10), (.int .u8 z11), (.int .u8 z12), (.int .u8 z13), (.int .u8 z14), (.int .u8 z15)]) ∧ RF Try.prog ctx 73 [(.agg [(.int .u8 z0), (.int .u8 z1), (.int .u8 z2), (.int .u8 z3), (.int .u8 z4), (.int .u8 z5), (.int .u8 z6), (.int .u8 z7), (.int .u8 z8), (.int .u8 z9), (.int .u8 z10), (.int .u8 z11), (.int .u8 z12), (.int .u8 z13), (.int .u8 z14), (.int .u8 z15)])] h3 (fun v4 h5 => ∃ (x6 : Int), v4 = (.int .u64 x6) ∧ Q (.tuple [(.int .u64 x6), (.int .i64 (0 : Int))]) h5))))))) := by kernel_rfl

end Go.Proofs.Ytbkafllejpbimaa

namespace Go.Proofs.Ytbkafllejpbimaa
open Go.Sim

theorem power_ok {h : H} {Q : V → H → Prop} (hq : ∀ x, Q (.int .u64 x) h) : RF P ctx 74 [] h Q := by
  refine RF.enterE ctx_ok fn74 (ble _ _ rfl) (ble _ _ rfl) (vb74 h Q) ?_
  refine loop_wp (fun k tm h' => ∃ i : Nat, i ≤ 15 ∧ k = 15 - i ∧ h' = h ∧ getV tm 2 = .int .i64 i ∧ ∃ x, getV tm 1 = .int .u64 x) 15 ?_ ?_
  · exact ⟨0, by omega, by omega, rfl, by kernel_rfl, 1, by kernel_rfl⟩
  · rintro k tm h' ⟨i, h2, rfl, rfl, t2, x, t1⟩
    rw [tm2 rfl t2 t1]
    refine wpC.seal _ (vl74_0 _ _ _ _ _ _) ⟨fun h3 tmn _ q2 q1 => ⟨rfl, rfl, 15 - (i + 1), by omega, i + 1, by omega, rfl, rfl, ?_, _, q1⟩, fun h3 tmz _ _ q1 => ?_⟩
    · rw [q2, w64_id (by omega) (by omega)]; rfl
    · show wpC P ctx false r74_1 ⟨8, tmz, [], h'⟩ _
      rw [tm1 rfl q1]
      refine wpC.seal _ (vr74_1 _ _ _ _ _) fun tmn q0 _ _ => ?_
      show Q (getV tmn 0) h'
      rw [q0]; exact hq _

theorem roll_ok {a b d : Int} {h : H} {Q : V → H → Prop} (hq : ∀ x, Q (.int .u64 x) h) : RF P ctx 71 [.int .u64 a, .int .u8 b, .int .u8 d] h Q := by
  exact RF.enterE ctx_ok fn71 (ble _ _ rfl) (ble _ _ rfl) (vb71 a b d h Q) (power_ok fun x => ⟨_, rfl, hq _⟩)

theorem shr_any {k : IntKind} {x n : Int} (h : 0 ≤ n) : ∃ r, intB .shr k x n = some (.int k r) := by
  refine ⟨shrF x (cond (Nat.ble n.toNat k.bits) n.toNat k.bits), ?_⟩
  show cond (ltF n 0) none _ = _
  rw [ltF_eq]
  have h3 : decide (n < 0) = false := by simp; omega
  rw [h3, cond_false]

theorem hits_ok {a n : Int} {h : H} {Q : V → H → Prop} (h1 : 1 ≤ n) (h2 : n ≤ 32) (hq : ∀ b, Q (.bool b) h) : RF P ctx 75 [.int .u64 a, .int .i64 n] h Q := by
  refine RF.enterE ctx_ok fn75 (ble _ _ rfl) (ble _ _ rfl) (vb75 a n h Q) ⟨_, rfl, ?_⟩
  have hw : wrapF .u64 (w64 (64 - n)) = 64 - n := by
    rw [w64_id (by omega) (by omega)]
    obtain ⟨m, hm⟩ : ∃ m : Nat, 64 - n = m := ⟨(64 - n).toNat, by omega⟩
    rw [hm, wrap_u64 (by omega)]
  rw [hw]
  obtain ⟨r, hr⟩ := shr_any (k := .u64) (x := IntKind.u64.wrap (BitVec.ofInt IntKind.u64.bits (IntKind.u64.max) ^^^ BitVec.ofInt IntKind.u64.bits a).toNat) (n := 64 - n) (by omega)
  exact ⟨r, hr, fun _ => hq _, fun _ => hq _⟩

theorem hitsE_ok {a n : Int} {h : H} {Q : V → H → Prop} (hq : ∀ b e, Q (.tuple [.bool b, .int .i64 e]) h) : RF P ctx 72 [.int .u64 a, .int .i64 n] h Q := by
  refine RF.enterE ctx_ok fn72 (ble _ _ rfl) (ble _ _ rfl) (vb72 a n h Q) ⟨fun _ => hq _ _, fun c1 => ⟨fun _ => hq _ _, fun c2 => ?_⟩⟩
  exact hits_ok (by omega) (by omega) fun b => ⟨b, rfl, fun _ => hq _ _, fun _ => hq _ _⟩

end Go.Proofs.Ytbkafllejpbimaa

namespace Go.Proofs.Ytbkafllejpbimaa
open Go.Sim

theorem idx16 (z0 z1 z2 z3 z4 z5 z6 z7 z8 z9 z10 z11 z12 z13 z14 z15 : Int) : ∀ i : Nat, i < 16 → ∃ x, aindex ctx 101 (.agg [.int .u8 z0, .int .u8 z1, .int .u8 z2, .int .u8 z3, .int .u8 z4, .int .u8 z5, .int .u8 z6, .int .u8 z7, .int .u8 z8, .int .u8 z9, .int .u8 z10, .int .u8 z11, .int .u8 z12, .int .u8 z13, .int .u8 z14, .int .u8 z15]) (.int .i64 (i : Int)) = some (.int .u8 x)
  | 0, _ => ⟨z0, by kernel_rfl⟩
  | 1, _ => ⟨z1, by kernel_rfl⟩
  | 2, _ => ⟨z2, by kernel_rfl⟩
  | 3, _ => ⟨z3, by kernel_rfl⟩
  | 4, _ => ⟨z4, by kernel_rfl⟩
  | 5, _ => ⟨z5, by kernel_rfl⟩
  | 6, _ => ⟨z6, by kernel_rfl⟩
  | 7, _ => ⟨z7, by kernel_rfl⟩
  | 8, _ => ⟨z8, by kernel_rfl⟩
  | 9, _ => ⟨z9, by kernel_rfl⟩
  | 10, _ => ⟨z10, by kernel_rfl⟩
  | 11, _ => ⟨z11, by kernel_rfl⟩
  | 12, _ => ⟨z12, by kernel_rfl⟩
  | 13, _ => ⟨z13, by kernel_rfl⟩
  | 14, _ => ⟨z14, by kernel_rfl⟩
  | 15, _ => ⟨z15, by kernel_rfl⟩
  | n + 16, h => absurd h (by omega)

set_option maxRecDepth 100000 in
theorem hash_ok {z0 z1 z2 z3 z4 z5 z6 z7 z8 z9 z10 z11 z12 z13 z14 z15 : Int} {h : H} {Q : V → H → Prop} (hq : ∀ x, Q (.int .u64 x) h) : RF P ctx 73 [(.agg [.int .u8 z0, .int .u8 z1, .int .u8 z2, .int .u8 z3, .int .u8 z4, .int .u8 z5, .int .u8 z6, .int .u8 z7, .int .u8 z8, .int .u8 z9, .int .u8 z10, .int .u8 z11, .int .u8 z12, .int .u8 z13, .int .u8 z14, .int .u8 z15])] h Q := by
  refine RF.plain ?_ (fun a ha => by
    rcases List.mem_singleton.1 ha with rfl
    refine plain_agg fun x hx => ?_
    simp only [List.mem_cons, List.not_mem_nil, or_false] at hx
    rcases hx with rfl | rfl | rfl | rfl | rfl | rfl | rfl | rfl | rfl | rfl | rfl | rfl | rfl | rfl | rfl | rfl <;> exact plain_int _ _)
  refine RF.enterE ctx_ok fn73 (ble _ _ rfl) (ble _ _ rfl) (vb73 _ _ _ _ _ _ _ _ _ _ _ _ _ _ _ _ _ _) ⟨by decide, ?_⟩
  rintro p0 h1 rfl rfl
  have hg := get_new_self (h := H0) (.cells (.ls [.int .u8 z0, .int .u8 z1, .int .u8 z2, .int .u8 z3, .int .u8 z4, .int .u8 z5, .int .u8 z6, .int .u8 z7, .int .u8 z8, .int .u8 z9, .int .u8 z10, .int .u8 z11, .int .u8 z12, .int .u8 z13, .int .u8 z14, .int .u8 z15]) ⟨0, 102, 0⟩ true false) (by decide)
  refine ⟨_, _, _, _, _, _, _, _, _, _, _, _, _, _, _, _, ald_agg ty101 rfl hg rfl, ?_⟩
  refine loop_wp (fun k tm h' => ∃ i : Nat, i ≤ 16 ∧ k = 16 - i ∧ getV tm 6 = .int .i64 i ∧ getV tm 5 = (.agg [.int .u8 z0, .int .u8 z1, .int .u8 z2, .int .u8 z3, .int .u8 z4, .int .u8 z5, .int .u8 z6, .int .u8 z7, .int .u8 z8, .int .u8 z9, .int .u8 z10, .int .u8 z11, .int .u8 z12, .int .u8 z13, .int .u8 z14, .int .u8 z15]) ∧ ∃ x, getV tm 2 = .int .u64 x) 16 ?_ ?_
  · exact ⟨0, by omega, by omega, by kernel_rfl, by kernel_rfl, 0, by kernel_rfl⟩
  · rintro k tm h' ⟨i, h2, rfl, t6, t5, x, t2⟩
    rw [tm3 rfl t6 t5 t2]
    refine wpC.seal _ (vl73_0 _ _ _ _ _ _ _ _ _ _ _ _ _ _ _ _ _ _ _ _ _ _) ⟨fun h3 => ?_, fun h3 tmz q2 _ _ => ?_⟩
    · obtain ⟨y, hy⟩ := idx16 z0 z1 z2 z3 z4 z5 z6 z7 z8 z9 z10 z11 z12 z13 z14 z15 i (by omega)
      refine ⟨y, hy, fun tmn q2 q6 q5 => ⟨rfl, rfl, 16 - (i + 1), by omega, i + 1, by omega, rfl, ?_, q5, _, q2⟩⟩
      rw [q6, w64_id (by omega) (by omega)]; rfl
    · show wpC P ctx false r73_1 ⟨17, tmz, [], h'⟩ _
      rw [tm1 rfl q2]
      refine wpC.seal _ (vr73_1 _ _ _ _ _) fun tmn q2 _ _ => ?_
      show Plain (getV tmn 2) ∧ Q (getV tmn 2) h
      rw [q2]; exact ⟨plain_int _ _, hq _⟩

theorem sixteen {l : List UInt8} (h : l.length = 16) : ∃ b0 b1 b2 b3 b4 b5 b6 b7 b8 b9 b10 b11 b12 b13 b14 b15, l = [b0, b1, b2, b3, b4, b5, b6, b7, b8, b9, b10, b11, b12, b13, b14, b15] := by
  match l, h with
  | [b0, b1, b2, b3, b4, b5, b6, b7, b8, b9, b10, b11, b12, b13, b14, b15], _ => exact ⟨_, _, _, _, _, _, _, _, _, _, _, _, _, _, _, _, rfl⟩

set_option maxRecDepth 100000 in
theorem of70_ok {l : List UInt8} {h : H} {Q : V → H → Prop} (hq : ∀ x e, Q (.tuple [.int .u64 x, .int .i64 e]) h) : RF P ctx 70 [.str l] h Q := by
  have hp : ∀ x e, Plain (.tuple [.int .u64 x, .int .i64 e]) ∧ Q (.tuple [.int .u64 x, .int .i64 e]) h := fun x e => ⟨plain_tuple fun y hy => by
    simp only [List.mem_cons, List.not_mem_nil, or_false] at hy
    rcases hy with rfl | rfl <;> exact plain_int _ _, hq x e⟩
  refine RF.plain ?_ (fun a ha => by rcases List.mem_singleton.1 ha with rfl; exact plain_str _)
  refine RF.enterE ctx_ok fn70 (ble _ _ rfl) (ble _ _ rfl) (vb70 l _ _) ⟨fun _ => hp _ _, fun c1 => ⟨fun _ => hp _ _, fun c2 => ?_⟩⟩
  have c1 : ¬ ((l.length : Nat) : Int) < 16 := c1
  have c2 : ¬ (16 : Int) < ((l.length : Nat) : Int) := c2
  obtain ⟨b0, b1, b2, b3, b4, b5, b6, b7, b8, b9, b10, b11, b12, b13, b14, b15, rfl⟩ := sixteen (l := l) (by omega)
  refine ⟨.slice 0 0 16 (.skip 0), (match aconv ctx 9 69 H0 (.str [b0, b1, b2, b3, b4, b5, b6, b7, b8, b9, b10, b11, b12, b13, b14, b15]) with | some (_, h) => h | none => H0), by kernel_rfl, .ptr 0 0, (match aconv ctx 9 69 H0 (.str [b0, b1, b2, b3, b4, b5, b6, b7, b8, b9, b10, b11, b12, b13, b14, b15]) with | some (_, h) => h | none => H0), by kernel_rfl, ((b0.toNat : Nat) : Int), ((b1.toNat : Nat) : Int), ((b2.toNat : Nat) : Int), ((b3.toNat : Nat) : Int), ((b4.toNat : Nat) : Int), ((b5.toNat : Nat) : Int), ((b6.toNat : Nat) : Int), ((b7.toNat : Nat) : Int), ((b8.toNat : Nat) : Int), ((b9.toNat : Nat) : Int), ((b10.toNat : Nat) : Int), ((b11.toNat : Nat) : Int), ((b12.toNat : Nat) : Int), ((b13.toNat : Nat) : Int), ((b14.toNat : Nat) : Int), ((b15.toNat : Nat) : Int), by kernel_rfl, ?_⟩
  exact hash_ok fun x => ⟨_, rfl, hp _ _⟩

set_option maxRecDepth 100000 in
theorem high_ok {a : Int} {h : H} {Q : V → H → Prop} (hq : ∀ x, Q (.int .i64 x) h) : RF P ctx 69 [.int .i64 a] h Q := by
  refine RF.enterE ctx_ok fn69 (ble _ _ rfl) (ble _ _ rfl) (vb69 a h Q) ?_
  refine loop_wp (fun k tm h' => ∃ i : Nat, i ≤ 63 ∧ k = 63 - i ∧ h' = h ∧ getV tm 5 = .int .i64 i ∧ getV tm 0 = .int .i64 a ∧ ∃ x, getV tm 3 = .int .i64 x) 63 ?_ ?_
  · exact ⟨0, by omega, by omega, rfl, by kernel_rfl, by kernel_rfl, -1, by kernel_rfl⟩
  · rintro k tm h' ⟨i, h2, rfl, rfl, t5, t0, x, t3⟩
    have t3' : getV (Tb.set (Tb.set tm 5 (.int .i64 i)) 0 (.int .i64 a)) 3 = .int .i64 x := by rw [← tm2 rfl t5 t0]; exact t3
    rw [tm2 rfl t5 t0]
    refine wpC.seal _ (vl69_0 _ _ _ _ _ _) ⟨fun h3 => ?_, fun h3 tmz _ _ _ q3 => ?_⟩
    · obtain ⟨r, hr⟩ := shr_any (k := .i64) (x := a) (n := i) (by omega)
      refine ⟨r, hr, fun _ tmn _ q5 q0 q3 => ⟨rfl, rfl, 63 - (i + 1), by omega, i + 1, by omega, rfl, rfl, ?_, q0, _, q3⟩, fun _ tmn _ q5 q0 q3 => ⟨rfl, rfl, 63 - (i + 1), by omega, i + 1, by omega, rfl, rfl, ?_, q0, x, q3.trans t3'⟩⟩
      · rw [q5, w64_id (by omega) (by omega)]; rfl
      · rw [q5, w64_id (by omega) (by omega)]; rfl
    · show wpC P ctx false r69_1 ⟨15, tmz, [], h'⟩ _
      rw [tm1 rfl (q3.trans t3')]
      refine wpC.seal _ (vr69_1 _ _ _ _ _) fun tmn q2 _ _ _ => ?_
      show Q (getV tmn 2) h'
      rw [q2]; exact hq _

theorem plainZ (a b d : Int) (l : List UInt8) : ∀ x ∈ ([.agg (job a b d), .str l] : List V), Plain x := fun x hx => by
  simp only [List.mem_cons, List.not_mem_nil, or_false] at hx
  rcases hx with rfl | rfl
  · refine plain_agg fun y hy => ?_
    simp only [job, List.mem_cons, List.not_mem_nil, or_false] at hy
    rcases hy with rfl | rfl | rfl <;> exact plain_int _ _
  · exact plain_str _

set_option maxRecDepth 100000 in
theorem full_ok {a b d : Int} {l : List UInt8} {h : H} {Q : V → H → Prop} (h1 : b ≤ l.length → Q (.int .i64 b) h) (h2 : Q (.int .i64 0) h) : RF P ctx 67 [.agg (job a b d), .str l] h Q := by
  refine RF.plain ?_ (plainZ _ _ _ _)
  refine RF.enterE ctx_ok fn67 (ble _ _ rfl) (ble _ _ rfl) (vb67 a b d l _ _) ⟨by decide, ?_⟩
  rintro p0 hh rfl rfl
  have hg := get_new_self (h := H0) (.cells (.ls (job a b d)) ⟨0, 88, 0⟩ true false) (by decide)
  exact ⟨b, ald_one ty3 rfl hg rfl, fun c => ⟨b, ald_one ty3 rfl hg rfl, plain_int _ _, h1 c⟩, fun _ => ⟨plain_int _ _, h2⟩⟩

end Go.Proofs.Ytbkafllejpbimaa

namespace Go.Proofs.Ytbkafllejpbimaa
open Go.Sim

theorem byteAt_some : ∀ (l : List UInt8) (i : Nat), i < l.length → ∃ b, byteAt l i = some b
  | [], i, h => absurd h (by simp)
  | b :: _, 0, _ => ⟨b, rfl⟩
  | _ :: l, i + 1, h => by
    obtain ⟨b, hb⟩ := byteAt_some l i (by simp at h; omega)
    exact ⟨b, hb⟩

theorem index_str {l : List UInt8} {i : Nat} (h : i < l.length) : ∃ x, aindex ctx 9 (.str l) (.int .i64 (i : Int)) = some (.int .u8 x) := by
  obtain ⟨b, hb⟩ := byteAt_some l i h
  refine ⟨((b.toNat : Nat) : Int), ?_⟩
  unfold aindex
  have e1 : asNatI (i : Int) = some i := rfl
  simp only [e1, ty9, hb]
  rfl

/-- A string's head. -/
theorem slice_head {s : List UInt8} {y : Int} {h : H} (h0 : 0 ≤ y) (h2 : y ≤ s.length) :
    aslice ctx 9 h (.str s) none (some (.int .i64 y)) none = some (.str (sliceS s 0 y.toNat)) := by
  obtain ⟨n, rfl⟩ : ∃ n : Nat, y = n := ⟨y.toNat, by omega⟩
  unfold aslice
  have e2 : asNatI (n : Int) = some n := rfl
  have e3 : lenB s 0 = s.length := by rw [lenB_eq]; omega
  simp only [ty9, Go.Sim.bnd, e2, e3]
  rw [Nat.ble_eq_true_of_le (show n ≤ s.length by omega), cond_true]
  rfl

set_option maxRecDepth 100000 in
theorem content_ok {a b d : Int} {l : List UInt8} {h : H} {Q : V → H → Prop} (hlen : l.length ≤ 1000000) (hq : ∀ n : Nat, n ≤ l.length → Q (.int .i64 n) h) : RF P ctx 68 [.agg (job a b d), .str l] h Q := by
  refine RF.plain ?_ (plainZ _ _ _ _)
  have hq : ∀ n : Nat, n ≤ l.length → Plain (.int .i64 n) ∧ Q (.int .i64 n) h := fun n hn => ⟨plain_int _ _, hq n hn⟩
  refine RF.enterE ctx_ok fn68 (ble _ _ rfl) (ble _ _ rfl) (vb68 a b d l _ _) ⟨by decide, ?_⟩
  rintro p0 h1 rfl e1
  have hg : h1.get H0.next = some (.cells (.ls (job a b d)) ⟨0, 88, 0⟩ true false) := by rw [e1]; exact get_new_self (h := H0) _ (by decide)
  have hn : h1.next ≤ T.top ∧ h1.low ≤ T.top := by rw [e1]; exact ⟨by rw [new_next]; decide, Nat.le_refl _⟩
  clear e1
  refine loop_wp (fun k tm h' => ∃ i : Nat, i ≤ l.length ∧ k = l.length - i ∧ h' = h1 ∧ getV tm 6 = .int .i64 i ∧ getV tm 1 = .str l ∧ getV tm 2 = .ptr H0.next 0 ∧ ∃ x, getV tm 5 = .int .u64 x) l.length ?_ ?_
  · exact ⟨0, by omega, by omega, rfl, by kernel_rfl, by kernel_rfl, by kernel_rfl, 0, by kernel_rfl⟩
  rintro k tm h' ⟨i, h2, rfl, rfl, t6, t1, t2, x, t5⟩
  rw [tm4 rfl t6 t1 t2 t5]
  have hi1 : w64 ((i : Int) + 1) = ((i + 1 : Nat) : Int) := by rw [w64_id (by omega) (by omega)]; rfl
  refine wpC.seal _ (vl68_0 _ _ _ _ _ _ _ _) ?_
  rw [hi1]
  have go : ∀ (tmn : Tm) (h5 : H), i < l.length → h5 = h' → getV tmn 6 = .int .i64 ((i + 1 : Nat) : Int) → getV tmn 1 = .str l → getV tmn 2 = .ptr H0.next 0 → (∃ x, getV tmn 5 = .int .u64 x) →
      ∃ j, j < l.length - i ∧ ∃ m : Nat, m ≤ l.length ∧ j = l.length - m ∧ h5 = h' ∧ getV tmn 6 = .int .i64 m ∧ getV tmn 1 = .str l ∧ getV tmn 2 = .ptr H0.next 0 ∧ ∃ x, getV tmn 5 = .int .u64 x :=
    fun tmn h5 hi hh q6 q1 q2 q5 => ⟨l.length - (i + 1), by omega, i + 1, by omega, rfl, hh, q6, q1, q2, q5⟩
  have ret : ∀ (tmn : Tm), i < l.length → getV tmn 4 = .int .i64 ((i + 1 : Nat) : Int) → Plain (getV tmn 4) ∧ Q (getV tmn 4) h := fun tmn hi q4 => by rw [q4]; exact hq (i + 1) (by omega)
  refine ⟨fun c => ?_, fun c tmz _ _ _ _ _ => ?_⟩
  · have hi : i < l.length := by have : (i : Int) < ((l.length : Nat) : Int) := c; omega
    refine ⟨fun _ tmn _ q6 q1 q2 q5 => ⟨rfl, rfl, go tmn _ hi rfl q6 q1 q2 ⟨_, q5⟩⟩, fun c16 => ⟨fun c1 => ?_, fun c1 => ?_⟩⟩
    · refine ⟨_, slice_head (by omega) (by omega), of70_ok fun y e => ⟨_, _, rfl, ?_⟩⟩
      refine ⟨a, ald_one ty3 rfl hg rfl, fun _ tmn _ q6 q1 q2 q5 => ⟨rfl, rfl, go tmn _ hi rfl q6 q1 q2 ⟨_, q5⟩⟩, fun _ => ?_⟩
      refine ⟨d, ald_one ty3 rfl hg rfl, hitsE_ok fun bb e => ⟨_, _, rfl, fun _ tmn q4 _ _ _ _ => ret tmn hi q4, fun _ => ?_⟩⟩
      exact ⟨b, ald_one ty3 rfl hg rfl, fun _ tmn q4 _ _ _ _ => ret tmn hi q4, fun _ tmn _ q6 q1 q2 q5 => ⟨rfl, rfl, go tmn _ hi rfl q6 q1 q2 ⟨_, q5⟩⟩⟩
    · have hw1 : w64 (w64 (((i + 1 : Nat) : Int) - 16) - 1) = ((i - 16 : Nat) : Int) := by rw [w64_id (n := ((i + 1 : Nat) : Int) - 16) (by omega) (by omega), w64_id (by omega) (by omega)]; omega
      have hw2 : w64 (((i + 1 : Nat) : Int) - 1) = (i : Int) := by rw [w64_id (by omega) (by omega)]; omega
      rw [hw1, hw2]
      obtain ⟨x1, hx1⟩ := index_str (l := l) (i := i - 16) (by omega)
      obtain ⟨x2, hx2⟩ := index_str (l := l) (i := i) hi
      refine ⟨hn, x1, hx1, x2, hx2, roll_ok fun y => ⟨_, rfl, ?_⟩⟩
      refine ⟨a, ald_one ty3 rfl hg rfl, fun _ tmn _ q6 q1 q2 q5 => ⟨rfl, rfl, go tmn _ hi rfl q6 q1 q2 ⟨_, q5⟩⟩, fun _ => ?_⟩
      refine ⟨d, ald_one ty3 rfl hg rfl, hitsE_ok fun bb e => ⟨_, _, rfl, fun _ tmn q4 _ _ _ _ => ret tmn hi q4, fun _ => ?_⟩⟩
      exact ⟨b, ald_one ty3 rfl hg rfl, fun _ tmn q4 _ _ _ _ => ret tmn hi q4, fun _ tmn _ q6 q1 q2 q5 => ⟨rfl, rfl, go tmn _ hi rfl q6 q1 q2 ⟨_, q5⟩⟩⟩
  · show wpC P ctx false r68_1 ⟨58, tmz, [], h'⟩ _
    refine wpC.seal _ (vr68_1 _ _ _ _) fun tmn q4 _ _ _ _ => ?_
    show Plain (getV tmn 4) ∧ Q (getV tmn 4) h
    rw [q4]; exact hq 0 (by omega)

end Go.Proofs.Ytbkafllejpbimaa

namespace Go.Proofs.Ytbkafllejpbimaa
open Go.Sim

theorem high_ex (a : Int) : ∃ x : Int, (∃ fi, ctx.fn.get 69 = some fi) ∧ ∀ h, SimF P 69 [.int .i64 a] h (.ret (.int .i64 x) h) := by
  have r : RF P ctx 69 [.int .i64 a] H0 fun v _ => ∃ x, v = .int .i64 x := high_ok fun x => ⟨x, rfl⟩
  obtain ⟨v, h', ⟨hf, s⟩, x, rfl⟩ := r
  exact ⟨x, hf, fun h => s.plain (fun a ha => by rcases List.mem_singleton.1 ha with rfl; exact plain_int _ _) (plain_int _ _)⟩

noncomputable def highI (a : Int) : Int := Classical.choose (high_ex a)

/-- What is known of the highest bit. -/
noncomputable def orcH : Nat → List V → H → Option (V × H)
  | f, [.int .i64 a], h => cond (Nat.beq f 69) (some (.int .i64 (highI a), h)) none
  | _, _, _ => none

theorem orcH_ok : OrcOk P ctx orcH := by
  intro f args h v h' e
  unfold orcH at e
  split at e
  · rename_i a
    cases hb : Nat.beq f 69 with
    | false => rw [hb] at e; cases e
    | true =>
      rw [hb, cond_true] at e
      obtain rfl := Nat.eq_of_beq_eq_true hb
      simp only [Option.some.injEq, Prod.mk.injEq] at e
      obtain ⟨rfl, rfl⟩ := e
      have := Classical.choose_spec (high_ex a)
      exact ⟨this.1, this.2 _⟩
  · cases e

/-- A job's sizes, and the function that finds its end. -/
def outZ : Option CallOut → Option (Int × Int × Int × Nat)
  | some (.ret (.tuple [.agg [.int .i64 a, .int .i64 b, .int .i64 c], .func (.func g) [] []]) _) => some (a, b, c, g)
  | _ => none

theorem outZ_iff {r : Option CallOut} {a b c : Int} {g : Nat} (h : outZ r = some (a, b, c, g)) : ∃ h', r = some (.ret (.tuple [.agg (job a b c), .func (.func g) [] []]) h') := by
  unfold outZ at h
  split at h
  · rename_i h'
    simp only [Option.some.injEq, Prod.mk.injEq] at h
    obtain ⟨rfl, rfl, rfl, rfl⟩ := h
    exact ⟨h', rfl⟩
  · cases h

def fst3 (x : Option (Int × Int × Int × Nat)) : Int := match x with | some (a, _, _, _) => a | none => 0
def snd3 (x : Option (Int × Int × Int × Nat)) : Int := match x with | some (_, b, _, _) => b | none => 0
def thd3 (x : Option (Int × Int × Int × Nat)) : Int := match x with | some (_, _, c, _) => c | none => 0

set_option maxRecDepth 100000 in
theorem found_plain (a b d e : Int) (u : Bool) : outZ (run ctx orcH 200 65 [par a b d e false u] H0) = some (d, d, thd3 (outZ (run ctx orcH 200 65 [par a b d e false u] H0)), 67) := by kernel_rfl

set_option maxRecDepth 100000 in
theorem found_sync (a b d e : Int) (u : Bool) : outZ (run ctx orcH 200 65 [par a b d e true u] H0) = some (fst3 (outZ (run ctx orcH 200 65 [par a b d e true u] H0)), wrapF .i64 (wrapF .u64 (shlF (wrapF .u64 d) 2)), thd3 (outZ (run ctx orcH 200 65 [par a b d e true u] H0)), 68) := by kernel_rfl

theorem shl2 {d : Int} (h1 : 0 ≤ d) (h2 : d ≤ 2097152) : wrapF .i64 (wrapF .u64 (shlF (wrapF .u64 d) 2)) = 4 * d := by
  obtain ⟨n, rfl⟩ : ∃ n : Nat, d = n := ⟨d.toNat, by omega⟩
  rw [wrap_u64 (by omega), shlF_eq]
  have : (n : Int) * 2 ^ 2 = ((4 * n : Nat) : Int) := by omega
  rw [this, wrap_u64 (by omega)]
  show w64 _ = _
  rw [w64_id (by omega) (by omega)]; omega

theorem plain_func (g : Nat) : Plain (.func (.func g) [] []) :=
  ⟨fun ρ => by simp [V.conc, V.concL], fun D => by simp [V.In, V.InL]⟩

theorem plain_par (a b d e : Int) (s u : Bool) : Plain (par a b d e s u) := plain_agg fun q hq => by
  simp only [List.mem_cons, List.not_mem_nil, or_false] at hq
  rcases hq with rfl | rfl | rfl | rfl | rfl | rfl
  · exact plain_int _ _
  · exact plain_int _ _
  · exact plain_int _ _
  · exact plain_int _ _
  · exact plain_bool _
  · exact plain_bool _

theorem plain_job (a b d : Int) : Plain (.agg (job a b d)) := plain_agg fun y hy => by
  simp only [job, List.mem_cons, List.not_mem_nil, or_false] at hy
  rcases hy with rfl | rfl | rfl <;> exact plain_int _ _

theorem found_ok {a b d e : Int} {s u : Bool} {h : H} {Q : V → H → Prop} (h1 : 16 ≤ d) (h2 : d ≤ 2097152) (hq : ∀ l m k g, 1 ≤ m → m ≤ 8388608 → (g = 67 ∨ g = 68) → Q (.tuple [.agg (job l m k), .func (.func g) [] []]) h) : RF P ctx 65 [par a b d e s u] h Q := by
  refine RF.plain ?_ (fun a ha => by rcases List.mem_singleton.1 ha with rfl; exact plain_par _ _ _ _ _ _)
  have pl : ∀ l m k g, Plain (.tuple [.agg (job l m k), .func (.func g) [] []]) := fun l m k g => plain_tuple fun y hy => by
    simp only [List.mem_cons, List.not_mem_nil, or_false] at hy
    rcases hy with rfl | rfl
    · exact plain_job _ _ _
    · exact plain_func _
  have hf : ∃ fi, ctx.fn.get 65 = some fi := Option.isSome_iff_exists.1 (by kernel_rfl)
  cases s with
  | false =>
    obtain ⟨h', e⟩ := outZ_iff (found_plain a b d e u)
    exact ⟨_, h', ⟨hf, run_sound ctx_ok orcH_ok e⟩, pl _ _ _ _, hq _ _ _ _ (by omega) (by omega) (.inl rfl)⟩
  | true =>
    obtain ⟨h', e⟩ := outZ_iff (found_sync a b d e u)
    rw [shl2 (by omega) h2] at e
    exact ⟨_, h', ⟨hf, run_sound ctx_ok orcH_ok e⟩, pl _ _ _ _, hq _ _ _ _ (by omega) (by omega) (.inr rfl)⟩

theorem sliceS_len (s : List UInt8) (i j : Nat) : (sliceS s i j).length = min (j - i) (s.length - i) := by
  unfold sliceS; simp

theorem m58 : drawM d58_0.toList = 12 := by kernel_rfl
theorem t58 : drawTc ctx d58_0.toList = true := by kernel_rfl

set_option maxRecDepth 100000 in
/-- What comes behind the search for the end. -/
theorem after58 {str : List UInt8} {i : Nat} {x : Int} {tm : Tm} {h : H} {Q : V → H → Prop} (hl : str.length ≤ 1000000) (hi : i ≤ str.length) (hx : x ≤ (str.length - i : Nat)) (q10 : getV tm 10 = .int .i64 x) (q2 : getV tm 2 = .int .i64 i) (q1 : getV tm 1 = .str str)
    (hq : ∀ (n : Nat) bb h', i ≤ n → n ≤ str.length → (i < n ∨ n = str.length) → Q (.tuple [.int .i64 n, .bool bb]) h') :
    wpC P ctx false r58_1 ⟨36, tm, [], h⟩ (thenC (fun s1 => wpC P ctx false r58_2 s1 (endW ctx ⟨36, [.tmp 6, .tmp 7], b58⟩ Q)) (endW ctx ⟨36, [.tmp 6, .tmp 7], b58⟩ Q)) := by
  have q1' : getV (Tb.set (Tb.set tm 10 (.int .i64 x)) 2 (.int .i64 i)) 1 = .str str := by rw [← tm2 rfl q10 q2]; exact q1
  rw [tm2 rfl q10 q2]
  refine wpC.seal _ (vr58_1 _ _ _ _ _ _) ⟨fun c tmn q6 q7 _ _ _ => ?_, fun c tmn _ _ _ _ q1 => ?_⟩
  · show Q (.tuple [getV tmn 6, getV tmn 7]) h
    rw [q6, q7, w64_id (by omega) (by omega)]
    have : (i : Int) + x = ((i + x.toNat : Nat) : Int) := by omega
    rw [this]
    exact hq _ _ _ (by omega) (by omega) (by omega)
  · show wpC P ctx false r58_2 ⟨36, tmn, [], h⟩ _
    rw [tm1 rfl (q1.trans q1')]
    refine wpC.seal _ (vr58_2 _ _ _ _ _) fun tm2 q6 q7 _ _ _ => ?_
    show Q (.tuple [getV tm2 6, getV tm2 7]) h
    rw [q6, q7]
    exact hq str.length _ _ hi (Nat.le_refl _) (.inr rfl)

set_option maxRecDepth 100000 in
theorem next58_aux {a b d e : Int} {s u : Bool} {str : List UInt8} {i : Nat} {Q : V → H → Prop} (h1 : 16 ≤ d) (h2 : d ≤ 2097152) (hl : str.length ≤ 1000000) (hi : i ≤ str.length)
    (hq : ∀ (n : Nat) bb h', i ≤ n → n ≤ str.length → (i < n ∨ n = str.length) → Q (.tuple [.int .i64 n, .bool bb]) h') : RF P ctx 58 [par a b d e s u, .str str, .int .i64 i] H0 Q := by
  refine RF.enterE ctx_ok fn58 (ble _ _ rfl) (ble _ _ rfl) (vb58 a b d e s u str i H0 Q) ⟨by decide, ?_⟩
  rintro p0 hh rfl e1
  have n1 : hh.next = 1 := by rw [e1, new_next]; rfl
  have s1 : hh.get 0 = some (cellsP a b d e s u) := by rw [e1]; exact get_new_self (h := H0) _ (by decide)
  have lo1 : hh.low = T.top := by rw [e1]; rfl
  clear e1
  refine ⟨_, _, _, _, _, _, ald_agg ty24 rfl s1 rfl, found_ok h1 h2 fun l m k g m1 m2 hg => ⟨_, _, _, _, rfl, by rw [n1]; decide, ?_⟩⟩
  rintro p14 h15 rfl e15
  have n15 : h15.next = 2 := by rw [e15, new_next, n1]
  have s15 : h15.get hh.next = some (.cells (.ls (job 0 0 0)) ⟨0, 88, 0⟩ true false) := by rw [e15]; exact get_new_self _ (by rw [n1]; decide)
  have lo15 : h15.low = T.top := by rw [e15]; exact lo1
  obtain ⟨h16, e16, g16, n16, lo16⟩ : ∃ h16, ast ctx 87 h15 (.ptr hh.next 0) (.agg (job l m k)) = some h16 ∧ h16.get hh.next = some (.cells (.ls (job l m k)) ⟨0, 88, 0⟩ true false) ∧ h16.next = h15.next ∧ h16.low ≤ T.top :=
    ⟨_, ast_at ty87 s15 rfl (Nat.le_refl _) rfl rfl, get_upd_self _ (by rw [n1]; decide), rfl, by rw [H.low_upd, lo15]; exact Nat.min_le_left _ _⟩
  refine ⟨h16, e16, ?_⟩
  have hn16 : h16.next ≤ T.top := by rw [n16, n15]; decide
  suffices key : ∀ tm, getV tm 9 = .func (.func g) [] [] → getV tm 8 = .ptr hh.next 0 → getV tm 1 = .str str → getV tm 2 = .int .i64 i → wpDr P ctx false d58_0.toList ⟨36, tm, [], h16⟩ (thenC (fun s1 => wpC P ctx false r58_1 s1 (thenC (fun s1 => wpC P ctx false r58_2 s1 (endW ctx ⟨36, [.tmp 6, .tmp 7], b58⟩ Q)) (endW ctx ⟨36, [.tmp 6, .tmp 7], b58⟩ Q))) (thenC (fun s1 => wpC P ctx false r58_2 s1 (endW ctx ⟨36, [.tmp 6, .tmp 7], b58⟩ Q)) (endW ctx ⟨36, [.tmp 6, .tmp 7], b58⟩ Q))) from key _ (by kernel_rfl) (by kernel_rfl) (by kernel_rfl) (by kernel_rfl)
  intro tm t9 t8 t1 t2
  rw [tm4 rfl t9 t8 t1 t2]
  refine wpDr.mono (wpDr.of_tc (Q := sealQ [6, 7, 10, 2, 1] _) ctx_ok t58 hn16 lo16 ?_) (fun _ _ => sealQ_out)
  rw [m58]
  have hlen : ((str.length : Nat) : Int) = Int.ofNat str.length := rfl
  have hw : w64 ((i : Int) + m) = (i : Int) + m := w64_id (by omega) (by omega)
  obtain ⟨t, ht⟩ : ∃ t : Nat, min (Int.ofNat str.length) ((i : Int) + m) = t := ⟨(min (Int.ofNat str.length) ((i : Int) + m)).toNat, by omega⟩
  have hsl := slice_str (h := h16) (s := str) (x := i) (y := t) (by omega) (by omega) (by omega)
  have hle : (sliceS str (i : Int).toNat (t : Int).toNat).length ≤ str.length - i := by
    rw [sliceS_len]
    exact Nat.le_trans (Nat.min_le_right _ _) (by omega)
  have hle2 : (sliceS str (i : Int).toNat (t : Int).toNat).length ≤ 1000000 := by omega
  rcases hg with rfl | rfl
  · refine Eq.mpr (vd58_67 _ _ _ _ _ _ _ _) ⟨_, _, _, ald_agg ty87 rfl g16 rfl, m, ald_one ty3 rfl g16 rfl, _, by rw [hw, ht]; exact hsl, rfl, ?_⟩
    refine full_ok (fun c => ⟨_, rfl, fun tmn _ _ q10 q2 q1 => ?_⟩) ⟨_, rfl, fun tmn _ _ q10 q2 q1 => ?_⟩
    · exact after58 hl hi (by omega) q10 q2 q1 hq
    · exact after58 hl hi (by omega) q10 q2 q1 hq
  · refine Eq.mpr (vd58_68 _ _ _ _ _ _ _ _) ⟨_, _, _, ald_agg ty87 rfl g16 rfl, m, ald_one ty3 rfl g16 rfl, _, by rw [hw, ht]; exact hsl, rfl, ?_⟩
    exact content_ok hle2 fun n hn => ⟨_, rfl, fun tmn _ _ q10 q2 q1 => after58 hl hi (by omega) q10 q2 q1 hq⟩

theorem next58_ok {a b d e : Int} {s u : Bool} {str : List UInt8} {i : Nat} {h : H} {Q : V → H → Prop} (h1 : 16 ≤ d) (h2 : d ≤ 2097152) (hl : str.length ≤ 1000000) (hi : i ≤ str.length)
    (hq : ∀ (n : Nat) bb, i ≤ n → n ≤ str.length → (i < n ∨ n = str.length) → Q (.tuple [.int .i64 n, .bool bb]) h) : RF P ctx 58 [par a b d e s u, .str str, .int .i64 i] h Q := by
  refine RF.plain (next58_aux h1 h2 hl hi fun n bb _ q1 q2 q3 => ⟨plain_tuple fun y hy => ?_, hq n bb q1 q2 q3⟩) (fun a ha => ?_)
  · simp only [List.mem_cons, List.not_mem_nil, or_false] at hy
    rcases hy with rfl | rfl
    · exact plain_int _ _
    · exact plain_bool _
  · simp only [List.mem_cons, List.not_mem_nil, or_false] at ha
    rcases ha with rfl | rfl | rfl
    · exact plain_par _ _ _ _ _ _
    · exact plain_str _
    · exact plain_int _ _

end Go.Proofs.Ytbkafllejpbimaa

namespace Go.Proofs.Ytbkafllejpbimaa
open Go.Sim

set_option maxRecDepth 100000 in
theorem round38_ok {l out i d : Nat} {a z : Int} {tm : Tm} {w : V} {xs : List V} {h : H} {Q : V → H → Prop} (hg : h.get l = some (.loop .ready none 28 tm #[19, 20] a38_0 g38_1 d)) (ha : a ≠ 4096) (t7 : getV tm 7 = .ptr out 0)
    (go : h.get out = some (c1 23 w)) (ow : Ow h w te3 i xs) (hlo : l ≠ out) (hw : ∀ b, vblk w = some b → b ≠ l ∧ b ≠ out) (hl : l < h.next) (ho : out < h.next) (hi : i ≤ 4096) (hn : h.next + 2 ≤ T.top)
    (hq : ∀ h' w', ExtX (fun b => b = l ∨ b = out ∨ vblk w = some b) h h' 2 → h'.get l = some (.loop .ready none 28 tm #[19, 20] a38_0 g38_1 d) → h'.get out = some (c1 23 w') → Ow h' w' te3 (i + 1) (xs ++ [.int .i64 z]) → (∀ b, vblk w' = some b → h.next ≤ b) → Q (.bool true) h') :
    RR P l [.int .i64 a, .int .i64 z] h Q := by
  refine RR.intro (by omega) hg rfl (RC.of_wp ctx_ok a38_0 ?_)
  refine wpC.seal _ (va38_0 _ _ _ _ _ _) fun tma q4 q5 q19 q20 q8 q7 q9 => ?_
  have gl0 := hg
  have y0 : ExtX (fun b => b = l ∨ b = out ∨ vblk w = some b) h (h.upd l (some (.loop .busy none 28 tm #[19, 20] a38_0 g38_1 d))) 0 := (ExtX.of (Ext.refl h)).upd _ (by omega) (.inl (.inl rfl))
  refine ⟨rfl, _, _, _, _, _, _, _, gl0, RC.of_wp ctx_ok g38_1 ?_⟩
  have q7' : getV tma 7 = .ptr out 0 := by rw [q7]; exact Eq.trans (by kernel_rfl) t7
  rw [tm5 rfl q8 (rfl : getV tma 4 = getV tma 4) (rfl : getV tma 5 = getV tma 5) q7' q9]
  have gl3 : (h.upd l (some (.loop .busy none 28 tm #[19, 20] a38_0 g38_1 d))).get l = some (.loop .busy none 28 tm #[19, 20] a38_0 g38_1 d) := get_upd_self _ (by omega)
  have go3 : (h.upd l (some (.loop .busy none 28 tm #[19, 20] a38_0 g38_1 d))).get out = some (c1 23 w) := by rw [get_upd_ne _ (by omega) (fun g => hlo g.symm), go]
  have ow3 : Ow (h.upd l (some (.loop .busy none 28 tm #[19, 20] a38_0 g38_1 d))) w te3 i xs := ow.keep (Nat.le_refl _) fun b hb => get_upd_ne _ (by omega) (hw b hb).1
  have n3 : (h.upd l (some (.loop .busy none 28 tm #[19, 20] a38_0 g38_1 d))).next = h.next := rfl
  show wpC P ctx true (slim g38_1) ⟨28, _, [], h.upd l (some (.loop .busy none 28 tm #[19, 20] a38_0 g38_1 d))⟩ _
  generalize h.upd l (some (.loop .busy none 28 tm #[19, 20] a38_0 g38_1 d)) = h3 at *
  obtain ⟨v4, h5, e5, sl5, x5, vb5⟩ := buildSlice1 (c := ctx) (h := h3) (u := .int .i64 z) (ys := [.int .i64 z]) ty22 rfl te3_at rfl rfl rfl rfl (Nat.le_of_ble_eq_true rfl) rfl (by omega)
  obtain ⟨v6, h7, e7, ow7, l7, u7, g7, vb7, low7, lo7⟩ := (ow3.ext x5).append (c := ctx) sl5 (by omega) ty22 rfl te3_at rfl rfl (by show (i + 1) * 1 ≤ 262143; omega) (by show (i + 1) * 8 ≤ _; omega) (by have := x5.top; omega)
  have y5 := y0.trans (.of x5)
  have y7 : ExtX (fun b => b = l ∨ b = out ∨ vblk w = some b) h h7 2 := y5.trans (n := 1) ⟨l7, u7, fun b hb hs => g7 b hb fun q => hs (.inr (.inr q)), low7, fun m h1 _ h3 => lo7 m h1 fun b hb => h3 b (.inr (.inr hb))⟩
  have n5 := x5.top
  have m5 := x5.le
  have go7 : h7.get out = some (c1 23 w) := by rw [g7 _ (by omega) (fun q => (hw _ q).2 rfl), x5.get _ (by omega), go3]
  have gl7 : h7.get l = some (.loop .busy none 28 tm #[19, 20] a38_0 g38_1 d) := by rw [g7 _ (by omega) (fun q => (hw _ q).1 rfl), x5.get _ (by omega), gl3]
  have hone : v6.one = true := one_of_ow ow7
  have hcells : v6.cells = [v6] := by
    obtain ⟨_, ⟨rfl, _⟩ | ⟨b', cs, rfl, _⟩⟩ := ow7
    · rfl
    · rfl
  obtain ⟨h8, e8, y8, go8, gl8, ow8, n8⟩ : ∃ h8, ast ctx 22 h7 (.ptr out 0) v6 = some h8 ∧ ExtX (fun b => b = l ∨ b = out ∨ vblk w = some b) h h8 2 ∧ h8.get out = some (c1 23 v6) ∧ h8.get l = some (.loop .busy none 28 tm #[19, 20] a38_0 g38_1 d) ∧ Ow h8 v6 te3 (i + 1) (xs ++ [.int .i64 z]) ∧ h8.next = h7.next := by
    refine ⟨_, ast_at (cs' := .ls [v6]) ty22 go7 (by rw [hcells]; rfl) (Nat.le_refl _) (by rw [hcells]; simp [allOne, hone]) (by rw [hcells]; rfl), y7.upd _ (by omega) (.inl (.inr (.inl rfl))), get_upd_self _ (by omega), by rw [get_upd_ne _ (by omega) hlo, gl7], ?_, rfl⟩
    refine ow7.keep (Nat.le_refl _) fun b hb => get_upd_ne _ (by omega) ?_
    rw [vb7] at hb; cases hb; omega
  refine wpC.seal _ (vg38_1 _ _ _ _ _ _ _ _ _) ⟨fun c => absurd c ha, fun _ => ⟨w, ald_one ty22 rfl go3 rfl, v4, h5, e5, trivial, v6, h7, e7, h8, e8, fun tmb _ _ _ _ _ _ _ => ?_⟩⟩
  show (match roundEnd l .normal ⟨28, tmb, [], h8⟩ with | some (.ret v h') => Q v h' | _ => False)
  simp only [roundEnd, gl8]
  refine hq _ v6 (y8.upd _ (by omega) (.inl (.inl rfl))) (get_upd_self _ (by omega)) (by rw [get_upd_ne _ (by omega) (fun g => hlo g.symm), go8]) (ow8.keep (Nat.le_refl _) fun b hb => get_upd_ne _ (by omega) ?_) fun b hb => ?_
  · rw [vb7] at hb; cases hb; omega
  · rw [vb7] at hb; cases hb; omega


/-- Ends that do not fall, up to some number. -/
def Inc (es : List Int) (L : Int) : Prop := ∀ i, i < es.length → la es i ≤ es.getD i 0 ∧ es.getD i 0 ≤ L

theorem la_app (es : List Int) (z : Int) : ∀ i, i ≤ es.length → la (es ++ [z]) i = la es i
  | 0, _ => rfl
  | i + 1, h => by
    show (es ++ [z]).getD i 0 = es.getD i 0
    simp [List.getD, List.getElem?_append_left (show i < es.length by omega)]

theorem la_end (es : List Int) (z : Int) : la (es ++ [z]) (es ++ [z]).length = z := by
  rw [List.length_append]
  show (es ++ [z]).getD (es.length + 0) 0 = z
  simp [List.getD]

theorem Inc.app {es : List Int} {L z : Int} (h : Inc es L) (h1 : la es es.length ≤ z) (h2 : z ≤ L) : Inc (es ++ [z]) L := by
  intro i hi
  rw [List.length_append] at hi
  have hi : i ≤ es.length := by simp at hi; omega
  rw [la_app es z i hi]
  rcases Nat.lt_or_ge i es.length with q | q
  · have : (es ++ [z]).getD i 0 = es.getD i 0 := by simp [List.getD, List.getElem?_append_left q]
    rw [this]; exact h i q
  · obtain rfl : i = es.length := by omega
    have : (es ++ [z]).getD es.length 0 = z := by simp [List.getD]
    rw [this]; exact ⟨h1, h2⟩

theorem ints_app (es : List Int) (z : Int) : ints (es ++ [z]) = ints es ++ [.int .i64 z] := by simp [ints]

set_option maxRecDepth 100000 in
theorem iter57_ok {l out ps pp d : Nat} {a b dd e : Int} {s u : Bool} {str : List UInt8} {tm : Tm} {h : H} {Q : V → H → Prop} (hd1 : 16 ≤ dd) (hd2 : dd ≤ 2097152) (hstr : str.length ≤ 1000)
    (hg : h.get l = some (.loop .ready none 28 tm #[19, 20] a38_0 g38_1 d)) (t7 : getV tm 7 = .ptr out 0) (go : h.get out = some (c1 23 .nilslice)) (hlo : l ≠ out) (hl : l < h.next) (ho : out < h.next)
    (gs : h.get ps = some (c1 10 (.str str))) (gp : h.get pp = some (cellsP a b dd e s u)) (hps : ps < h.next ∧ ps ≠ l ∧ ps ≠ out) (hpp : pp < h.next ∧ pp ≠ l ∧ pp ≠ out) (hn : h.next + 2100 ≤ T.top)
    (hq : ∀ h' w' es, ExtX (fun b => b = l ∨ b = out) h h' 2100 → h'.get l = some (.loop .ready none 28 tm #[19, 20] a38_0 g38_1 d) → h'.get out = some (c1 23 w') → Ow h' w' te3 es.length (ints es) → (∀ b, vblk w' = some b → h.next ≤ b) → Inc es str.length → es.length ≠ 0 → es.length ≤ str.length + 1 → la es es.length = str.length → Q (.tuple []) h') :
    RF P ctx 57 [.yield l, .ptr ps 0, .ptr pp 0] h Q := by
  refine RF.enterE ctx_ok fn57 (ble _ _ rfl) (ble _ _ rfl) (vb57 _ _ _ h Q) ?_
  refine loop_wp (fun k tmk h' => ∃ (es : List Int) (at0 : Nat), k = (if es.length = 0 then str.length + 1 else str.length - at0) ∧ es.length ≤ at0 + 1 ∧ at0 ≤ str.length ∧ Inc es str.length ∧ la es es.length = at0 ∧ (es.length = 0 → at0 = 0) ∧ getV tmk 5 = .int .i64 es.length ∧ getV tmk 4 = .int .i64 at0 ∧ getV tmk 2 = .ptr pp 0 ∧ getV tmk 1 = .ptr ps 0 ∧ getV tmk 0 = .yield l ∧
    ∃ w, ExtX (fun b => b = l ∨ b = out) h h' (2 * es.length) ∧ h'.get l = some (.loop .ready none 28 tm #[19, 20] a38_0 g38_1 d) ∧ h'.get out = some (c1 23 w) ∧ Ow h' w te3 es.length (ints es) ∧ (∀ b, vblk w = some b → h.next ≤ b)) (str.length + 1) ?_ ?_
  · exact ⟨[], 0, rfl, by simp, by omega, fun i hi => absurd hi (by simp), rfl, fun _ => rfl, by kernel_rfl, by kernel_rfl, by kernel_rfl, by kernel_rfl, by kernel_rfl, .nilslice, ExtX.of (Ext.refl h), hg, go, Ow.nil _ _, fun b hb => (by cases hb)⟩
  rintro k tmk hk ⟨es, at0, rfl, e1, e2, inc, hla, e0, t5, t4, t2, t1, t0, w, yk, glk, gok, owk, vbk⟩
  rw [tm5 rfl t5 t2 t1 t4 t0]
  have uk := yk.top
  have lk := yk.le
  have gsk : hk.get ps = some (c1 10 (.str str)) := (yk.get _ hps.1 (fun q => by rcases q with q | q <;> omega)).trans gs
  have gpk : hk.get pp = some (cellsP a b dd e s u) := (yk.get _ hpp.1 (fun q => by rcases q with q | q <;> omega)).trans gp
  have rr : ∀ (z : Nat) (Q2 : V → H → Prop), (∀ h6 w6, ExtX (fun b => b = l ∨ b = out) h h6 (2 * (es ++ [(z : Int)]).length) → h6.get l = some (.loop .ready none 28 tm #[19, 20] a38_0 g38_1 d) → h6.get out = some (c1 23 w6) → Ow h6 w6 te3 (es ++ [(z : Int)]).length (ints (es ++ [(z : Int)])) → (∀ b, vblk w6 = some b → h.next ≤ b) → Q2 (.bool true) h6) → RR P l [.int .i64 es.length, .int .i64 z] hk Q2 := by
    intro z Q2 kk
    refine round38_ok (i := es.length) (w := w) glk (by omega) t7 gok owk hlo (fun b hb => by have := vbk b hb; omega) (by omega) (by omega) (by omega) (by omega) fun h6 w6 y6 gl6 go6 ow6 vb6 => ?_
    have u6 := y6.top
    have l6 := y6.le
    have hlen : (es ++ [(z : Int)]).length = es.length + 1 := by simp
    have y : ExtX (fun b => b = l ∨ b = out) h h6 (2 * (es.length + 1)) := ⟨by omega, by omega, fun b hb hs => (y6.get _ (by omega) (fun q => by
      rcases q with q | q | q
      · exact hs (.inl q)
      · exact hs (.inr q)
      · have := vbk b q; omega)).trans (yk.get b hb hs), Nat.le_trans y6.low yk.low, fun k r1 r2 r3 => y6.lo k (yk.lo k r1 r2 r3) (by omega) fun b hb => by
      rcases hb with q | q | q
      · exact r3 b (.inl q)
      · exact r3 b (.inr q)
      · have := vbk b q; omega⟩
    rw [hlen, ints_app] at kk
    exact kk h6 w6 y gl6 go6 ow6 (fun b hb => by have := vb6 b hb; omega)
  have nxt : ∀ (n : Nat) (tmn : Tm) (h6 : H) (w6 : V), at0 ≤ n → n ≤ str.length → (at0 < n ∨ n = str.length) → (es.length = 0 ∨ at0 < str.length) → getV tmn 5 = .int .i64 (w64 (es.length + 1)) → getV tmn 4 = .int .i64 n → getV tmn 2 = .ptr pp 0 → getV tmn 1 = .ptr ps 0 → getV tmn 0 = .yield l →
      ExtX (fun b => b = l ∨ b = out) h h6 (2 * (es ++ [(n : Int)]).length) → h6.get l = some (.loop .ready none 28 tm #[19, 20] a38_0 g38_1 d) → h6.get out = some (c1 23 w6) → Ow h6 w6 te3 (es ++ [(n : Int)]).length (ints (es ++ [(n : Int)])) → (∀ b, vblk w6 = some b → h.next ≤ b) →
      ∃ j, j < (if es.length = 0 then str.length + 1 else str.length - at0) ∧ ∃ (es' : List Int) (at1 : Nat), j = (if es'.length = 0 then str.length + 1 else str.length - at1) ∧ es'.length ≤ at1 + 1 ∧ at1 ≤ str.length ∧ Inc es' str.length ∧ la es' es'.length = at1 ∧ (es'.length = 0 → at1 = 0) ∧ getV tmn 5 = .int .i64 es'.length ∧ getV tmn 4 = .int .i64 at1 ∧ getV tmn 2 = .ptr pp 0 ∧ getV tmn 1 = .ptr ps 0 ∧ getV tmn 0 = .yield l ∧
        ∃ w, ExtX (fun b => b = l ∨ b = out) h h6 (2 * es'.length) ∧ h6.get l = some (.loop .ready none 28 tm #[19, 20] a38_0 g38_1 d) ∧ h6.get out = some (c1 23 w) ∧ Ow h6 w te3 es'.length (ints es') ∧ (∀ b, vblk w = some b → h.next ≤ b) := by
    intro n tmn h6 w6 n1 n2 n3 n4 q5 q4 q2 q1 q0 y gl6 go6 ow6 vb6
    have hlen : (es ++ [(n : Int)]).length = es.length + 1 := by simp
    refine ⟨str.length - n, ?_, es ++ [(n : Int)], n, ?_, ?_, n2, inc.app (by omega) (by omega), la_end _ _, fun q => by omega, ?_, q4, q2, q1, q0, w6, y, gl6, go6, ow6, vb6⟩
    · split <;> omega
    · rw [if_neg (by omega)]
    · rcases Nat.eq_zero_or_pos es.length with q | q
      · omega
      · have := n4.resolve_left (by omega); omega
    · rw [q5, hlen, w64_id (by omega) (by omega)]; rfl
  refine wpC.seal _ (vl57_0 _ _ _ _ _ _ _ _ _) ⟨fun c => ?_, fun c => ⟨str, ald_one ty9 rfl gsk rfl, fun c2 => ?_, fun c2 tmz _ _ _ _ _ => ?_⟩⟩
  · refine ⟨_, _, _, _, _, _, ald_agg ty24 rfl gpk rfl, str, ald_one ty9 rfl gsk rfl, next58_ok hd1 hd2 (by omega) e2 fun n bb n1 n2 n3 => ⟨_, _, rfl, fun _ => ?_, fun _ => ?_⟩⟩
    · show RR P l [.int .i64 es.length, .int .i64 n] hk _
      exact rr n _ fun h6 w6 y gl6 go6 ow6 vb6 => ⟨true, rfl, fun _ tmn q5 q2 q1 q4 q0 => ⟨rfl, rfl, nxt n tmn h6 w6 n1 n2 n3 (by omega) q5 q4 q2 q1 q0 y gl6 go6 ow6 vb6⟩, fun g => (by cases g)⟩
    · show RR P l [.int .i64 es.length, .int .i64 n] hk _
      exact rr n _ fun h6 w6 y gl6 go6 ow6 vb6 => ⟨true, rfl, fun _ tmn q5 q2 q1 q4 q0 => ⟨rfl, rfl, nxt n tmn h6 w6 n1 n2 n3 (by omega) q5 q4 q2 q1 q0 y gl6 go6 ow6 vb6⟩, fun g => (by cases g)⟩
  · have c2 : (at0 : Int) < ((str.length : Nat) : Int) := c2
    refine ⟨_, _, _, _, _, _, ald_agg ty24 rfl gpk rfl, str, ald_one ty9 rfl gsk rfl, next58_ok hd1 hd2 (by omega) e2 fun n bb n1 n2 n3 => ⟨_, _, rfl, fun _ => ?_, fun _ => ?_⟩⟩
    · show RR P l [.int .i64 es.length, .int .i64 n] hk _
      exact rr n _ fun h6 w6 y gl6 go6 ow6 vb6 => ⟨true, rfl, fun _ tmn q5 q2 q1 q4 q0 => ⟨rfl, rfl, nxt n tmn h6 w6 n1 n2 n3 (by omega) q5 q4 q2 q1 q0 y gl6 go6 ow6 vb6⟩, fun g => (by cases g)⟩
    · show RR P l [.int .i64 es.length, .int .i64 n] hk _
      exact rr n _ fun h6 w6 y gl6 go6 ow6 vb6 => ⟨true, rfl, fun _ tmn q5 q2 q1 q4 q0 => ⟨rfl, rfl, nxt n tmn h6 w6 n1 n2 n3 (by omega) q5 q4 q2 q1 q0 y gl6 go6 ow6 vb6⟩, fun g => (by cases g)⟩
  · have c2 : ¬ (at0 : Int) < ((str.length : Nat) : Int) := c2
    show Q (.tuple []) hk
    exact hq hk w es ⟨yk.le, by omega, yk.get, yk.low, yk.lo⟩ glk gok owk vbk inc (by omega) (by omega) (by omega)

end Go.Proofs.Ytbkafllejpbimaa

namespace Go.Proofs.Ytbkafllejpbimaa
open Go.Sim

theorem checked48_ok {a b d e : Int} {s u : Bool} {str : List UInt8} {h : H} {Q : V → H → Prop} (hc : chk a b d e = 0) (hl : str.length ≤ 1000) (hn : h.next + 2 ≤ T.top) (hq : ∀ h', Ext h h' 2 → Q (.int .i64 0) h') : RF P ctx 48 [par a b d e s u, .str str] h Q := by
  refine RF.enterE ctx_ok fn48 (ble _ _ rfl) (ble _ _ rfl) (vb48 a b d e s u str h Q) ⟨by omega, ?_⟩
  rintro p h1 rfl e1
  have n1 : h1.next = h.next + 1 := by rw [e1, new_next]
  have x1 : Ext h h1 1 := by rw [e1]; exact Ext.new _ (by omega)
  have s1 : h1.get h.next = some (cellsP a b d e s u) := by rw [e1]; exact get_new_self _ (by omega)
  have hl' : ¬ (1048576 : Int) < Int.ofNat str.length := by show ¬ (1048576 : Int) < (str.length : Nat); omega
  exact ⟨_, _, _, _, _, _, ald_agg ty24 rfl s1 rfl, check_ok (by omega) fun h9 x9 => ⟨_, rfl, fun c => absurd hc c, fun _ => ⟨fun c => absurd c hl', fun _ => hq _ (x1.trans x9)⟩⟩⟩

theorem ends49_ok {a b d e : Int} {s u : Bool} {str : List UInt8} {h : H} {Q : V → H → Prop} (hn : h.next + 2 ≤ T.top)
    (hq : ∀ h', Ext h h' 2 → h'.next = h.next + 2 → h'.get h.next = some (cellsP a b d e s u) → h'.get (h.next + 1) = some (c1 10 (.str str)) → Q (.func (.func 57) [] [.ptr (h.next + 1) 0, .ptr h.next 0]) h') : RF P ctx 49 [par a b d e s u, .str str] h Q := by
  refine RF.enterE ctx_ok fn49 (ble _ _ rfl) (ble _ _ rfl) (vb49 a b d e s u str h Q) ⟨by omega, ?_⟩
  rintro p0 h1 rfl e1
  have n1 : h1.next = h.next + 1 := by rw [e1, new_next]
  have x1 : Ext h h1 1 := by rw [e1]; exact Ext.new _ (by omega)
  have s1 : h1.get h.next = some (cellsP a b d e s u) := by rw [e1]; exact get_new_self _ (by omega)
  refine ⟨rfl, by omega, ?_⟩
  rintro p2 h3 rfl e3
  have n3 : h3.next = h1.next + 1 := by rw [e3, new_next]
  have x3 : Ext h1 h3 1 := by rw [e3]; exact Ext.new _ (by omega)
  have s3 : h3.get h1.next = some (c1 10 (.str str)) := by rw [e3]; exact get_new_self _ (by omega)
  rw [n1] at s3 ⊢
  exact hq h3 (x1.trans x3) (by omega) ((x3.get _ (by omega)).trans s1) s3

theorem chk_job {a b d e : Int} (h : chk a b d e = 0) : 16 ≤ d ∧ d ≤ 2097152 := by
  unfold chk at h
  split at h
  · omega
  · omega

set_option maxRecDepth 100000 in
theorem cutEnds_ok {a b d e : Int} {s u : Bool} {str : List UInt8} {h : H} {Q : V → H → Prop} (hc : chk a b d e = 0) (hstr : str.length ≤ 1000) (hn : h.next + 2200 ≤ T.top) (hlow : h.low ≤ T.top)
    (hq : ∀ h' w es, Ext h h' 2200 → Sl h' w 1 es.length (ints es) → Inc es str.length → es.length ≠ 0 → es.length ≤ str.length + 1 → la es es.length = str.length → Q (.tuple [w, .int .i64 0]) h') : RF P ctx 38 [par a b d e s u, .str str] h Q := by
  obtain ⟨hd1, hd2⟩ := chk_job hc
  refine RF.enterE ctx_ok fn38 (ble _ _ rfl) (ble _ _ rfl) (vb38 a b d e s u str h Q) ⟨by omega, ?_⟩
  rintro p0 h1 rfl e1
  have n1 : h1.next = h.next + 1 := by rw [e1, new_next]
  have x1 : Ext h h1 1 := by rw [e1]; exact Ext.new _ (by omega)
  have s1 : h1.get h.next = some (cellsP a b d e s u) := by rw [e1]; exact get_new_self _ (by omega)
  refine ⟨rfl, by omega, ?_⟩
  rintro p2 h3 rfl e3
  have n3 : h3.next = h1.next + 1 := by rw [e3, new_next]
  have x3 : Ext h1 h3 1 := by rw [e3]; exact Ext.new _ (by omega)
  have s3 : h3.get h1.next = some (c1 23 .nilslice) := by rw [e3]; exact get_new_self _ (by omega)
  refine ⟨rfl, by omega, ?_⟩
  rintro p4 h5 rfl e5
  have n5 : h5.next = h3.next + 1 := by rw [e5, new_next]
  have x5 : Ext h3 h5 1 := by rw [e5]; exact Ext.new _ (by omega)
  have s5 : h5.get h3.next = some (c1 29 (.int .i64 0)) := by rw [e5]; exact get_new_self _ (by omega)
  refine ⟨_, _, _, _, _, _, ald_agg ty24 rfl ((x5.get _ (by omega)).trans ((x3.get _ (by omega)).trans s1)) rfl, checked48_ok hc hstr (by omega) fun h13 x13 => ⟨_, rfl, fun c => absurd rfl c, fun _ => ⟨rfl, by have := x13.top; omega, ?_⟩⟩⟩
  have u13 := x13.top
  have l13 := x13.le
  rintro p17 h18 rfl e18
  have n18 : h18.next = h13.next + 1 := by rw [e18, new_next]
  have x18 : Ext h13 h18 1 := by rw [e18]; exact Ext.new _ (by omega)
  have s18 : h18.get h13.next = some (c1 23 .nilslice) := by rw [e18]; exact get_new_self _ (by omega)
  have y18 := x13.trans x18
  have g0 : h18.get h.next = some (cellsP a b d e s u) := (y18.get _ (by omega)).trans ((x5.get _ (by omega)).trans ((x3.get _ (by omega)).trans s1))
  have g1 : h18.get h1.next = some (c1 23 .nilslice) := (y18.get _ (by omega)).trans ((x5.get _ (by omega)).trans s3)
  have g3 : h18.get h3.next = some (c1 29 (.int .i64 0)) := (y18.get _ (by omega)).trans s5
  refine ⟨_, _, _, _, _, _, ald_agg ty24 rfl g0 rfl, ends49_ok (by omega) fun h26 x26 n26 gp gs => ⟨_, rfl, ?_⟩⟩
  have x0 : Ext h h26 8 := (((((x1.trans x3).trans x5).trans x13).trans x18).trans x26).mono (by omega)
  suffices key : ∀ tm, getV tm 18 = .func (.func 57) [] [.ptr (h18.next + 1) 0, .ptr h18.next 0] → getV tm 7 = .ptr h13.next 0 → getV tm 4 = .ptr h1.next 0 → getV tm 5 = .ptr h3.next 0 → RC P false q38_2 ⟨28, tm, [], h26⟩ (fun e s1 => (thenC (fun s1 => wpC P ctx false r38_3 s1 (endW ctx ⟨28, [.cell 4 22, .cell 5 28], b38⟩ Q)) (endW ctx ⟨28, [.cell 4 22, .cell 5 28], b38⟩ Q)) (exitB 0 e) s1) from key _ (by kernel_rfl) (by kernel_rfl) (by kernel_rfl) (by kernel_rfl)
  intro tm t18 t7 t4 t5
  refine RC.rangeFunc ctx_ok (g := 57) (first := []) (captured := [.ptr (h18.next + 1) 0, .ptr h18.next 0]) (show evx tm (t 18) = _ from congrArg some t18) (by show h26.next + 1 < _; omega) ?_
  show RF P ctx 57 [.yield (h26.next + 1), .ptr (h18.next + 1) 0, .ptr h18.next 0] ((h26.new (.deferred true)).new (.loop .ready none 28 tm #[19, 20] a38_0 g38_1 h26.next)) _
  have na : (h26.new (.deferred true)).next = h26.next + 1 := new_next _ _
  have xa : Ext h26 (h26.new (.deferred true)) 1 := Ext.new _ (by omega)
  have ga : (h26.new (.deferred true)).get h26.next = some (.deferred true) := get_new_self _ (by omega)
  generalize h26.new (.deferred true) = ha at *
  have nb (o : O) : (ha.new o).next = h26.next + 2 := by rw [new_next, na]
  have xb (o : O) : Ext ha (ha.new o) 1 := Ext.new _ (by omega)
  have gb (o : O) : (ha.new o).get (h26.next + 1) = some o := by rw [← na]; exact get_new_self _ (by omega)
  refine iter57_ok (a := a) (b := b) (e := e) (s := s) (u := u) (out := h13.next) (str := str) hd1 hd2 hstr (gb _) t7 ?_ (by omega) (by rw [nb]; omega) (by rw [nb]; omega) ?_ ?_ ⟨by rw [nb]; omega, by omega, by omega⟩ ⟨by rw [nb]; omega, by omega, by omega⟩ (by rw [nb]; omega) ?_
  · rw [(xb _).get _ (by omega), xa.get _ (by omega), x26.get _ (by omega), s18]
  · rw [(xb _).get _ (by omega), xa.get _ (by omega), gs]
  · rw [(xb _).get _ (by omega), xa.get _ (by omega), gp]
  · intro h' w' es y gl go ow vb inc ne0 ele hla
    have gd : h'.get h26.next = some (.deferred true) := by
      rw [y.get _ (by rw [nb]; omega) (by omega), (xb _).get _ (by omega), ga]
    have k4 : h'.get h1.next = some (c1 23 .nilslice) := by
      rw [y.get _ (by rw [nb]; omega) (by omega), (xb _).get _ (by omega), xa.get _ (by omega), x26.get _ (by omega), g1]
    have k5 : h'.get h3.next = some (c1 29 (.int .i64 0)) := by
      rw [y.get _ (by rw [nb]; omega) (by omega), (xb _).get _ (by omega), xa.get _ (by omega), x26.get _ (by omega), g3]
    have z : Ext h h' (8 + 1 + 1 + 2100) := ExtX.ext ((x0.trans xa).trans (xb _)) y (fun b g => by rcases g with q | q <;> omega)
    have u' := y.top
    have l' := y.le
    rw [nb] at u' l'
    simp only [rangeEnd, gl]
    have z1 := z.upd (some (.loop .exhausted none 28 tm #[19, 20] a38_0 g38_1 h26.next)) (b := h26.next + 1) (by omega) (by omega)
    have k1 : ∀ i, i ≠ h26.next + 1 → (h'.upd (h26.next + 1) (some (.loop .exhausted none 28 tm #[19, 20] a38_0 g38_1 h26.next))).get i = h'.get i := fun i hi => get_upd_ne _ (by omega) hi
    show wpC P ctx false r38_3 ⟨28, tm, [.coll h26.next], h'.upd (h26.next + 1) (some (.loop .exhausted none 28 tm #[19, 20] a38_0 g38_1 h26.next))⟩ _
    have m1 : (h'.upd (h26.next + 1) (some (.loop .exhausted none 28 tm #[19, 20] a38_0 g38_1 h26.next))).next = h'.next := rfl
    generalize h'.upd (h26.next + 1) (some (.loop .exhausted none 28 tm #[19, 20] a38_0 g38_1 h26.next)) = h2 at *
    have hone : w'.one = true := one_of_ow ow
    have hcells : w'.cells = [w'] := by
      obtain ⟨_, ⟨rfl, _⟩ | ⟨b', cs, rfl, _⟩⟩ := ow
      · rfl
      · rfl
    have vb' : ∀ b, vblk w' = some b → h26.next + 2 ≤ b := fun b hb => by have := vb b hb; rw [nb] at this; exact this
    have j4 : h2.get h1.next = some (c1 23 .nilslice) := (k1 _ (by omega)).trans k4
    have j5 : h2.get h3.next = some (c1 29 (.int .i64 0)) := (k1 _ (by omega)).trans k5
    have ow2 : Ow h2 w' te3 es.length (ints es) := ow.keep (by omega) fun b hb => k1 _ (by have := vb' b hb; omega)
    obtain ⟨h4', e4', z4', g4', g5', gd4, o4⟩ : ∃ h4', ast ctx 22 h2 (.ptr h1.next 0) w' = some h4' ∧ Ext h h4' (8 + 1 + 1 + 2100) ∧ h4'.get h1.next = some (c1 23 w') ∧ h4'.get h3.next = some (c1 29 (.int .i64 0)) ∧ h4'.get h26.next = some (.deferred true) ∧ Ow h4' w' te3 es.length (ints es) :=
      ⟨_, ast_at (cs' := .ls [w']) ty22 j4 (by rw [hcells]; rfl) (Nat.le_refl _) (by rw [hcells]; simp [allOne, hone]) (by rw [hcells]; rfl), z1.upd _ (by omega) (by omega), get_upd_self _ (by omega), by rw [get_upd_ne _ (by omega) (by omega)]; exact j5, by rw [get_upd_ne _ (by omega) (by omega), k1 _ (by omega)]; exact gd, ow2.keep (Nat.le_refl _) fun b hb => get_upd_ne _ (by omega) (by have := vb' b hb; omega)⟩
    obtain ⟨h5', e5', z5', g4'', g5'', gd5, o5⟩ : ∃ h5', ast ctx 28 h4' (.ptr h3.next 0) (.int .i64 0) = some h5' ∧ Ext h h5' (8 + 1 + 1 + 2100) ∧ h5'.get h1.next = some (c1 23 w') ∧ h5'.get h3.next = some (c1 29 (.int .i64 0)) ∧ h5'.get h26.next = some (.deferred true) ∧ Ow h5' w' te3 es.length (ints es) :=
      ⟨_, ast_at ty28 g5' rfl (Nat.le_refl _) rfl rfl, z4'.upd _ (by omega) (by omega), by rw [get_upd_ne _ (by omega) (by omega)]; exact g4', get_upd_self _ (by omega), by rw [get_upd_ne _ (by omega) (by omega)]; exact gd4, o4.keep (Nat.le_refl _) fun b hb => get_upd_ne _ (by omega) (by have := vb' b hb; omega)⟩
    rw [tm3 rfl t7 t4 t5]
    refine wpC.seal _ (vr38_3 _ _ _ _ _ _ _) ⟨w', ald_one ty22 rfl ((k1 _ (by omega)).trans go) rfl, h4', e4', h5', e5', fun tmq q4 q5 _ _ _ _ _ => ?_⟩
    show wpD [.coll h26.next] h5' _
    simp only [wpD, gd5]
    have a4 : ald ctx 22 (h5'.upd h26.next (some (.deferred false))) (.ptr h1.next 0) = some w' := ald_one ty22 rfl (by rw [get_upd_ne _ (by omega) (by omega)]; exact g4'') rfl
    have a5 : ald ctx 28 (h5'.upd h26.next (some (.deferred false))) (.ptr h3.next 0) = some (.int .i64 0) := ald_one ty28 rfl (by rw [get_upd_ne _ (by omega) (by omega)]; exact g5'') rfl
    show (match leave ctx _ tmq (h5'.upd h26.next (some (.deferred false))) [.cell 4 22, .cell 5 28] [] with | some vs => Q (tupled vs) (h5'.upd h26.next (some (.deferred false))) | none => False)
    simp only [leave, q4, q5, a4, a5]
    show Q (.tuple [w', .int .i64 0]) _
    have o6 : Ow (h5'.upd h26.next (some (.deferred false))) w' te3 es.length (ints es) := o5.keep (Nat.le_refl _) fun b hb => get_upd_ne _ (by omega) (by have := vb' b hb; omega)
    exact hq _ w' es ((z5'.upd _ (by omega) (by omega)).mono (by omega)) o6.sl inc ne0 ele hla

theorem Inc.bnd {es : List Int} {L : Nat} (h : Inc es L) (hL : L ≤ 1048576) : bnd es := by
  have h0 : ∀ i, i ≤ es.length → 0 ≤ la es i := by
    intro i
    induction i with
    | zero => intro _; exact Int.le_refl _
    | succ i ih => intro hi; exact Int.le_trans (ih (by omega)) (h i (by omega)).1
  intro i hi
  have := h i hi
  have := h0 i (by omega)
  omega

set_option maxRecDepth 100000 in
theorem tableI_ok {a b d e : Int} {s u : Bool} {str : List UInt8} {h : H} {Q : V → H → Prop} (hc : chk a b d e = 0) (hstr : str.length ≤ 1000) (hn : h.next + 8000 ≤ T.top) (hlow : h.low ≤ T.top)
    (hq : ∀ h' w es, Ext h h' 8000 → Sl h' w 3 es.length (jl (jt (pre b e) es es.length)) → Inc es str.length → es.length ≠ 0 → es.length ≤ str.length + 1 → la es es.length = str.length → Q (.tuple [w, .int .i64 0]) h') : RF P ctx 21 [par a b d e s u, .str str] h Q := by
  refine RF.enterE ctx_ok fn21 (ble _ _ rfl) (ble _ _ rfl) (vb21 a b d e s u str h Q) ⟨by omega, ?_⟩
  rintro p0 h1 rfl e1
  have n1 : h1.next = h.next + 1 := by rw [e1, new_next]
  have x1 : Ext h h1 1 := by rw [e1]; exact Ext.new _ (by omega)
  have s1 : h1.get h.next = some (cellsP a b d e s u) := by rw [e1]; exact get_new_self _ (by omega)
  refine ⟨_, _, _, _, _, _, ald_agg ty24 rfl s1 rfl, cutEnds_ok hc hstr (by omega) (Nat.le_trans x1.low hlow) fun h9 w es x9 sl inc ne0 ele hla => ⟨_, _, rfl, fun c => absurd rfl c, fun _ => ?_⟩⟩
  have u9 := x9.top
  refine ⟨_, _, _, _, _, _, ald_agg ty24 rfl ((x9.get _ (by omega)).trans s1) rfl, table_ok hc (inc.bnd (by omega)) (by omega) sl (by omega) (Nat.le_trans x9.low (Nat.le_trans x1.low hlow)) fun h19 w2 x19 ow => ⟨_, rfl, ?_⟩⟩
  have := ow.sl
  rw [jc_jl] at this
  exact hq h19 w2 es (((x1.trans x9).trans x19).mono (by omega)) this inc ne0 ele hla

end Go.Proofs.Ytbkafllejpbimaa

namespace Go.Proofs.Ytbkafllejpbimaa
open Go.Sim

abbrev te5 : TI := ⟨5, (.int .u8), 1, 1, some (.int .u8 (.ofNat 0)), true, false, false, []⟩
theorem te5_at : ctx.ty.get 5 = some te5 := ty5

/-- Bytes, as cells. -/
def bys (l : List Int) : List V := l.map fun n => .int .u8 n

theorem bytesOf_bys : ∀ l : List Int, bytesOf (bys l) = some (l.map fun n => UInt8.ofNat n.toNat)
  | [] => rfl
  | n :: l => by
    show (match bytesOf (bys l) with | some r => some (UInt8.ofNat n.toNat :: r) | none => none) = _
    rw [bytesOf_bys l]; rfl

theorem range00 (cs : Cs) : cs.range 0 0 = some [] := by
  cases cs with
  | ls l => cases l <;> rfl
  | tb t n => rfl
  | big d t n => rfl

theorem conv_bys {h : H} {v : V} {n k : Nat} {l : List Int} (s : Ex h v 1 n k (bys l)) : aconv ctx 69 9 h v = some (.str (l.map fun n => UInt8.ofNat n.toNat), h) := by
  obtain ⟨h1, h2, b, cs, rfl, hb, hg, hw, hl, hc⟩ := s
  unfold aconv
  rw [ty69, ty9]
  simp only [te5_at, hg]
  have hr : cs.range 0 n = some (bys l) := by
    rcases Nat.eq_zero_or_pos n with rfl | q
    · have : bys l = [] := List.eq_nil_of_length_eq_zero (by rw [h1])
      rw [this]; exact range00 cs
    · exact Cs.range_is (k := n) q (by rw [h1]; omega) (fun i hi => by rw [Nat.zero_add]; exact hc i (by omega))
  rw [hr]
  simp only [bytesOf_bys]

set_option maxRecDepth 100000 in
theorem noise_aux {k n many : Int} {Q : V → H → Prop} (hm : 1 ≤ many) (hq : ∀ (l : List UInt8) h', l.length ≤ 4096 → Q (.str l) h') : RF P ctx 37 [.int .i64 k, .int .i64 n, .int .i64 many] H0 Q := by
  refine RF.enterE ctx_ok fn37 (ble _ _ rfl) (ble _ _ rfl) (vb37 k n many H0 Q) (mod_ok (by decide) (by decide) ⟨_, rfl, ?_⟩)
  obtain ⟨K, hK⟩ : ∃ K : Nat, max 0 (min n 4096) = K := ⟨(max 0 (min n 4096)).toNat, by omega⟩
  have hK2 : K ≤ 4096 := by omega
  rw [hK]
  obtain ⟨w0, h2, e2, ex2, x2, vb2⟩ := Ex.make (c := ctx) (h := H0) (k := K) ty69 rfl te5_at rfl rfl rfl (by omega) (by show 1 * _ ≤ _; omega) (by decide)
  refine ⟨w0, h2, e2, ?_⟩
  have hT : (10000 : Nat) ≤ T.top := of_decide_eq_true (by kernel_rfl)
  have h0n : H0.next = 0 := rfl
  refine loop_wp (fun j tm h' => ∃ i : Nat, i ≤ K ∧ j = K - i ∧ getV tm 8 = .int .i64 i ∧ getV tm 1 = .int .i64 n ∧ getV tm 2 = .int .i64 many ∧ (∃ y : Int, 0 ≤ y ∧ y < 65537 ∧ getV tm 0 = .int .i64 y) ∧
    ∃ w l, getV tm 7 = w ∧ h'.next ≤ 1 + i ∧ Ex h' w 1 i K (bys l)) K ?_ ?_
  · exact ⟨0, by omega, by omega, by kernel_rfl, by kernel_rfl, by kernel_rfl, ⟨k % 65537, Int.emod_nonneg _ (by decide), Int.emod_lt_of_pos _ (by decide), by kernel_rfl⟩, w0, [], by kernel_rfl, by have := x2.top; omega, ex2⟩
  rintro j tm h' ⟨i, i1, rfl, t8, t1, t2, ⟨y, y0, y1, t0⟩, w, l, t7, nx, ex⟩
  rw [tm5 rfl t8 t1 t0 t7 t2]
  have fin : ∀ tmz, getV tmz 7 = w → wpC P ctx false r37_1 ⟨40, tmz, [], h'⟩ (endW ctx ⟨40, [.tmp 6], b37⟩ Q) := by
    intro tmz q7
    rw [tm1 rfl q7]
    refine wpC.seal _ (vr37_1 _ _ _ _ _) ?_
    obtain ⟨_, _, b, cs, hw, _⟩ := id ex
    have hcv := conv_bys ex
    rw [hw] at hcv ⊢
    show ∃ l h1, aconv ctx 69 9 h' _ = some (.str l, h1) ∧ _
    refine ⟨_, _, hcv, fun tm2 q6 _ _ _ _ _ => ?_⟩
    show Q (getV tm2 6) h'
    rw [q6]
    refine hq _ _ ?_
    have h1 := ex.1
    simp [bys] at h1
    simp; omega
  refine wpC.seal _ (vl37_0 _ _ _ _ _ _ _ _ _) ⟨fun c1 => ⟨fun c2 => ?_, fun c2 tmz _ _ _ _ q7 _ => fin tmz q7⟩, fun c1 tmz _ _ _ _ q7 _ => fin tmz q7⟩
  have hi : i < K := by omega
  refine mod_ok (by decide) (by decide) ⟨_, rfl, by decide, ?_⟩
  refine mod_ok (by omega) (by omega) ⟨_, rfl, ?_⟩
  generalize hz : (wrapF .u8 (w64 (Int.tdiv (w64 (w64 (y * 75) + 74) % 65537) 7) % max 1 (min many 256)) : Int) = z
  obtain ⟨v6, h7, e7, sl7, x7, _⟩ := buildSlice1 (c := ctx) (h := h') (u := .int .u8 z) (ys := [.int .u8 z]) ty69 rfl te5_at rfl rfl rfl rfl (Nat.le_of_ble_eq_true rfl) rfl (by omega)
  have u7 := x7.top
  obtain ⟨v8, h9, e9, ex9, n9, _⟩ := (ex.ext x7).append (te := te5) (c := ctx) sl7 (by omega) ty69 rfl te5_at rfl rfl (by omega) (by omega)
  refine ⟨v6, h7, e7, trivial, v8, h9, e9, fun tmn _ q8 q1 q0 q7 q2 => ⟨rfl, rfl, K - (i + 1), by omega, i + 1, by omega, rfl, ?_, q1, q2, ⟨_, Int.emod_nonneg _ (by decide), Int.emod_lt_of_pos _ (by decide), q0⟩, v8, l ++ [z], q7, by show h9.next ≤ _; omega, ?_⟩⟩
  · rw [q8, w64_id (by omega) (by omega)]; rfl
  · have : bys (l ++ [z]) = bys l ++ [.int .u8 z] := by simp [bys]
    rw [this]; exact ex9

theorem noise_ok {k n many : Int} {h : H} {Q : V → H → Prop} (hm : 1 ≤ many) (hq : ∀ l : List UInt8, l.length ≤ 4096 → Q (.str l) h) : RF P ctx 37 [.int .i64 k, .int .i64 n, .int .i64 many] h Q := by
  refine RF.plain (noise_aux hm fun l _ hl => ⟨plain_str _, hq l hl⟩) (fun a ha => ?_)
  simp only [List.mem_cons, List.not_mem_nil, or_false] at ha
  rcases ha with rfl | rfl | rfl <;> exact plain_int _ _

end Go.Proofs.Ytbkafllejpbimaa

namespace Go.Proofs.Ytbkafllejpbimaa
open Go.Sim

/-- The words of an input. -/
def wds : List V := [.str [116, 104, 101, 32], .str [113, 117, 105, 99, 107, 32], .str [98, 114, 111, 119, 110, 32], .str [99, 104, 101, 101, 115, 101, 32], .str [112, 114, 101, 115, 115, 32], .str [97, 98], .str [97, 98, 99], .str [10]]

theorem wds_get : ∀ i : Nat, i < 8 → ∃ l : List UInt8, wds[i]? = some (.str l) ∧ l.length ≤ 7
  | 0, _ => ⟨_, rfl, by decide⟩
  | 1, _ => ⟨_, rfl, by decide⟩
  | 2, _ => ⟨_, rfl, by decide⟩
  | 3, _ => ⟨_, rfl, by decide⟩
  | 4, _ => ⟨_, rfl, by decide⟩
  | 5, _ => ⟨_, rfl, by decide⟩
  | 6, _ => ⟨_, rfl, by decide⟩
  | 7, _ => ⟨_, rfl, by decide⟩
  | n + 8, h => absurd h (by omega)

theorem build_wds {h : H} (hn : h.next < T.top) : ∃ v h', abuildSlice ctx 58 8 [(0, (.str [116, 104, 101, 32])), (1, (.str [113, 117, 105, 99, 107, 32])), (2, (.str [98, 114, 111, 119, 110, 32])), (3, (.str [99, 104, 101, 101, 115, 101, 32])), (4, (.str [112, 114, 101, 115, 115, 32])), (5, (.str [97, 98])), (6, (.str [97, 98, 99])), (7, (.str [10]))] h = some (v, h') ∧ Sl h' v 1 8 wds ∧ Ext h h' 1 := by
  refine ⟨.slice h.next 0 8 (.exact 8), h.new (.cells (.ls wds) ⟨0, 10, 0⟩ true false), ?_, ⟨rfl, .inr ⟨h.next, 0, _, _, _, _, _, rfl, by rw [new_next]; omega, get_new_self _ hn, fun i hi => by rw [Nat.zero_add]; exact Cs.getL_eq wds i⟩⟩, Ext.new _ hn⟩
  have e1 : abuildSlice ctx 58 8 [(0, (.str [116, 104, 101, 32])), (1, (.str [113, 117, 105, 99, 107, 32])), (2, (.str [98, 114, 111, 119, 110, 32])), (3, (.str [99, 104, 101, 101, 115, 101, 32])), (4, (.str [112, 114, 101, 115, 115, 32])), (5, (.str [97, 98])), (6, (.str [97, 98, 99])), (7, (.str [10]))] h = (match newC h (some (.ls wds)) ⟨0, 10, 0⟩ false with | some (b, h') => some (.slice b 0 8 (.exact 8), h') | none => none) := by kernel_rfl
  rw [e1]
  unfold newC
  rw [(blt_iff _ _).2 hn]
  rfl

/-- What an inner loop leaves as it was. -/
def Kept (tm tm' : Tm) : Prop := getV tm' 6 = getV tm 6 ∧ getV tm' 7 = getV tm 7 ∧ getV tm' 0 = getV tm 0 ∧ getV tm' 1 = getV tm 1

set_option maxRecDepth 100000 in
theorem repeat_ok {tm : Tm} {n : Nat} {from0 : Int} {l : List UInt8} {h : H} {Q : AX → St → Prop} (hn : n ≤ 60) (hl : l.length ≤ 5000) (hf : from0 < l.length) (hf2 : -100000000 ≤ from0) (t11 : getV tm 11 = .int .i64 0) (t9 : getV tm 9 = .int .i64 n) (t10 : getV tm 10 = .int .i64 from0) (t5 : getV tm 5 = .str l)
    (hq : ∀ tm' (l' : List UInt8), l'.length ≤ l.length + 60 → getV tm' 5 = .str l' → Kept tm tm' → Q (.exit 5) ⟨118, tm', [], h⟩) : wpC P ctx false (.loop l20_0) ⟨118, tm, [], h⟩ Q := by
  refine loop_wp (fun k tmk h' => ∃ (j : Nat) (l' : List UInt8), j ≤ n ∧ k = n - j ∧ h' = h ∧ getV tmk 11 = .int .i64 j ∧ getV tmk 9 = .int .i64 n ∧ getV tmk 10 = .int .i64 from0 ∧ getV tmk 5 = .str l' ∧ l'.length = l.length + j ∧ Kept tm tmk) n ?_ ?_
  · exact ⟨0, l, by omega, by omega, rfl, t11, t9, t10, t5, by omega, rfl, rfl, rfl, rfl⟩
  rintro k tmk h' ⟨j, l', j1, rfl, rfl, t11, t9, t10, t5, hl', k6, k7, k0, k1⟩
  have K : ∀ tmn, getV tmn 6 = getV (Tb.set (Tb.set (Tb.set (Tb.set tmk 11 (.int .i64 j)) 9 (.int .i64 n)) 10 (.int .i64 from0)) 5 (.str l')) 6 → getV tmn 7 = getV (Tb.set (Tb.set (Tb.set (Tb.set tmk 11 (.int .i64 j)) 9 (.int .i64 n)) 10 (.int .i64 from0)) 5 (.str l')) 7 → getV tmn 0 = getV (Tb.set (Tb.set (Tb.set (Tb.set tmk 11 (.int .i64 j)) 9 (.int .i64 n)) 10 (.int .i64 from0)) 5 (.str l')) 0 →
      getV tmn 1 = getV (Tb.set (Tb.set (Tb.set (Tb.set tmk 11 (.int .i64 j)) 9 (.int .i64 n)) 10 (.int .i64 from0)) 5 (.str l')) 1 → Kept tm tmn := by
    rw [← tm4 rfl t11 t9 t10 t5]
    exact fun tmn q6 q7 q0 q1 => ⟨q6.trans k6, q7.trans k7, q0.trans k0, q1.trans k1⟩
  rw [tm4 rfl t11 t9 t10 t5]
  refine wpC.seal _ (vl20_0 _ _ _ _ _ _ _ _) ⟨fun c1 => ⟨fun c2 => ?_, fun c2 tmz _ _ _ _ q5 _ q6 _ q7 q0 q1 => hq tmz l' (by omega) q5 (K tmz q6 q7 q0 q1)⟩, fun c1 tmz _ _ _ _ q5 _ q6 _ q7 q0 q1 => hq tmz l' (by omega) q5 (K tmz q6 q7 q0 q1)⟩
  have hw1 : w64 (from0 + (j : Int)) = from0 + j := w64_id (by omega) (by omega)
  have hw2 : w64 (from0 + (j : Int) + 1) = from0 + j + 1 := w64_id (by omega) (by omega)
  rw [hw1, hw2]
  refine ⟨_, slice_str (by omega) (by omega) (by omega), ?_⟩
  have hsl : (sliceS l' (from0 + (j : Int)).toNat (from0 + (j : Int) + 1).toNat).length = 1 := by rw [sliceS_len]; omega
  refine ⟨by rw [hsl, hl']; omega, fun tmn _ q11 q9 q10 q5 _ q6 _ q7 q0 q1 => ⟨rfl, rfl, n - (j + 1), by omega, j + 1, _, by omega, rfl, rfl, ?_, q9, q10, q5, by rw [List.length_append, hsl]; omega, K tmn q6 q7 q0 q1⟩⟩
  rw [q11, w64_id (by omega) (by omega)]; rfl

set_option maxRecDepth 100000 in
theorem words_ok {tm : Tm} {n : Nat} {kk : Int} {v0 : V} {l : List UInt8} {h : H} {Q : AX → St → Prop} (hn : n ≤ 60) (hl : l.length ≤ 5000) (sw : Sl h v0 1 8 wds) (t12 : getV tm 12 = .int .i64 0) (t9 : getV tm 9 = .int .i64 n) (t5 : getV tm 5 = .str l) (t6 : getV tm 6 = v0) (t8 : getV tm 8 = .int .i64 kk)
    (hq : ∀ tm' (l' : List UInt8), l'.length ≤ l.length + 70 → getV tm' 5 = .str l' → Kept tm tm' → Q (.exit 3) ⟨118, tm', [], h⟩) : wpC P ctx false (.loop l20_1) ⟨118, tm, [], h⟩ Q := by
  have hdiv : w64 (Int.tdiv (n : Int) 6) = ((n / 6 : Nat) : Int) := by
    rw [Int.tdiv_eq_ediv_of_nonneg (Int.natCast_nonneg _), w64_id (by omega) (by omega)]; rfl
  refine loop_wp (fun k tmk h' => ∃ (j : Nat) (l' : List UInt8), j ≤ n / 6 ∧ k = n / 6 - j ∧ h' = h ∧ getV tmk 12 = .int .i64 j ∧ getV tmk 9 = .int .i64 n ∧ getV tmk 5 = .str l' ∧ getV tmk 8 = .int .i64 kk ∧ l'.length ≤ l.length + 7 * j ∧ Kept tm tmk) (n / 6) ?_ ?_
  · exact ⟨0, l, by omega, by omega, rfl, t12, t9, t5, t8, by omega, rfl, rfl, rfl, rfl⟩
  rintro k tmk h' ⟨j, l', j1, rfl, rfl, t12, t9, t5, t8, hl', k6, k7, k0, k1⟩
  have t6' : getV tmk 6 = v0 := k6.trans t6
  have K : ∀ tmn, getV tmn 6 = v0 → getV tmn 7 = getV (Tb.set (Tb.set (Tb.set (Tb.set (Tb.set tmk 12 (.int .i64 j)) 9 (.int .i64 n)) 5 (.str l')) 6 v0) 8 (.int .i64 kk)) 7 → getV tmn 0 = getV (Tb.set (Tb.set (Tb.set (Tb.set (Tb.set tmk 12 (.int .i64 j)) 9 (.int .i64 n)) 5 (.str l')) 6 v0) 8 (.int .i64 kk)) 0 →
      getV tmn 1 = getV (Tb.set (Tb.set (Tb.set (Tb.set (Tb.set tmk 12 (.int .i64 j)) 9 (.int .i64 n)) 5 (.str l')) 6 v0) 8 (.int .i64 kk)) 1 → Kept tm tmn := by
    rw [← tm5 rfl t12 t9 t5 t6' t8]
    exact fun tmn q6 q7 q0 q1 => ⟨q6.trans t6.symm, q7.trans k7, q0.trans k0, q1.trans k1⟩
  rw [tm5 rfl t12 t9 t5 t6' t8]
  refine wpC.seal _ (vl20_1 _ _ _ _ _ _ _ _ _) ⟨by decide, ?_⟩
  rw [hdiv]
  refine ⟨fun c1 => ?_, fun c1 tmz _ _ _ _ q5 _ q6 _ q7 q0 q1 => hq tmz l' (by omega) q5 (K tmz q6 q7 q0 q1)⟩
  refine ⟨by decide, _, sw.len ty58 rfl, mod_ok (by decide) (by decide) ⟨_, rfl, ?_⟩⟩
  generalize (w64 (w64 (Int.tdiv kk 8) + w64 ((j : Int) * (j : Int)))) = z
  have z0 := Int.emod_nonneg z (show (8 : Int) ≠ 0 by decide)
  have z1 := Int.emod_lt_of_pos z (show (0 : Int) < 8 by decide)
  obtain ⟨i, hi⟩ : ∃ i : Nat, z % 8 = i := ⟨(z % 8).toNat, by omega⟩
  have h8 : z % ((8 : Nat) : Int) = (i : Int) := hi
  rw [h8]
  obtain ⟨wl, hw, wlen⟩ := wds_get i (by omega)
  obtain ⟨pb, po, a1, a2⟩ := sw.at1 (c := ctx) (i := i) (by omega) ty58 rfl ty9 rfl rfl hw
  refine ⟨pb, po, a1, wl, a2, by omega, fun tmn _ _ q9 _ q5 q12 q6 q8 q7 q0 q1 => ⟨rfl, rfl, n / 6 - (j + 1), by omega, j + 1, _, by omega, rfl, rfl, ?_, q9, q5, q8, by rw [List.length_append]; omega, K tmn q6 q7 q0 q1⟩⟩
  rw [q12, w64_id (by omega) (by omega)]; rfl

end Go.Proofs.Ytbkafllejpbimaa

namespace Go.Proofs.Ytbkafllejpbimaa
open Go.Sim

theorem r20_ok {tm : Tm} {i : Int} {h : H} {Q : AX → St → Prop} (q7 : getV tm 7 = .int .i64 i) (hq : ∀ tmn, getV tmn 7 = .int .i64 (w64 (i + 1)) → getV tmn 5 = getV tm 5 → getV tmn 0 = getV tm 0 → getV tmn 1 = getV tm 1 → getV tmn 6 = getV tm 6 → Q .normal ⟨118, tmn, [], h⟩) :
    wpC P ctx false r20_2 ⟨118, tm, [], h⟩ (sealQ [4, 11, 9, 10, 5, 12, 6, 8, 7, 0, 1] Q) := by
  have E := tm1 (tm := tm) rfl q7
  have e : wpC P ctx false r20_2 ⟨118, Tb.set tm 7 (.int .i64 i), [], h⟩ (sealQ [4, 11, 9, 10, 5, 12, 6, 8, 7, 0, 1] Q) := by
    refine Eq.mpr (vr20_2 _ _ _ _ _) fun tmn _ _ _ _ r5 _ r6 _ r7 r0 r1 => ?_
    exact hq tmn r7 r5 r0 r1 r6
  rw [E]
  exact e

set_option maxRecDepth 100000 in
theorem input_ok {v : V} {nums : List Int} {h : H} {Q : V → H → Prop} (sl : Sl h v 1 nums.length (ints nums)) (hlen : nums.length < 9223372036854775808) (hn : h.next + 2 ≤ T.top)
    (hq : ∀ h' (l : List UInt8), Ext h h' 1 → l.length ≤ 300 → Q (.str l) h') : RF P ctx 20 [v, .int .i64 300] h Q := by
  obtain ⟨v0, h1, e1, sw, x1⟩ := build_wds (h := h) (by omega)
  refine RF.enterE ctx_ok fn20 (ble _ _ rfl) (ble _ _ rfl) (vb20 v 300 h Q) ⟨v0, h1, e1, ?_⟩
  have sl1 := sl.ext x1
  refine loop_wp (fun k tmk h' => ∃ (i : Nat) (l : List UInt8), i ≤ nums.length ∧ k = nums.length - i ∧ h' = h1 ∧ getV tmk 7 = .int .i64 i ∧ getV tmk 0 = v ∧ getV tmk 5 = .str l ∧ getV tmk 1 = .int .i64 300 ∧ getV tmk 6 = v0 ∧ l.length ≤ 5000) nums.length ?_ ?_
  · exact ⟨0, [], by omega, by omega, rfl, by kernel_rfl, by kernel_rfl, by kernel_rfl, by kernel_rfl, by kernel_rfl, by simp⟩
  rintro k tmk h' ⟨i, l, i1, rfl, rfl, t7, t0, t5, t1, t6, hl⟩
  have t6' : getV (Tb.set (Tb.set (Tb.set (Tb.set tmk 7 (.int .i64 i)) 0 v) 5 (.str l)) 1 (.int .i64 300)) 6 = v0 := by rw [← tm4 rfl t7 t0 t5 t1]; exact t6
  rw [tm4 rfl t7 t0 t5 t1]
  generalize htm : (Tb.set (Tb.set (Tb.set (Tb.set tmk 7 (.int .i64 i)) 0 v) 5 (.str l)) 1 (.int .i64 300)) = tmx at t6'
  have t6k : getV tmk 6 = v0 := t6
  rw [← htm]
  have hlen' : (Int.ofNat l.length) = ((l.length : Nat) : Int) := rfl
  -- the end of the loop
  have out : ∀ tmz, getV tmz 5 = .str l → getV tmz 1 = .int .i64 300 → wpC P ctx false r20_4 ⟨118, tmz, [], h'⟩ (endW ctx ⟨118, [.tmp 4], b20⟩ Q) := by
    intro tmz q5 q1
    rw [tm2 rfl q5 q1]
    have hmin : min (Int.ofNat l.length) (max (300 : Int) 0) = ((min l.length 300 : Nat) : Int) := by rw [hlen']; omega
    refine wpC.seal _ (vr20_4 _ _ _ _ _ _) ⟨_, by rw [hmin]; exact slice_head (by omega) (by omega), fun tm2 q4 _ _ _ _ _ _ _ _ _ _ => ?_⟩
    show Q (getV tm2 4) h'
    rw [q4]
    exact hq h' _ x1 (by rw [sliceS_len]; omega)
  refine wpC.seal _ (vl20_3 _ _ _ _ _ _ _ _) ⟨_, sl1.len ty22 rfl, fun c1 => ⟨fun c2 => ?_, fun c2 tmz _ _ _ _ q5 _ _ _ _ _ q1 => out tmz q5 q1⟩, fun c1 tmz _ _ _ _ q5 _ _ _ _ _ q1 => out tmz q5 q1⟩
  rw [hlen'] at c2
  have hi : i < nums.length := by omega
  obtain ⟨pb, po, a1, a2⟩ := sl1.at1 (c := ctx) (i := i) hi ty22 rfl ty3 rfl rfl (ints_get hi)
  refine ⟨pb, po, a1, _, a2, mod_ok (by decide) (by decide) ⟨_, rfl, ?_⟩⟩
  have m0 := Int.emod_nonneg (nums.getD i 0) (show (1073741824 : Int) ≠ 0 by decide)
  have m1 := Int.emod_lt_of_pos (nums.getD i 0) (show (0 : Int) < 1073741824 by decide)
  generalize (nums.getD i 0) % 1073741824 = x at m0 m1
  have d8 : w64 (Int.tdiv x 8) = x / 8 := by
    rw [Int.tdiv_eq_ediv_of_nonneg m0, w64_id (by omega) (by omega)]
  have t60 : Int.tmod (x / 8) 60 = (x / 8) % 60 := Int.tmod_eq_emod_of_nonneg (by omega)
  have t8 : Int.tmod x 8 = x % 8 := Int.tmod_eq_emod_of_nonneg m0
  have d512 : w64 (Int.tdiv x 512) = x / 512 := by
    rw [Int.tdiv_eq_ediv_of_nonneg m0, w64_id (by omega) (by omega)]
  have t200 : Int.tmod (x / 512) 200 = (x / 512) % 200 := Int.tmod_eq_emod_of_nonneg (by omega)
  obtain ⟨n, hn'⟩ : ∃ n : Nat, w64 (1 + (x / 8) % 60) = n := ⟨(1 + (x / 8) % 60).toNat, by rw [w64_id (by omega) (by omega)]; omega⟩
  have hn1 : n ≤ 60 := by rw [w64_id (by omega) (by omega)] at hn'; omega
  have hfr : w64 (w64 (((l.length : Nat) : Int) - 1) - (x / 512) % 200) = ((l.length : Nat) : Int) - 1 - (x / 512) % 200 := by
    rw [w64_id (n := ((l.length : Nat) : Int) - 1) (by omega) (by omega), w64_id (by omega) (by omega)]
  rw [d8, t60, t8, d512, t200, hn', hlen', hfr]
  -- how a round goes on
  have step : ∀ (tmn : Tm) (l' : List UInt8), l'.length ≤ 5000 → getV tmn 7 = .int .i64 (w64 ((i : Int) + 1)) → getV tmn 0 = v → getV tmn 5 = .str l' → getV tmn 1 = .int .i64 300 → getV tmn 6 = v0 →
      ∃ j, j < nums.length - i ∧ ∃ (i2 : Nat) (l : List UInt8), i2 ≤ nums.length ∧ j = nums.length - i2 ∧ h' = h' ∧ getV tmn 7 = .int .i64 i2 ∧ getV tmn 0 = v ∧ getV tmn 5 = .str l ∧ getV tmn 1 = .int .i64 300 ∧ getV tmn 6 = v0 ∧ l.length ≤ 5000 := by
    intro tmn l' hl' q7 q0 q5 q1 q6
    refine ⟨nums.length - (i + 1), by omega, i + 1, l', by omega, rfl, rfl, ?_, q0, q5, q1, q6, hl'⟩
    rw [q7, w64_id (by omega) (by omega)]; rfl
  have app : ∀ l2 : List UInt8, l2.length ≤ 4096 → (l ++ l2).length ≤ 5000 := fun l2 h2 => by rw [List.length_append]; omega
  have k6 : ∀ {tmn : Tm}, getV tmn 6 = getV tmk 6 → getV tmn 6 = v0 := fun q => q.trans t6k
  refine ⟨by decide, by decide, by decide, fun _ => ?_, fun _ => ⟨fun _ => ?_, fun _ => ⟨fun _ => ?_, fun _ => ⟨fun _ => ?_, fun _ => ⟨fun _ => ?_, fun _ => ⟨fun _ => ?_, fun _ => ⟨fun _ => ?_, fun _ => ?_⟩⟩⟩⟩⟩⟩⟩
  · exact noise_ok (by decide) fun l2 h2 => ⟨l2, rfl, by omega, fun tmn _ _ _ _ q5 _ q6 _ q7 q0 q1 => ⟨rfl, rfl, step tmn _ (app l2 h2) q7 q0 q5 q1 (k6 q6)⟩⟩
  · exact noise_ok (by decide) fun l2 h2 => ⟨l2, rfl, by omega, fun tmn _ _ _ _ q5 _ q6 _ q7 q0 q1 => ⟨rfl, rfl, step tmn _ (app l2 h2) q7 q0 q5 q1 (k6 q6)⟩⟩
  · refine ⟨by decide, by decide, repeat_ok (n := n) (from0 := ((l.length : Nat) : Int) - 1 - (x / 512) % 200) (l := l) hn1 hl (by omega) (by omega) (by kernel_rfl) (by kernel_rfl) (by kernel_rfl) (by kernel_rfl) fun tm' l' hl' q5 ⟨q6, q7, q0, q1⟩ => ?_⟩
    refine r20_ok (i := i) (q7.trans (by kernel_rfl)) fun tmn r7 r5 r0 r1 r6 => ⟨rfl, rfl, step tmn l' (by omega) r7 (r0.trans (q0.trans (by kernel_rfl))) (r5.trans q5) (r1.trans (q1.trans (by kernel_rfl))) (r6.trans (q6.trans (Eq.trans (by kernel_rfl) t6k)))⟩
  · refine ⟨by decide, by decide, repeat_ok (n := n) (from0 := ((l.length : Nat) : Int) - 1 - (x / 512) % 200) (l := l) hn1 hl (by omega) (by omega) (by kernel_rfl) (by kernel_rfl) (by kernel_rfl) (by kernel_rfl) fun tm' l' hl' q5 ⟨q6, q7, q0, q1⟩ => ?_⟩
    refine r20_ok (i := i) (q7.trans (by kernel_rfl)) fun tmn r7 r5 r0 r1 r6 => ⟨rfl, rfl, step tmn l' (by omega) r7 (r0.trans (q0.trans (by kernel_rfl))) (r5.trans q5) (r1.trans (q1.trans (by kernel_rfl))) (r6.trans (q6.trans (Eq.trans (by kernel_rfl) t6k)))⟩
  · refine ⟨by decide, by decide, repeat_ok (n := n) (from0 := ((l.length : Nat) : Int) - 1 - (x / 512) % 200) (l := l) hn1 hl (by omega) (by omega) (by kernel_rfl) (by kernel_rfl) (by kernel_rfl) (by kernel_rfl) fun tm' l' hl' q5 ⟨q6, q7, q0, q1⟩ => ?_⟩
    refine r20_ok (i := i) (q7.trans (by kernel_rfl)) fun tmn r7 r5 r0 r1 r6 => ⟨rfl, rfl, step tmn l' (by omega) r7 (r0.trans (q0.trans (by kernel_rfl))) (r5.trans q5) (r1.trans (q1.trans (by kernel_rfl))) (r6.trans (q6.trans (Eq.trans (by kernel_rfl) t6k)))⟩
  · exact noise_ok (by decide) fun l2 h2 => ⟨l2, rfl, by omega, fun tmn _ _ _ _ q5 _ q6 _ q7 q0 q1 => ⟨rfl, rfl, step tmn _ (app l2 h2) q7 q0 q5 q1 (k6 q6)⟩⟩
  · exact ⟨by decide, noise_ok (by decide) fun l2 h2 => ⟨l2, rfl, by omega, fun tmn _ _ _ _ q5 _ q6 _ q7 q0 q1 => ⟨rfl, rfl, step tmn _ (app l2 h2) q7 q0 q5 q1 (k6 q6)⟩⟩⟩
  · refine words_ok (n := n) (kk := x) (l := l) hn1 hl sw (by kernel_rfl) (by kernel_rfl) (by kernel_rfl) (Eq.trans (by kernel_rfl) t6k) (by kernel_rfl) fun tm' l' hl' q5 ⟨q6, q7, q0, q1⟩ => ?_
    refine r20_ok (i := i) (q7.trans (by kernel_rfl)) fun tmn r7 r5 r0 r1 r6 => ⟨rfl, rfl, step tmn l' (by omega) r7 (r0.trans (q0.trans (by kernel_rfl))) (r5.trans q5) (r1.trans (q1.trans (by kernel_rfl))) (r6.trans (q6.trans (Eq.trans (by kernel_rfl) t6k)))⟩

end Go.Proofs.Ytbkafllejpbimaa

namespace Go.Proofs.Ytbkafllejpbimaa
open Go.Sim

theorem Inc.la {es : List Int} {L : Nat} (h : Inc es L) : ∀ i, i ≤ es.length → 0 ≤ la es i ∧ la es i ≤ L := by
  have h0 : ∀ i, i ≤ es.length → 0 ≤ Proofs.Ytbkafllejpbimaa.la es i := by
    intro i
    induction i with
    | zero => intro _; exact Int.le_refl _
    | succ i ih => intro hi; exact Int.le_trans (ih (by omega)) (h i (by omega)).1
  intro i hi
  refine ⟨h0 i hi, ?_⟩
  cases i with
  | zero => exact Int.natCast_nonneg _
  | succ i => exact (h i (by omega)).2

theorem take_slice (s : List UInt8) {x z : Nat} (h : x ≤ z) : s.take x ++ sliceS s x z = s.take z := by
  unfold sliceS
  have : z = x + (z - x) := by omega
  conv => rhs; rw [this, List.take_add]

set_option maxRecDepth 100000 in
theorem whole_ok {v : V} {nums : List Int} {n : Int} {h : H} {Q : V → H → Prop} (sl : Sl h v 1 nums.length (ints nums)) (hlen : nums.length < 9223372036854775808) (hn : h.next + 20000 ≤ T.top) (hlow : h.low ≤ T.top) (hq : ∀ h', Q (.bool true) h') : RF P ctx 5 [v, .int .i64 n] h Q := by
  refine RF.enterE ctx_ok fn5 (ble _ _ rfl) (ble _ _ rfl) (vb5 v n h Q) (input_ok sl hlen (by omega) fun h1 s x1 hs => ⟨s, rfl, ?_⟩)
  have u1 := x1.top
  refine params_ok (by omega) (Nat.le_trans x1.low hlow) fun h4 a b d e sy u x4 hc => ⟨_, _, _, _, _, _, rfl, by have := x4.top; omega, ?_⟩
  have u4 := x4.top
  have l4 := x4.le
  rintro p11 h12 rfl e12
  have n12 : h12.next = h4.next + 1 := by rw [e12, new_next]
  have x12 : Ext h4 h12 1 := by rw [e12]; exact Ext.new _ (by omega)
  have s12 : h12.get h4.next = some (cellsP 0 0 0 0 false false) := by rw [e12]; exact get_new_self _ (by omega)
  have y4 := x1.trans x4
  obtain ⟨h13, e13, x13, g13, n13⟩ : ∃ h13, ast ctx 24 h12 (.ptr h4.next 0) (.agg [.int .i64 a, .int .i64 b, .int .i64 d, .int .i64 e, .bool sy, .bool u]) = some h13 ∧ Ext h h13 20 ∧ h13.get h4.next = some (cellsP a b d e sy u) ∧ h13.next = h12.next :=
    ⟨_, ast_at ty24 s12 rfl (Nat.le_refl _) rfl rfl, ((y4.trans x12).upd _ (by omega) (by have := y4.le; omega)).mono (by omega), get_upd_self _ (by omega), rfl⟩
  have u13 := x13.top
  have lo13 : h13.low ≤ T.top := Nat.le_trans x13.low hlow
  refine ⟨h13, e13, _, _, _, _, _, _, ald_agg ty24 rfl g13 rfl, tableI_ok hc (by omega) (by omega) lo13 fun h21 w es x21 st inc ne0 ele hla => ⟨_, _, rfl, ?_⟩⟩
  have u21 := x21.top
  refine ⟨_, _, _, _, _, _, ald_agg ty24 rfl ((x21.get _ (by omega)).trans g13) rfl, refPrefix_ok (by omega) fun h31 x31 => ⟨_, _, rfl, fun c => absurd rfl c, fun _ => ⟨fun c => absurd hc c, fun _ => ?_⟩⟩⟩
  rw [if_pos hc]
  have u31 := x31.top
  have st31 : Sl h31 w 3 (jt (pre b e) es es.length).length (jl (jt (pre b e) es es.length)) := by rw [jt_len]; exact st.ext x31
  have lo31 : h31.low ≤ T.top := Nat.le_trans x31.low (Nat.le_trans x21.low lo13)
  obtain ⟨q1, q2, q3, q4⟩ := chk_ok hc
  have hpre := pre_le (b := b) (e := e) q2
  refine ⟨_, st31.len ty27 rfl, fun c => absurd c (by rw [jt_len]; omega), fun _ => ?_⟩
  have hlas := inc.la
  refine loop_wp (fun k tmk h' => ∃ i : Nat, i ≤ es.length ∧ k = es.length - i ∧ Ext h31 h' i ∧ getV tmk 12 = .int .i64 i ∧ getV tmk 7 = w ∧ getV tmk 5 = .str s ∧ getV tmk 11 = .str (s.take (la es i).toNat) ∧ getV tmk 9 = .int .i64 (pre b e)) es.length ?_ ?_
  · exact ⟨0, by omega, by omega, Ext.refl _, by kernel_rfl, by kernel_rfl, by kernel_rfl, by kernel_rfl, by kernel_rfl⟩
  rintro k tmk h' ⟨i, i1, rfl, xx, t12, t7, t5, t11, t9⟩
  rw [tm5 rfl t12 t7 t5 t11 t9]
  have ux := xx.top
  have stk := st31.ext xx
  obtain ⟨f1, f2⟩ := hlas i i1
  have hal : (s.take (la es i).toNat).length = (la es i).toNat := by rw [List.length_take]; omega
  refine wpC.seal _ (vl5_0 _ _ _ _ _ _ _ _ _) ⟨_, stk.len ty27 rfl, fun c1 => ?_, fun c1 tmz _ _ _ q5 q11 _ => ?_⟩
  · rw [jt_len] at c1
    have hi : i < es.length := by omega
    obtain ⟨g1, g2⟩ := inc i hi
    have hj := jt_get (pre b e) es (n := es.length) hi
    obtain ⟨pb, po, a1, a2, a3, _⟩ := at3 stk hj
    refine ⟨pb, po, a1, _, _, _, a2, parts_ok (by omega) (Nat.le_trans xx.low lo31) fun h7 x7 => ?_⟩
    have hp : partsR s (la es i) (es.getD i 0) (max 0 (la es i - pre b e)) = .tuple [.str (sliceS s (max 0 (la es i - pre b e)).toNat (la es i).toNat), .str (sliceS s (la es i).toNat (es.getD i 0).toNat), .int .i64 0] := by
      unfold partsR; rw [if_pos (by omega)]
    obtain ⟨pb2, po2, b1, _, b3, _⟩ := at3 (stk.ext x7) hj
    have hof : ∀ l : List UInt8, Int.ofNat l.length = ((l.length : Nat) : Int) := fun _ => rfl
    refine ⟨_, _, _, hp, fun c => absurd rfl c, fun _ => ⟨pb2, po2, b1, _, b3, fun c => absurd (by rw [hof, hal]; omega) c, fun _ => ⟨fun c => absurd (by rw [hof, hof, hal, sliceS_len]; omega) c, fun _ => ⟨by rw [hal, sliceS_len]; omega, fun tmn _ q12 q7 q5 q11 q9 => ⟨rfl, rfl, es.length - (i + 1), by omega, i + 1, by omega, rfl, xx.trans x7, ?_, q7, q5, ?_, q9⟩⟩⟩⟩⟩
    · rw [q12, w64_id (by omega) (by omega)]; rfl
    · rw [q11, take_slice s (by omega)]; rfl
  · rw [jt_len] at c1
    have hi : i = es.length := by omega
    subst hi
    have hall : s.take (la es es.length).toNat = s := by rw [hla]; exact List.take_of_length_le (by omega)
    rw [hall] at q11
    show wpC P ctx false r5_1 ⟨88, tmz, [], h'⟩ _
    rw [tm2 rfl q11 q5]
    refine wpC.seal _ (vr5_1 _ _ _ _ _ _) ⟨fun _ => awake_ok ⟨true, rfl, fun _ tm2 r4 _ _ _ _ _ => ?_, fun g => (by cases g)⟩, fun c => absurd rfl c⟩
    show Q (getV tm2 4) h'
    rw [r4]; exact hq _

end Go.Proofs.Ytbkafllejpbimaa

namespace Go.Proofs.Ytbkafllejpbimaa
open Go.ChangeShapes Go.WideShapes Go.ChangeAt Go.RowKit

theorem Whole.own : ownKnob Try.prog.godebug = none := by kernel_rfl

theorem jobsWhole_true : Go.Sim.TrueInts Try.prog ctx 5 := fun _ _ _ _ sl hl hn hlow =>
  whole_ok sl hl (Nat.le_trans (Nat.add_le_add_right hn 20000) (of_decide_eq_true (by kernel_rfl))) hlow fun _ => rfl

set_option maxRecDepth 100000 in
theorem jobsWhole_lifted (os : Os) (started : os.Started) (H : Type) (enc : TypeId × Value → H) :
    ReturnsInHanded {} Try.checked os 5 .any (Rows.jobsWholeSpec.pre6 enc Try.prog Try.f5 Rows.jobsWholeRow.domain false) (Rows.jobsWholeSpec.post enc Try.prog Try.f5 false true false false) := by
  refine returnsInHanded_of_change (C := Try.checked) Whole.own started (by kernel_rfl) Try.func5
    (ChangeSpec.witness6 (enc := enc) (C := Try.checked) false ⟨#[], #[.slice none 0 0, .int .i64 0], []⟩ 8 (by kernel_rfl) (by kernel_rfl) (by kernel_rfl) (by kernel_rfl)) ?_
  intro W base args ds gs before hval0 hW _ _
  have hval : ∀ (j : Nat) t v, Try.f5.params[j]? = some t → args[j]? = some v → Value.okWide Try.prog W .any base t v := hval0
  have hW' := hW
  obtain ⟨p, q, hA0, hV, rfl, _, _⟩ := hW
  have hA : DataW.TrodAll enc Try.prog W 0 (fun _ => true) true Try.f5.params.toList args.toList ds p := hA0
  rw [Try.params5] at hA
  obtain ⟨v0, v1, d0, d1, p0, p1, rfl, rfl, rfl, h0, h1⟩ := trodAll_two hA
  obtain ⟨rfl, rfl⟩ := trodVars_none hV
  exact Go.Sim.ints_law jobsWhole_true Try.underlying22 Try.underlying3 (by kernel_rfl) Try.underlying3 Try.underlying4 Try.params5 rfl (fun _ _ => rfl) (fun _ _ => rfl) (fun _ => by exact (rfl : ([] : List MemPlace) = [])) rfl hval hW' h0 h1

theorem jobsWhole_holds : Rows.JobsWholeSaid :=
  OpenClaim.holds_of_wide 5 Try.f5 rfl rfl rfl rfl rfl rfl rfl ⟨rfl, rfl, rfl, rfl, rfl⟩ rfl rfl rfl rfl rfl (by kernel_rfl) Try.func5 (by kernel_rfl)
    (of_decide_eq_true (by kernel_rfl)) (by unfold Func.isWrapper; first | (rw [if_pos (by decide +kernel)]; kernel_rfl) | (rw [if_neg (by decide +kernel)]; exact ⟨rfl, rfl⟩))
    (fun os started H enc _ => jobsWhole_lifted os started H enc)

end Go.Proofs.Ytbkafllejpbimaa
