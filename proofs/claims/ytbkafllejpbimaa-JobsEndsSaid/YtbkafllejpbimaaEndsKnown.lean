/- The law JobsEnds: whatever the parameters, the lists, the string and the job, it returns true. No condition. -/
import Derived.Test.YtbkafllejpbimaaM2
import Derived.Test.YtbkafllejpbimaaSimTwo
import Derived.ProofKit

namespace Go.Proofs.Ytbkafllejpbimaa
open Go.Sim

theorem neq33' (p q : Operand) (x z y x' z' y' : Int) : ∃ b, abin ctx .neq 33 p q (.agg (job x z y)) (.agg (job x' z' y')) = some (.bool b) ∧ (b = true ↔ (x, z, y) ≠ (x', z', y')) := by
  have e : abin ctx .neq 33 p q (.agg (job x z y)) (.agg (job x' z' y')) = (match (match some (eqF x x') with | some true => (match some (eqF z z') with | some true => (match some (eqF y y') with | some true => some true | r => r) | r => r) | r => r) with | some r => some (.bool (!r)) | none => none) := by kernel_rfl
  rw [e, eqF_eq, eqF_eq, eqF_eq]
  by_cases h1 : x = x' <;> by_cases h2 : z = z' <;> by_cases h3 : y = y' <;> simp [h1, h2, h3]

set_option maxRecDepth 100000 in
theorem sameJobs_ok {v w : V} {l m : List (Int × Int × Int)} {h : H} {Q : V → H → Prop} (s1 : Sl h v 3 l.length (jl l)) (s2 : Sl h w 3 m.length (jl m)) (hl : l.length < 4611686018427387904) (hn : h.next ≤ T.top) (hlo : h.low ≤ T.top)
    (hq : Q (.bool (decide (l = m))) h) : RF P ctx 13 [v, w] h Q := by
  refine RF.enterE ctx_ok fn13 (ble _ _ rfl) (ble _ _ rfl) (vb13 v w h Q) ⟨_, s1.len ty27 rfl, _, s2.len ty27 rfl, fun h1 => ?_, fun h1 => ?_⟩
  · have : ¬ l = m := fun e => h1 (by rw [e])
    simpa [this] using hq
  · have hlm : l.length = m.length := by omega
    refine loop_wp (fun k tm h' => ∃ i : Nat, i ≤ l.length ∧ k = l.length - i ∧ h' = h ∧ getV tm 5 = .int .i64 i ∧ getV tm 0 = v ∧ getV tm 1 = w ∧ ∀ j, j < i → l[j]? = m[j]?) l.length ?_ ?_
    · exact ⟨0, by omega, by omega, rfl, by kernel_rfl, by kernel_rfl, by kernel_rfl, fun j hj => by omega⟩
    · rintro k tm h' ⟨i, h2, rfl, rfl, t5, t0, t1, hs⟩
      rw [tm3 rfl t5 t0 t1]
      refine wpC.seal _ (vl13_0 _ _ _ _ _ _ _) ⟨_, s1.len ty27 rfl, fun h3 => ⟨⟨hn, hlo⟩, ?_⟩, fun h3 tmz _ _ _ _ => ?_⟩
      · have hi : i < l.length := by omega
        obtain ⟨⟨x, z, y⟩, hx⟩ : ∃ p, l[i]? = some p := ⟨l[i], List.getElem?_eq_getElem hi⟩
        obtain ⟨⟨x', z', y'⟩, hx'⟩ : ∃ p, m[i]? = some p := ⟨m[i]'(by omega), List.getElem?_eq_getElem (by omega)⟩
        obtain ⟨b, o, a1, a2, _⟩ := at3 s1 hx
        obtain ⟨b', o', a1', a2', _⟩ := at3 s2 hx'
        obtain ⟨r, e, hr⟩ := neq33' (t 20) (t 24) x z y x' z' y'
        refine ⟨b, o, a1, x, z, y, a2, b', o', a1', x', z', y', a2', r, e, fun g tmn q4 _ _ _ => ?_, fun g tmn _ q5 q0 q1 => ?_⟩
        · show Q (getV tmn 4) h'
          rw [q4]
          have : ¬ l = m := fun q => by rw [q, hx'] at hx; exact (hr.1 g) (Option.some.inj hx).symm
          simpa [this] using hq
        · refine ⟨rfl, rfl, l.length - (i + 1), by omega, i + 1, by omega, rfl, rfl, ?_, q0, q1, fun j hj => ?_⟩
          · rw [q5, w64_id (by omega) (by omega)]; rfl
          · rcases Nat.lt_or_ge j i with q | q
            · exact hs j q
            · obtain rfl : j = i := by omega
              rw [hx, hx']
              have : ¬ (x, z, y) ≠ (x', z', y') := fun q => by rw [hr.2 q] at g; cases g
              rw [Classical.not_not.1 this]
      · have hi : i = l.length := by omega
        show wpC P ctx false r13_1 ⟨26, tmz, [], h'⟩ _
        refine wpC.seal _ (vr13_1 _ _ _ _) fun tm2 q4 _ _ _ => ?_
        show Q (getV tm2 4) h'
        rw [q4]
        have : l = m := List.ext_getElem? fun j => by
          rcases Nat.lt_or_ge j i with q | q
          · exact hs j q
          · rw [List.getElem?_eq_none (by omega), List.getElem?_eq_none (by omega)]
        simpa [this] using hq

set_option maxRecDepth 100000 in
theorem sameInts_ok {v w : V} {l m : List Int} {h : H} {Q : V → H → Prop} (s1 : Sl h v 1 l.length (ints l)) (s2 : Sl h w 1 m.length (ints m)) (hl : l.length < 4611686018427387904) (hn : h.next ≤ T.top) (hlo : h.low ≤ T.top)
    (hq : Q (.bool (decide (l = m))) h) : RF P ctx 14 [v, w] h Q := by
  refine RF.enterE ctx_ok fn14 (ble _ _ rfl) (ble _ _ rfl) (vb14 v w h Q) ⟨_, s1.len ty22 rfl, _, s2.len ty22 rfl, fun h1 => ?_, fun h1 => ?_⟩
  · have : ¬ l = m := fun e => h1 (by rw [e])
    simpa [this] using hq
  · have hlm : l.length = m.length := by omega
    refine loop_wp (fun k tm h' => ∃ i : Nat, i ≤ l.length ∧ k = l.length - i ∧ h' = h ∧ getV tm 5 = .int .i64 i ∧ getV tm 0 = v ∧ getV tm 1 = w ∧ ∀ j, j < i → l[j]? = m[j]?) l.length ?_ ?_
    · exact ⟨0, by omega, by omega, rfl, by kernel_rfl, by kernel_rfl, by kernel_rfl, fun j hj => by omega⟩
    · rintro k tm h' ⟨i, h2, rfl, rfl, t5, t0, t1, hs⟩
      rw [tm3 rfl t5 t0 t1]
      refine wpC.seal _ (vl14_0 _ _ _ _ _ _ _) ⟨_, s1.len ty22 rfl, fun h3 => ⟨⟨hn, hlo⟩, ?_⟩, fun h3 tmz _ _ _ _ => ?_⟩
      · have hi : i < l.length := by omega
        have hx : l[i]? = some (l.getD i 0) := by simp [List.getD, hi]
        have hx' : m[i]? = some (m.getD i 0) := by simp [List.getD, show i < m.length by omega]
        obtain ⟨b, o, a1, a2⟩ := s1.at1 (c := ctx) hi ty22 rfl ty3 rfl rfl (ints_get hi)
        obtain ⟨b', o', a1', a2'⟩ := s2.at1 (c := ctx) (i := i) (by omega) ty22 rfl ty3 rfl rfl (ints_get (by omega))
        refine ⟨b, o, a1, _, a2, b', o', a1', _, a2', fun g tmn q4 _ _ _ => ?_, fun g tmn _ q5 q0 q1 => ?_⟩
        · show Q (getV tmn 4) h'
          rw [q4]
          have : ¬ l = m := fun q => g (by rw [q])
          simpa [this] using hq
        · refine ⟨rfl, rfl, l.length - (i + 1), by omega, i + 1, by omega, rfl, rfl, ?_, q0, q1, fun j hj => ?_⟩
          · rw [q5, w64_id (by omega) (by omega)]; rfl
          · rcases Nat.lt_or_ge j i with q | q
            · exact hs j q
            · obtain rfl : j = i := by omega
              rw [hx, hx', Classical.not_not.1 g]
      · have hi : i = l.length := by omega
        show wpC P ctx false r14_1 ⟨26, tmz, [], h'⟩ _
        refine wpC.seal _ (vr14_1 _ _ _ _) fun tm2 q4 _ _ _ => ?_
        show Q (getV tm2 4) h'
        rw [q4]
        have : l = m := List.ext_getElem? fun j => by
          rcases Nat.lt_or_ge j i with q | q
          · exact hs j q
          · rw [List.getElem?_eq_none (by omega), List.getElem?_eq_none (by omega)]
        simpa [this] using hq

/-- An empty slice written down. -/
theorem build0 {h : H} (hn : h.next < T.top) : abuildSlice ctx 22 0 [] h = some (.slice h.next 0 0 (.exact 0), h.new (.cells (.ls []) ⟨0, 4, 0⟩ true false)) := by
  have e1 : abuildSlice ctx 22 0 [] h = (match newC h (some (.ls [])) ⟨0, 4, 0⟩ false with | some (b, h') => some (.slice b 0 0 (.exact 0), h') | none => none) := by kernel_rfl
  rw [e1]
  unfold newC
  rw [(blt_iff _ _).2 hn]
  rfl

theorem allOne_ints (l : List Int) : allOne (ints l) = true := by
  induction l with
  | nil => rfl
  | cons a l ih => exact ih

theorem own_ok {v : V} {l : List Int} {h : H} {Q : V → H → Prop} (s : Sl h v 1 l.length (ints l)) (hz : l.length = 0 → srcCells 1 h v = some (0, [])) (hlen : l.length ≤ 262143) (hn : h.next + 2 ≤ T.top)
    (hq : ∀ h' w, Ext h h' 2 → Sl h' w 1 l.length (ints l) → Q w h') : RF P ctx 11 [v] h Q := by
  refine RF.enterE ctx_ok fn11 (ble _ _ rfl) (ble _ _ rfl) (vb11 v h Q) ⟨_, _, build0 (by omega), trivial, ?_⟩
  generalize e1 : h.new (.cells (.ls []) ⟨0, 4, 0⟩ true false) = h1
  have x1 : Ext h h1 1 := by rw [← e1]; exact Ext.new _ (by omega)
  have g1 : h1.get h.next = some (.cells (.ls []) ⟨0, 4, 0⟩ true false) := by rw [← e1]; exact get_new_self _ (by omega)
  have u1 := x1.top
  have n1 : h.next < h1.next := by rw [← e1, new_next]; omega
  rcases Nat.eq_zero_or_pos l.length with h0 | h0
  · have hl : l = [] := List.eq_nil_of_length_eq_zero h0
    have hsrc : srcCells te3.size h1 v = some (0, []) := by
      have hz0 := hz h0
      obtain ⟨_, ⟨rfl, _⟩ | ⟨b, o, cp, cs, k, w, op, rfl, hb, hg, _⟩⟩ := s
      · rfl
      · refine Eq.trans ?_ hz0
        have e := x1.get b hb
        unfold srcCells
        simp only [e]
    refine ⟨.slice h.next 0 0 (.exact 0), h1.upd h.next (some (.cells (.ls []) ⟨0, 4, 0⟩ true false)), ?_, ?_⟩
    · unfold aappend
      rw [ty22]
      simp only [te3_at, hsrc]
      show appTo te3 h1 0 [] (.slice h.next 0 0 (.exact 0)) = _
      unfold appTo
      simp only [g1]
      rfl
    · subst hl
      exact hq _ _ ((x1.upd _ (by omega) (Nat.le_refl _)).mono (by omega)) ⟨rfl, .inr ⟨h.next, 0, _, _, _, _, _, rfl, n1, get_upd_self _ (by omega), fun i hi => by simp at hi⟩⟩
  · have hsl := s.ext x1
    have hlen2 : (ints l).length = l.length := by simp [ints]
    obtain ⟨cs, c1, c2⟩ := Cs.ofL_some (l := ints l) (by rw [hlen2]; omega)
    obtain ⟨c3, c4⟩ := Cs.ofL_eq c1
    refine ⟨.slice h1.next 0 l.length (.skip 0), h1.new (.cells cs (rkOf te3) true true), ?_, ?_⟩
    · unfold aappend
      rw [ty22]
      simp only [te3_at, hsl.src (esz := te3.size) (by decide) h0]
      show appTo te3 h1 l.length (ints l) (.slice h.next 0 0 (.exact 0)) = _
      unfold appTo
      simp only [g1]
      unfold appExact
      have e2 : Nat.ble (0 + l.length) 0 = false := by cases hb : Nat.ble (0 + l.length) 0 with
        | false => rfl
        | true => have := Nat.le_of_ble_eq_true hb; omega
      rw [e2, cond_false]
      have e3 : appR (.ls []) 0 (0 * te3.size) (ints l) = some cs := by
        show cond (allOne ([] ++ ints l)) (Cs.ofL ([] ++ ints l)) none = _
        rw [List.nil_append, allOne_ints, cond_true, c1]
      rw [e3, Nat.zero_add]
      exact growNew_is (by show l.length * 8 ≤ _; omega) (by omega)
    · exact hq _ _ (x1.trans (Ext.new _ (by omega))) ⟨by rw [hlen2]; omega, .inr ⟨h1.next, 0, _, cs, _, _, _, rfl, by rw [new_next]; omega, get_new_self _ (by omega), fun i hi => by rw [c4, Nat.zero_add]⟩⟩

end Go.Proofs.Ytbkafllejpbimaa

namespace Go.Proofs.Ytbkafllejpbimaa
open Go.Sim

set_option maxRecDepth 100000 in
theorem refCheck_ok {a b d e : Int} {s u : Bool} {h : H} {Q : V → H → Prop} (hn : h.next < T.top) (hq : ∀ h', Ext h h' 1 → Q (.int .i64 (chk a b d e)) h') : RF P ctx 32 [par a b d e s u] h Q := by
  refine RF.enterE ctx_ok fn32 (ble _ _ rfl) (ble _ _ rfl) (vb32 a b d e s u h Q) ⟨hn, ?_⟩
  rintro p h1 rfl rfl
  have hg := get_new_self (h := h) (.cells (.ls [.int .i64 a, .int .i64 b, .int .i64 d, .int .i64 e, .bool s, .bool u]) ⟨0, 25, 0⟩ true false) hn
  have hx := Ext.new (h := h) (.cells (.ls [.int .i64 a, .int .i64 b, .int .i64 d, .int .i64 e, .bool s, .bool u]) ⟨0, 25, 0⟩ true false) hn
  have hq := hq _ hx
  unfold chk at hq
  refine ⟨_, ald_one ty3 rfl hg rfl, fun c => by rwa [if_neg (by omega)] at hq, fun c1 => ?_⟩
  refine ⟨_, ald_one ty3 rfl hg rfl, fun c => by rwa [if_neg (by omega)] at hq, fun c2 => ?_⟩
  refine ⟨_, ald_one ty3 rfl hg rfl, fun c => by rwa [if_neg (by omega)] at hq, fun c3 => ?_⟩
  refine ⟨_, ald_one ty3 rfl hg rfl, fun c => by rwa [if_neg (by omega)] at hq, fun c4 => ?_⟩
  refine ⟨_, ald_one ty3 rfl hg rfl, fun c => by rwa [if_neg (by omega)] at hq, fun c5 => ?_⟩
  refine ⟨_, ald_one ty3 rfl hg rfl, fun c => by rwa [if_neg (by omega)] at hq, fun c6 => ?_⟩
  refine ⟨_, ald_one ty3 rfl hg rfl, fun c => by rwa [if_neg (by omega)] at hq, fun c7 => ?_⟩
  refine ⟨_, ald_one ty3 rfl hg rfl, fun c => by rwa [if_neg (by omega)] at hq, fun c8 => ?_⟩
  rwa [if_pos (by omega)] at hq

theorem shl_i64 {n : Nat} (h : n < 63) : intB .shl .i64 1 (n : Int) = some (.int .i64 ((2 ^ n : Nat) : Int)) := by
  have h1 : Nat.ble n 64 = true := Nat.ble_eq_true_of_le (by omega)
  have h2 : (2 ^ n : Nat) < 9223372036854775808 := by
    calc (2 ^ n : Nat) < 2 ^ 63 := Nat.pow_lt_pow_right (by omega) h
      _ = _ := by decide
  show cond (ltF (n : Int) 0) none (some (V.int .i64 (wrapF .i64 (shlF 1 (cond (Nat.ble n 64) n 64))))) = _
  rw [h1, cond_true, ltF_eq, shlF_eq]
  have h3 : decide ((n : Int) < 0) = false := by simp
  rw [h3, cond_false]
  have e : (1 : Int) * 2 ^ n = ((2 ^ n : Nat) : Int) := by rw [Int.one_mul, Int.natCast_pow]; rfl
  rw [e]
  exact congrArg _ (congrArg _ (w64_id (Int.le_trans (by decide) (Int.natCast_nonneg _)) (Int.lt_of_lt_of_le (Int.ofNat_lt.2 h2) (by decide))))

theorem wrap_u64 {n : Nat} (h : n < 18446744073709551616) : wrapF .u64 (n : Int) = (n : Int) := by
  rw [wrapF_eq]
  simp only [IntKind.wrap, IntKind.bits, IntKind.signed]; simp; omega

theorem chk_02 (a b d e : Int) : chk a b d e = 0 ∨ chk a b d e = 2 := by unfold chk; split <;> simp

set_option maxRecDepth 100000 in
theorem window_ok {a b d e : Int} {s u : Bool} {h : H} {Q : V → H → Prop} (hn : h.next + 2 ≤ T.top)
    (hq : ∀ h', Ext h h' 2 → Q (.tuple [.int .i64 (if chk a b d e = 0 then ((2 ^ b.toNat : Nat) : Int) else 0), .int .i64 (chk a b d e)]) h') : RF P ctx 39 [par a b d e s u] h Q := by
  refine RF.enterE ctx_ok fn39 (ble _ _ rfl) (ble _ _ rfl) (vb39 a b d e s u h Q) ⟨by omega, ?_⟩
  rintro p h1 rfl e1
  have n1 : h1.next = h.next + 1 := by rw [e1, new_next]
  have x1 : Ext h h1 1 := by rw [e1]; exact Ext.new _ (by omega)
  have s1 : h1.get h.next = some (cellsP a b d e s u) := by rw [e1]; exact get_new_self _ (by omega)
  refine ⟨_, _, _, _, _, _, ald_agg ty24 rfl s1 rfl, refCheck_ok (by omega) fun h9 x9 => ⟨_, rfl, fun g => ?_, fun g => ?_⟩⟩
  · have hq := hq h9 (x1.trans x9)
    rwa [if_neg g] at hq
  · have g : chk a b d e = 0 := Classical.not_not.1 g
    have hq := hq h9 (x1.trans x9)
    rw [if_pos g, g] at hq
    obtain ⟨c1, c2, c3, c4⟩ := chk_ok g
    obtain ⟨n, rfl⟩ : ∃ n : Nat, b = n := ⟨b.toNat, by omega⟩
    refine ⟨_, ald_one ty3 rfl ((x9.get _ (by omega)).trans s1) rfl, _, by rw [wrap_u64 (by omega)]; exact shl_i64 (by omega), ?_⟩
    exact hq

theorem tdiv2 (n : Nat) : Int.tdiv (n : Int) 2 = ((n / 2 : Nat) : Int) := by
  rw [Int.tdiv_eq_ediv_of_nonneg (Int.natCast_nonneg _)]; rfl

set_option maxRecDepth 100000 in
theorem refPrefix_ok {a b d e : Int} {s u : Bool} {h : H} {Q : V → H → Prop} (hn : h.next + 3 ≤ T.top)
    (hq : ∀ h', Ext h h' 3 → Q (.tuple [.int .i64 (if chk a b d e = 0 then pre b e else 0), .int .i64 (chk a b d e)]) h') : RF P ctx 22 [par a b d e s u] h Q := by
  refine RF.enterE ctx_ok fn22 (ble _ _ rfl) (ble _ _ rfl) (vb22 a b d e s u h Q) ⟨by omega, ?_⟩
  rintro p h1 rfl e1
  have n1 : h1.next = h.next + 1 := by rw [e1, new_next]
  have x1 : Ext h h1 1 := by rw [e1]; exact Ext.new _ (by omega)
  have s1 : h1.get h.next = some (cellsP a b d e s u) := by rw [e1]; exact get_new_self _ (by omega)
  refine ⟨_, _, _, _, _, _, ald_agg ty24 rfl s1 rfl, window_ok (by omega) fun h9 x9 => ⟨_, _, rfl, fun g => ?_, fun g => ?_⟩⟩
  · have hq := hq h9 (x1.trans x9)
    rwa [if_neg g] at hq
  · have g : chk a b d e = 0 := Classical.not_not.1 g
    have hq := hq h9 (x1.trans x9)
    rw [if_pos g] at hq
    rw [g] at hq ⊢
    obtain ⟨c1, c2, c3, c4⟩ := chk_ok g
    have s9 := (x9.get _ (by omega)).trans s1
    refine ⟨_, ald_one ty3 rfl s9 rfl, fun g0 => ?_, fun g0 => ⟨_, ald_one ty3 rfl s9 rfl, ?_⟩⟩
    · unfold pre at hq; rwa [if_pos g0] at hq
    · unfold pre at hq; rw [if_neg g0] at hq
      rw [if_pos rfl]
      have hp : 2 ^ b.toNat ≤ 2 ^ 27 := Nat.pow_le_pow_right (by omega) (by omega)
      have hp2 : ∀ i : Nat, 2 ^ b.toNat / 2 ^ i ≤ 134217728 := fun i => Nat.le_trans (Nat.div_le_self _ _) hp
      refine loop_wp (fun k tm h' => ∃ i : Nat, e + i ≤ 9 ∧ k = (9 - (e + i)).toNat ∧ h' = h9 ∧ getV tm 6 = .int .i64 (e + i) ∧ getV tm 4 = .int .i64 ((2 ^ b.toNat / 2 ^ i : Nat) : Int)) (9 - e).toNat ?_ ?_
      · exact ⟨0, by omega, by simp, rfl, by simp; kernel_rfl, by simp; kernel_rfl⟩
      · rintro k tm h' ⟨i, h2, rfl, rfl, t6, t4⟩
        rw [tm2 rfl t6 t4]
        refine wpC.seal _ (vl22_0 _ _ _ _ _ _) ⟨fun h3 => ⟨by decide, fun tmz _ _ q6 q4 => ⟨rfl, rfl, (9 - (e + (i + 1 : Nat))).toNat, by omega, i + 1, by omega, rfl, rfl, ?_, ?_⟩⟩, fun h3 tmz _ _ q6 q4 => ?_⟩
        · rw [q6, w64_id (by omega) (by omega)]; congr 1; omega
        · rw [q4, tdiv2, w64_id (Int.le_trans (by decide) (Int.natCast_nonneg _)) (Int.lt_of_le_of_lt (Int.ofNat_le.2 (Nat.le_trans (Nat.div_le_self _ _) (hp2 i))) (by decide)), Nat.div_div_eq_div_mul, ← Nat.pow_succ]
        · show wpC P ctx false r22_1 ⟨29, tmz, [], h'⟩ _
          rw [tm1 rfl q4]
          refine wpC.seal _ (vr22_1 _ _ _ _ _) fun tmn q2 q3 _ _ => ?_
          show Q (.tuple [getV tmn 2, getV tmn 3]) h'
          rw [q2, q3]
          have : (9 - e).toNat = i := by omega
          rw [this] at hq
          exact hq

end Go.Proofs.Ytbkafllejpbimaa

namespace Go.Proofs.Ytbkafllejpbimaa
open Go.Sim

/-- An element written down and put behind a slice of one's own. -/
theorem push_ok {hb h : H} {v z u : V} {te ti : TI} {n m t e : Nat} {xs ys : List V} (x : Ext hb h m) (s : Ow h v te n xs) (vb : ∀ b, vblk v = some b → hb.next ≤ b)
    (ht : ctx.ty.get t = some ti) (hd : ti.desc = .slice e) (he : ctx.ty.get e = some te) (hz : te.zero = some z) (hzl : lenIs z.cells te.size = true) (hu : u.cells = ys) (hl : ys.length = te.size) (hs : te.size ≤ 16) (ho : allOne ys = true) (hok : teOk te = true)
    (hsz : (n + 1) * te.size ≤ 262143) (hby : (n + 1) * te.bytes ≤ 1099511627776) (hn : hb.next + m + 2 ≤ T.top) :
    ∃ v4 h5, abuildSlice ctx t 1 [(0, u)] h = some (v4, h5) ∧ ∃ v6 h7, aappend ctx t h5 v v4 = some (v6, h7) ∧ Ext hb h7 (m + 2) ∧ Ow h7 v6 te (n + 1) (xs ++ ys) ∧ (∀ b, vblk v6 = some b → hb.next ≤ b) := by
  have ux := x.top
  have lx := x.le
  obtain ⟨v4, h5, e5, sl5, x5, vb5⟩ := buildSlice1 (c := ctx) (h := h) (u := u) (ys := ys) ht hd he hz hzl hu hl hs ho (by omega)
  have u5 := x5.top
  have l5 := x5.le
  obtain ⟨v6, h7, e7, ow7, l7, u7, g7, vb7, low7, lo7⟩ := (s.ext x5).append (c := ctx) sl5 (by omega) ht hd he hok ho hsz hby (by omega)
  refine ⟨v4, h5, e5, v6, h7, e7, ?_, ow7, fun b hb => ?_⟩
  · have y := x.trans x5
    exact ⟨Nat.le_trans y.le l7, by have := y.top; omega, fun b hb => (g7 b (by have := y.le; omega) (fun q => by have := vb b q; omega)).trans (y.get b hb), Nat.le_trans low7 y.low, lo7 _ y.lo fun b hb => Nat.le_trans (Nat.min_le_right _ _) (vb b hb)⟩
  · rw [vb7] at hb; cases hb; omega

set_option maxRecDepth 100000 in
theorem refTable_ok {a b d e : Int} {s u : Bool} {v : V} {lst : List Int} {h : H} {Q : V → H → Prop} (hc : chk a b d e = 0) (bn : bnd lst) (hlen : lst.length ≤ 4096) (sl : Sl h v 1 lst.length (ints lst)) (hn : h.next + 4 + 2 * lst.length ≤ T.top)
    (hq : ∀ h' w, Ext h h' (4 + 2 * lst.length) → Ow h' w te33 lst.length (jc (pre b e) lst lst.length) → Q w h') : RF P ctx 33 [par a b d e s u, v] h Q := by
  refine RF.enterE ctx_ok fn33 (ble _ _ rfl) (ble _ _ rfl) (vb33 a b d e s u v h Q) ⟨by omega, ?_⟩
  rintro p0 h1 rfl e1
  have n1 : h1.next = h.next + 1 := by rw [e1, new_next]
  have x1 : Ext h h1 1 := by rw [e1]; exact Ext.new _ (by omega)
  have s1 : h1.get h.next = some (cellsP a b d e s u) := by rw [e1]; exact get_new_self _ (by omega)
  obtain ⟨c1', c2, c3, c4⟩ := chk_ok hc
  have hpre := pre_le (b := b) (e := e) c2
  refine ⟨_, _, _, _, _, _, ald_agg ty24 rfl s1 rfl, refPrefix_ok (by omega) fun h9 x9 => ⟨_, _, rfl, ?_⟩⟩
  rw [if_pos hc]
  have x0 := x1.trans x9
  refine loop_wp (fun k tm h' => ∃ i : Nat, i ≤ lst.length ∧ k = lst.length - i ∧ getV tm 9 = .int .i64 i ∧ getV tm 1 = v ∧ getV tm 8 = .int .i64 (la lst i) ∧ getV tm 5 = .int .i64 (pre b e) ∧
    ∃ w, getV tm 7 = w ∧ Ext h h' (4 + 2 * i) ∧ Ow h' w te33 i (jc (pre b e) lst i) ∧ (∀ b, vblk w = some b → h.next ≤ b)) lst.length ?_ ?_
  · exact ⟨0, by omega, by omega, by kernel_rfl, by kernel_rfl, by kernel_rfl, by kernel_rfl, .nilslice, by kernel_rfl, x0, Ow.nil _ _, fun b hb => (by cases hb)⟩
  · rintro k tm h' ⟨i, h2, rfl, t9, t1, t8, t5, w, t7, xx, ow, vb⟩
    rw [tm5 rfl t9 t1 t7 t8 t5]
    have slk := sl.ext xx
    refine wpC.seal _ (vl33_0 _ _ _ _ _ _ _ _ _) ⟨_, slk.len ty22 rfl, fun h3 => ?_, fun h3 tmz _ _ _ q7 _ _ => ?_⟩
    · have hi : i < lst.length := by omega
      have hla := la_bnd bn h2
      obtain ⟨pb, po, a1, a2⟩ := slk.at1 (c := ctx) (i := i) hi ty22 rfl ty3 rfl rfl (ints_get hi)
      rw [w64_id (n := la lst i - pre b e) (by omega) (by omega)]
      obtain ⟨v4, h5, e5, v6, h7, e7, x7, ow7, vb7⟩ := push_ok (u := .agg (job (la lst i) (lst.getD i 0) (max 0 (la lst i - pre b e)))) xx ow vb ty27 rfl te33_at rfl rfl rfl rfl (Nat.le_of_ble_eq_true rfl) rfl rfl (by show (i + 1) * 3 ≤ 262143; omega) (by show (i + 1) * 24 ≤ _; omega) (by omega)
      obtain ⟨pb2, po2, a3, a4⟩ := (sl.ext x7).at1 (c := ctx) (i := i) hi ty22 rfl ty3 rfl rfl (ints_get hi)
      refine ⟨pb, po, a1, _, a2, v4, h5, e5, trivial, v6, h7, e7, pb2, po2, a3, _, a4, fun tmn _ q9 q1 q7 q8 q5 => ⟨rfl, rfl, lst.length - (i + 1), by omega, i + 1, by omega, rfl, ?_, q1, q8, q5, v6, q7, x7, ow7, vb7⟩⟩
      rw [q9, w64_id (by omega) (by omega)]; rfl
    · have hi : i = lst.length := by omega
      subst hi
      show wpC P ctx false r33_1 ⟨39, tmz, [], h'⟩ _
      rw [tm1 rfl q7]
      refine wpC.seal _ (vr33_1 _ _ _ _ _) fun tm2 q4 _ _ _ _ _ => ?_
      show Q (getV tm2 4) h'
      rw [q4]
      exact hq h' w xx ow

end Go.Proofs.Ytbkafllejpbimaa

namespace Go.Proofs.Ytbkafllejpbimaa
open Go.Sim

set_option maxRecDepth 100000 in
theorem refOf_ok {a b d e : Int} {s u : Bool} {v : V} {l : List Int} {h : H} {Q : V → H → Prop} (sl : Sl h v 1 l.length (ints l)) (hlt : l.length < 4611686018427387904) (hn : h.next + 8200 ≤ T.top) (hlow : h.low ≤ T.top)
    (hq : ∀ h' w, Ext h h' 8200 → (ofE (chk a b d e) l = 0 → Ow h' w te33 l.length (jc (pre b e) l l.length)) → (ofE (chk a b d e) l ≠ 0 → w = .nilslice) → Q (.tuple [w, .int .i64 (ofE (chk a b d e) l)]) h') : RF P ctx 12 [par a b d e s u, v] h Q := by
  refine RF.enterE ctx_ok fn12 (ble _ _ rfl) (ble _ _ rfl) (vb12 a b d e s u v h Q) ⟨by omega, ?_⟩
  rintro p0 h1 rfl e1
  have n1 : h1.next = h.next + 1 := by rw [e1, new_next]
  have x1 : Ext h h1 1 := by rw [e1]; exact Ext.new _ (by omega)
  have s1 : h1.get h.next = some (cellsP a b d e s u) := by rw [e1]; exact get_new_self _ (by omega)
  refine ⟨_, _, _, _, _, _, ald_agg ty24 rfl s1 rfl, refCheck_ok (by omega) fun h9 x9 => ⟨_, rfl, fun g => ?_, fun g => ?_⟩⟩
  · have hE : ofE (chk a b d e) l = chk a b d e := by unfold ofE; rw [if_pos g]
    rw [hE] at hq
    exact hq h9 _ ((x1.trans x9).mono (by omega)) (fun q => absurd q g) fun _ => rfl
  have g0 : chk a b d e = 0 := Classical.not_not.1 g
  have x0 := x1.trans x9
  have u0 := x0.top
  have sl9 := sl.ext x0
  have s9 : h9.get h.next = some (cellsP a b d e s u) := (x9.get _ (by omega)).trans s1
  have lo9 : h9.low ≤ T.top := Nat.le_trans x0.low hlow
  have err : ∀ n : Int, ofE (chk a b d e) l = n → n ≠ 0 → Q (.tuple [.nilslice, .int .i64 n]) h9 := fun n hE h0 => by
    rw [hE] at hq
    exact hq h9 _ (x0.mono (by omega)) (fun q => absurd q h0) fun _ => rfl
  have ng : ¬ chk a b d e ≠ 0 := g
  refine ⟨_, sl9.len ty22 rfl, fun c => ?_, fun c1 => ⟨_, sl9.len ty22 rfl, fun c => ?_, fun c2 => ?_⟩⟩
  · exact err 6 (by unfold ofE; rw [if_neg ng, if_pos (.inl (by omega))]) (by decide)
  · exact err 6 (by unfold ofE; rw [if_neg ng, if_pos (.inr (by omega))]) (by decide)
  have nl : ¬ (l.length = 0 ∨ 4096 < l.length) := by omega
  refine loop_wp (fun k tm h' => ∃ i : Nat, i ≤ l.length ∧ k = l.length - i ∧ h' = h9 ∧ getV tm 7 = .int .i64 i ∧ getV tm 1 = v ∧ getV tm 2 = .ptr h.next 0 ∧ ∀ j, j < i → 0 ≤ l.getD j 0 ∧ l.getD j 0 ≤ 1048576) l.length ?_ ?_
  · exact ⟨0, by omega, by omega, rfl, by kernel_rfl, by kernel_rfl, by kernel_rfl, fun j hj => by omega⟩
  rintro k tm h' ⟨i, h2, rfl, rfl, t7, t1, t2, hs⟩
  have t2' : getV (Tb.set (Tb.set tm 7 (.int .i64 i)) 1 v) 2 = .ptr h.next 0 := by rw [← tm2 rfl t7 t1]; exact t2
  rw [tm2 rfl t7 t1]
  refine wpC.seal _ (vl12_0 _ _ _ _ _ _) ⟨_, sl9.len ty22 rfl, fun h3 => ?_, fun h3 tmz _ _ _ q1 _ q2 => ?_⟩
  · have hi : i < l.length := by omega
    obtain ⟨pb, po, a1, a2⟩ := sl9.at1 (c := ctx) (i := i) hi ty22 rfl ty3 rfl rfl (ints_get hi)
    refine ⟨pb, po, a1, _, a2, fun c tmn q4 q5 _ _ _ _ => ?_, fun d1 => ⟨pb, po, a1, _, a2, fun c tmn q4 q5 _ _ _ _ => ?_, fun d2 tmn _ _ q7 q1 _ q2 => ?_⟩⟩
    · show Q (.tuple [getV tmn 4, getV tmn 5]) h'
      rw [q4, q5]
      exact err 2 (by unfold ofE; rw [if_neg ng, if_neg nl, if_neg (fun bn => by have := bn i hi; omega)]) (by decide)
    · show Q (.tuple [getV tmn 4, getV tmn 5]) h'
      rw [q4, q5]
      exact err 2 (by unfold ofE; rw [if_neg ng, if_neg nl, if_neg (fun bn => by have := bn i hi; omega)]) (by decide)
    · refine ⟨rfl, rfl, l.length - (i + 1), by omega, i + 1, by omega, rfl, rfl, ?_, q1, q2.trans t2', fun j hj => ?_⟩
      · rw [q7, w64_id (by omega) (by omega)]; rfl
      · rcases Nat.lt_or_ge j i with q | q
        · exact hs j q
        · obtain rfl : j = i := by omega
          omega
  have bn : bnd l := fun j hj => hs j (by omega)
  show wpC P ctx false r12_3 ⟨59, tmz, [], h'⟩ _
  refine wpC.seal _ (vr12_3 _ _ _ _) ?_
  have p1 : getV (Tb.set tmz 8 (.int .i64 1)) 1 = v := Eq.trans (by kernel_rfl) q1
  have p2 : getV (Tb.set tmz 8 (.int .i64 1)) 2 = .ptr h.next 0 := Eq.trans (by kernel_rfl) (q2.trans t2')
  refine loop_wp (fun k tm h2 => ∃ i : Nat, 1 ≤ i ∧ i ≤ l.length ∧ k = l.length - i ∧ h2 = h' ∧ getV tm 8 = .int .i64 i ∧ getV tm 1 = v ∧ getV tm 2 = .ptr h.next 0 ∧ ∀ j, j + 1 < i → l.getD j 0 ≤ l.getD (j + 1) 0) (l.length - 1) ?_ ?_
  · exact ⟨1, by omega, by omega, by omega, rfl, by kernel_rfl, p1, p2, fun j hj => by omega⟩
  clear hs t7 t1 t2 t2' q1 q2 p1 p2
  rintro k tm2' h2' ⟨m, m1, m2, rfl, rfl, t8, t1, t2, hs⟩
  have t2' : getV (Tb.set (Tb.set tm2' 8 (.int .i64 m)) 1 v) 2 = .ptr h.next 0 := by rw [← tm2 rfl t8 t1]; exact t2
  rw [tm2 rfl t8 t1]
  refine wpC.seal _ (vl12_1 _ _ _ _ _ _) ⟨_, sl9.len ty22 rfl, fun h3 => ⟨⟨by omega, lo9⟩, ?_⟩, fun h3 tmz2 _ _ _ q1 _ q2 => ?_⟩
  · have hi : m < l.length := by omega
    have hw : w64 ((m : Int) - 1) = ((m - 1 : Nat) : Int) := by rw [w64_id (by omega) (by omega)]; omega
    rw [hw]
    obtain ⟨pb, po, a1, a2⟩ := sl9.at1 (c := ctx) (i := m) hi ty22 rfl ty3 rfl rfl (ints_get hi)
    obtain ⟨pb', po', a1', a2'⟩ := sl9.at1 (c := ctx) (i := m - 1) (by omega) ty22 rfl ty3 rfl rfl (ints_get (by omega))
    refine ⟨pb, po, a1, _, a2, pb', po', a1', _, a2', fun c tmn q4 q5 _ _ _ _ => ?_, fun d1 tmn _ _ _ q1 q8 q2 => ?_⟩
    · show sealQ _ _ _ _
      intro tme z4 z5 _ _ _ _
      show Q (.tuple [getV tme 4, getV tme 5]) h2'
      rw [z4, z5]
      show Q (.tuple [getV tmn 4, getV tmn 5]) h2'
      rw [q4, q5]
      refine err 9 ?_ (by decide)
      unfold ofE
      rw [if_neg ng, if_neg nl, if_pos bn, if_neg (fun sr => ?_)]
      have := sr (m - 1) (by omega)
      rw [show m - 1 + 1 = m by omega] at this
      omega
    · refine ⟨rfl, rfl, l.length - (m + 1), by omega, m + 1, by omega, by omega, rfl, rfl, ?_, q1, q2.trans t2', fun j hj => ?_⟩
      · rw [q8, w64_id (by omega) (by omega)]; rfl
      · rcases Nat.lt_or_ge (j + 1) m with q | q
        · exact hs j q
        · obtain rfl : m = j + 1 := by omega
          have : j + 1 - 1 = j := by omega
          rw [this] at d1; omega
  · have sr : srt l := fun j hj => hs j (by omega)
    show wpC P ctx false r12_2 ⟨59, tmz2, [], h2'⟩ _
    rw [tm2 rfl (q2.trans t2') q1]
    refine Eq.mpr (vr12_2 _ _ _ _ _ _) ⟨_, _, _, _, _, _, ald_agg ty24 rfl s9 rfl, refTable_ok g0 bn (by omega) sl9 (by omega) fun h5 w x5 ow => ⟨_, rfl, fun tmn q4 q5 _ _ _ _ => ?_⟩⟩
    show Q (.tuple [getV tmn 4, getV tmn 5]) h5
    rw [q4, q5]
    have hE : ofE (chk a b d e) l = 0 := by unfold ofE; rw [if_neg ng, if_neg nl, if_pos bn, if_pos sr]
    rw [hE] at hq
    exact hq h5 w ((x0.trans x5).mono (by omega)) (fun _ => ow) fun q => absurd rfl q

end Go.Proofs.Ytbkafllejpbimaa

namespace Go.Proofs.Ytbkafllejpbimaa
open Go.Sim

theorem ofE_len {k : Int} {l : List Int} (h : ofE k l = 0) : l.length ≤ 4096 := by
  unfold ofE at h
  split at h
  · omega
  · split at h
    · cases h
    · omega

set_option maxRecDepth 100000 in
open Classical in
theorem refCheckT_ok {a b d e : Int} {s u : Bool} {v : V} {l : List (Int × Int × Int)} {h : H} {Q : V → H → Prop} (sl : Sl h v 3 l.length (jl l)) (hlt : l.length < 4611686018427387904) (hn : h.next + 17000 ≤ T.top) (hlow : h.low ≤ T.top)
    (hq : ∀ h', Ext h h' 17000 → Q (.int .i64 (chkE (chk a b d e) (pre b e) l)) h') : RF P ctx 15 [par a b d e s u, v] h Q := by
  refine RF.enterE ctx_ok fn15 (ble _ _ rfl) (ble _ _ rfl) (vb15 a b d e s u v h Q) ⟨by omega, ?_⟩
  rintro p0 h1 rfl e1
  have n1 : h1.next = h.next + 1 := by rw [e1, new_next]
  have x1 : Ext h h1 1 := by rw [e1]; exact Ext.new _ (by omega)
  have s1 : h1.get h.next = some (cellsP a b d e s u) := by rw [e1]; exact get_new_self _ (by omega)
  have fin : ∀ (h' : H) (w : V) (tmz : Tm), getV tmz 2 = .ptr h.next 0 → getV tmz 5 = w → getV tmz 1 = v → Ext h h' 8300 → h'.get h.next = some (cellsP a b d e s u) → Sl h' w 1 (tos (l.take 4097)).length (ints (tos (l.take 4097))) →
      wpC P ctx false r15_3 ⟨52, tmz, [], h'⟩ (endW ctx ⟨52, [.tmp 4], b15⟩ Q) := by
    intro h' w tmz q2 q5 q1 xx g sw
    have ux := xx.top
    have lo : h'.low ≤ T.top := Nat.le_trans xx.low hlow
    have htos : (tos (l.take 4097)).length = min 4097 l.length := by simp [tos]
    rw [tm2 rfl q2 q5]
    refine wpC.seal _ (vr15_3 _ _ _ _ _ _) ⟨_, _, _, _, _, _, ald_agg ty24 rfl g rfl, refOf_ok sw (by omega) (by omega) lo fun h7 w7 x7 ow7 _ => ⟨_, _, rfl, fun c tmn q4 _ _ _ _ _ _ => ?_, fun c => ?_⟩⟩
    · show Q (getV tmn 4) h7
      rw [q4]
      have hq := hq h7 ((xx.trans x7).mono (by omega))
      unfold chkE at hq
      rwa [if_neg c] at hq
    · have c0 : ofE (chk a b d e) (tos (l.take 4097)) = 0 := Classical.not_not.1 c
      have hq := hq h7 ((xx.trans x7).mono (by omega))
      unfold chkE at hq
      rw [if_pos c0] at hq
      have hle := ofE_len c0
      have sl7 := sl.ext (xx.trans x7)
      have u7 := (xx.trans x7).top
      have lo7 : h7.low ≤ T.top := Nat.le_trans x7.low lo
      have hj : Sl h7 w7 3 (jt (pre b e) (tos (l.take 4097)) (tos (l.take 4097)).length).length (jl (jt (pre b e) (tos (l.take 4097)) (tos (l.take 4097)).length)) := by
        have := (ow7 c0).sl
        rw [jc_jl] at this
        rw [jt_len]; exact this
      have hwl : (jt (pre b e) (tos (l.take 4097)) (tos (l.take 4097)).length).length = l.length := by rw [jt_len]; omega
      generalize jt (pre b e) (tos (l.take 4097)) (tos (l.take 4097)).length = want at hq hj hwl
      refine loop_wp (fun k tm h2 => ∃ i : Nat, i ≤ l.length ∧ k = l.length - i ∧ h2 = h7 ∧ getV tm 9 = .int .i64 i ∧ getV tm 1 = v ∧ getV tm 7 = w7 ∧ ∀ j, j < i → l[j]? = want[j]?) l.length ?_ ?_
      · exact ⟨0, by omega, by omega, rfl, by kernel_rfl, Eq.trans (by kernel_rfl) q1, by kernel_rfl, fun j hj => by omega⟩
      rintro k tm h2 ⟨i, i1, rfl, rfl, t9, t1, t7, hs⟩
      rw [tm3 rfl t9 t1 t7]
      refine wpC.seal _ (vl15_1 _ _ _ _ _ _ _) ⟨_, sl7.len ty27 rfl, fun h3 => ⟨⟨by omega, lo7⟩, ?_⟩, fun h3 tmz2 _ _ _ _ _ _ _ => ?_⟩
      · have hi : i < l.length := by omega
        obtain ⟨⟨x, z, y⟩, hx⟩ : ∃ p, l[i]? = some p := ⟨l[i], List.getElem?_eq_getElem hi⟩
        obtain ⟨⟨x', z', y'⟩, hx'⟩ : ∃ p, want[i]? = some p := ⟨want[i]'(by omega), List.getElem?_eq_getElem (by omega)⟩
        obtain ⟨b1, o1, a1, a2, _⟩ := at3 sl7 hx
        obtain ⟨b2, o2, a1', a2', _⟩ := at3 hj hx'
        obtain ⟨r, er, hr⟩ := neq33' (t 46) (t 50) x z y x' z' y'
        refine ⟨b1, o1, a1, x, z, y, a2, b2, o2, a1', x', z', y', a2', r, er, fun g tmn q4 _ _ _ _ _ _ => ?_, fun g tmn _ _ q1 _ q9 q7 _ => ?_⟩
        · show sealQ _ _ _ _
          intro tme z4 _ _ _ _ _ _
          show Q (getV tme 4) h2
          rw [z4]
          show Q (getV tmn 4) h2
          rw [q4]
          have : ¬ l = want := fun q => by rw [q, hx'] at hx; exact (hr.1 g) (Option.some.inj hx).symm
          rwa [if_neg this] at hq
        · refine ⟨rfl, rfl, l.length - (i + 1), by omega, i + 1, by omega, rfl, rfl, ?_, q1, q7, fun j hj => ?_⟩
          · rw [q9, w64_id (by omega) (by omega)]; rfl
          · rcases Nat.lt_or_ge j i with q | q
            · exact hs j q
            · obtain rfl : j = i := by omega
              rw [hx, hx']
              have : ¬ (x, z, y) ≠ (x', z', y') := fun q => by rw [hr.2 q] at g; cases g
              rw [Classical.not_not.1 this]
      · have hi : i = l.length := by omega
        show wpC P ctx false r15_2 ⟨52, tmz2, [], h2⟩ _
        refine Eq.mpr (vr15_2 _ _ _ _) fun tmn q4 _ _ _ _ _ _ => ?_
        show Q (getV tmn 4) h2
        rw [q4]
        have : l = want := List.ext_getElem? fun j => by
          rcases Nat.lt_or_ge j i with q | q
          · exact hs j q
          · rw [List.getElem?_eq_none (by omega), List.getElem?_eq_none (by omega)]
        rwa [if_pos this] at hq
  refine loop_wp (fun k tm h' => ∃ i : Nat, i ≤ l.length ∧ i ≤ 4097 ∧ k = l.length - i ∧ getV tm 6 = .int .i64 i ∧ getV tm 1 = v ∧ getV tm 2 = .ptr h.next 0 ∧
    ∃ w, getV tm 5 = w ∧ Ext h1 h' (2 * i) ∧ Ow h' w te3 i (ints ((tos l).take i)) ∧ (∀ b, vblk w = some b → h1.next ≤ b)) l.length ?_ ?_
  · exact ⟨0, by omega, by omega, by omega, by kernel_rfl, by kernel_rfl, by kernel_rfl, .nilslice, by kernel_rfl, Ext.refl _, Ow.nil _ _, fun b hb => (by cases hb)⟩
  rintro k tm h' ⟨i, i1, i2, rfl, t6, t1, t2, w, t5, xx, ow, vb⟩
  have t2' : getV (Tb.set (Tb.set (Tb.set tm 6 (.int .i64 i)) 1 v) 5 w) 2 = .ptr h.next 0 := by rw [← tm3 rfl t6 t1 t5]; exact t2
  rw [tm3 rfl t6 t1 t5]
  have slk := (sl.ext x1).ext xx
  have g' : h'.get h.next = some (cellsP a b d e s u) := (xx.get _ (by omega)).trans s1
  have out : i = min 4097 l.length → ∀ tmz, getV tmz 2 = getV (Tb.set (Tb.set (Tb.set tm 6 (.int .i64 i)) 1 v) 5 w) 2 → getV tmz 5 = w → getV tmz 1 = v → wpC P ctx false r15_3 ⟨52, tmz, [], h'⟩ (endW ctx ⟨52, [.tmp 4], b15⟩ Q) := by
    intro hi tmz q2 q5 q1
    refine fin h' w tmz (q2.trans t2') q5 q1 ((x1.trans xx).mono (by omega)) g' ?_
    have h1 : (tos (l.take 4097)) = (tos l).take i := by
      unfold tos
      rw [← List.map_take, hi]
      congr 1
      rcases Nat.le_total 4097 l.length with q | q
      · rw [Nat.min_eq_left q]
      · rw [Nat.min_eq_right q, List.take_of_length_le q, List.take_of_length_le (Nat.le_refl _)]
    have h2 : ((tos l).take i).length = i := by simp [tos]; omega
    rw [h1, h2]
    exact ow.sl
  refine wpC.seal _ (vl15_0 _ _ _ _ _ _ _) ⟨_, slk.len ty27 rfl, fun h3 => ⟨fun h4 => ?_, fun h4 tmz _ _ q1 q5 _ _ q2 => out (by omega) tmz q2 q5 q1⟩, fun h3 tmz _ _ q1 q5 _ _ q2 => out (by omega) tmz q2 q5 q1⟩
  have hi : i < l.length := by omega
  obtain ⟨⟨x, z, y⟩, hx⟩ : ∃ p, l[i]? = some p := ⟨l[i], List.getElem?_eq_getElem hi⟩
  obtain ⟨pb, po, a1, _, _, a2, _⟩ := at3 slk hx
  obtain ⟨v4, h5, e5, v6, h7, e7, x7, ow7, vb7⟩ := push_ok (u := .int .i64 z) (ys := [.int .i64 z]) xx ow vb ty22 rfl te3_at rfl rfl rfl rfl (Nat.le_of_ble_eq_true rfl) rfl rfl (by show (i + 1) * 1 ≤ 262143; omega) (by show (i + 1) * 8 ≤ _; omega) (by omega)
  refine ⟨pb, po, a1, z, a2, v4, h5, e5, trivial, v6, h7, e7, fun tmn _ q6 q1 q5 _ _ q2 => ⟨rfl, rfl, l.length - (i + 1), by omega, i + 1, by omega, by omega, rfl, ?_, q1, q2.trans t2', v6, q5, x7, ?_, vb7⟩⟩
  · rw [q6, w64_id (by omega) (by omega)]; rfl
  · have : (tos l)[i]? = some z := by simp [tos, hx]
    rw [ints_take this]
    exact ow7

end Go.Proofs.Ytbkafllejpbimaa

namespace Go.Proofs.Ytbkafllejpbimaa
open Go.Sim

theorem lenB_eq : ∀ (l : List UInt8) (n : Nat), lenB l n = n + l.length
  | [], n => by simp [lenB]
  | _ :: l, n => by rw [lenB, lenB_eq l]; simp; omega

/-- A string's slice. -/
theorem slice_str {s : List UInt8} {x y : Int} {h : H} (h0 : 0 ≤ x) (h1 : x ≤ y) (h2 : y ≤ s.length) :
    aslice ctx 9 h (.str s) (some (.int .i64 x)) (some (.int .i64 y)) none = some (.str (sliceS s x.toNat y.toNat)) := by
  obtain ⟨m, rfl⟩ : ∃ m : Nat, x = m := ⟨x.toNat, by omega⟩
  obtain ⟨n, rfl⟩ : ∃ n : Nat, y = n := ⟨y.toNat, by omega⟩
  unfold aslice
  have e1 : asNatI (m : Int) = some m := rfl
  have e2 : asNatI (n : Int) = some n := rfl
  have e3 : lenB s 0 = s.length := by rw [lenB_eq]; omega
  simp only [ty9, Go.Sim.bnd, e1, e2, e3]
  rw [Nat.ble_eq_true_of_le (show n ≤ s.length by omega), cond_true]
  simp only
  rw [Nat.ble_eq_true_of_le (show m ≤ n by omega), cond_true]
  rfl

open Classical in
/-- The parts of a job, or why there are none. -/
noncomputable def partsR (s : List UInt8) (x z y : Int) : V :=
  if 0 ≤ y ∧ y ≤ x ∧ x ≤ z ∧ z ≤ s.length then .tuple [.str (sliceS s y.toNat x.toNat), .str (sliceS s x.toNat z.toNat), .int .i64 0] else .tuple [.str [], .str [], .int .i64 2]

set_option maxRecDepth 100000 in
theorem parts_ok {s : List UInt8} {x z y : Int} {h : H} {Q : V → H → Prop} (hn : h.next + 1 ≤ T.top) (hlow : h.low ≤ T.top) (hq : ∀ h', Ext h h' 1 → Q (partsR s x z y) h') : RF P ctx 18 [.str s, .agg (job x z y)] h Q := by
  refine RF.enterE ctx_ok fn18 (ble _ _ rfl) (ble _ _ rfl) (vb18 s x z y h Q) ⟨by omega, ?_⟩
  rintro p h1 rfl rfl
  have hg := get_new_self (h := h) (.cells (.ls (job x z y)) ⟨0, 34, 0⟩ true false) (by omega)
  have hx := Ext.new (h := h) (.cells (.ls (job x z y)) ⟨0, 34, 0⟩ true false) (by omega)
  have hq := hq _ hx
  unfold partsR at hq
  have hc : (Int.ofNat s.length) = (s.length : Int) := rfl
  refine ⟨y, ald_one ty3 rfl hg rfl, fun c => by rwa [if_neg (by omega)] at hq, fun c1 => ?_⟩
  refine ⟨y, ald_one ty3 rfl hg rfl, x, ald_one ty3 rfl hg rfl, fun c => by rwa [if_neg (by omega)] at hq, fun c2 => ?_⟩
  refine ⟨x, ald_one ty3 rfl hg rfl, z, ald_one ty3 rfl hg rfl, fun c => by rwa [if_neg (by omega)] at hq, fun c3 => ?_⟩
  refine ⟨z, ald_one ty3 rfl hg rfl, fun c => by rwa [if_neg (by omega)] at hq, fun c4 => ?_⟩
  rw [if_pos (by omega)] at hq
  exact ⟨⟨by rw [new_next]; omega, Nat.le_trans hx.low hlow⟩, y, ald_one ty3 rfl hg rfl, x, ald_one ty3 rfl hg rfl, _, slice_str (by omega) (by omega) (by omega), x, ald_one ty3 rfl hg rfl, z, ald_one ty3 rfl hg rfl, _, slice_str (by omega) (by omega) (by omega), hq⟩

set_option maxRecDepth 100000 in
theorem refParts_ok {s : List UInt8} {x z y : Int} {h : H} {Q : V → H → Prop} (hn : h.next + 1 ≤ T.top) (hlow : h.low ≤ T.top) (hq : ∀ h', Ext h h' 1 → Q (partsR s x z y) h') : RF P ctx 19 [.str s, .agg (job x z y)] h Q := by
  refine RF.enterE ctx_ok fn19 (ble _ _ rfl) (ble _ _ rfl) (vb19 s x z y h Q) ⟨by omega, ?_⟩
  rintro p h1 rfl rfl
  have hg := get_new_self (h := h) (.cells (.ls (job x z y)) ⟨0, 34, 0⟩ true false) (by omega)
  have hx := Ext.new (h := h) (.cells (.ls (job x z y)) ⟨0, 34, 0⟩ true false) (by omega)
  have hq := hq _ hx
  unfold partsR at hq
  have hc : (Int.ofNat s.length) = (s.length : Int) := rfl
  refine ⟨y, ald_one ty3 rfl hg rfl, fun c => by rwa [if_neg (by omega)] at hq, fun c1 => ?_⟩
  refine ⟨x, ald_one ty3 rfl hg rfl, y, ald_one ty3 rfl hg rfl, fun c => by rwa [if_neg (by omega)] at hq, fun c2 => ?_⟩
  refine ⟨z, ald_one ty3 rfl hg rfl, x, ald_one ty3 rfl hg rfl, fun c => by rwa [if_neg (by omega)] at hq, fun c3 => ?_⟩
  refine ⟨z, ald_one ty3 rfl hg rfl, fun c => by rwa [if_neg (by omega)] at hq, fun c4 => ?_⟩
  rw [if_pos (by omega)] at hq
  exact ⟨⟨by rw [new_next]; omega, Nat.le_trans hx.low hlow⟩, y, ald_one ty3 rfl hg rfl, x, ald_one ty3 rfl hg rfl, _, slice_str (by omega) (by omega) (by omega), x, ald_one ty3 rfl hg rfl, z, ald_one ty3 rfl hg rfl, _, slice_str (by omega) (by omega) (by omega), hq⟩

/-- How many bytes a block has. -/
def blk (b : Int) : Nat := min (2 ^ b.toNat) 131072

theorem blk_bnd {b : Int} (h : 10 ≤ b) : 1024 ≤ blk b ∧ blk b ≤ 131072 := by
  have h1 : 2 ^ 10 ≤ 2 ^ b.toNat := Nat.pow_le_pow_right (by omega) (by omega)
  unfold blk
  omega

theorem blk_int (b : Int) : min ((2 ^ b.toNat : Nat) : Int) 131072 = (blk b : Int) := by unfold blk; omega

/-- How many pieces there are. -/
def pcs (S n : Nat) : Nat := if n = 0 then 1 else (n - 1) / S + 1

theorem pcs_lt {S n i : Nat} (hS : 0 < S) : i < pcs S n ↔ i = 0 ∨ i * S < n := by
  unfold pcs
  split
  · rename_i h; subst h; omega
  · rename_i h
    rw [Nat.lt_succ_iff, Nat.le_div_iff_mul_le hS]
    constructor
    · intro q; right; omega
    · rintro (rfl | q)
      · omega
      · omega

theorem pcs_le {S n : Nat} (hS : 1024 ≤ S) : pcs S n ≤ n / 1024 + 1 := by
  unfold pcs
  split
  · omega
  · have h1 : (n - 1) / S ≤ (n - 1) / 1024 := Nat.div_le_div_left hS (by decide)
    omega

set_option maxRecDepth 100000 in
theorem refBlock_ok {a b d e : Int} {s u : Bool} {h : H} {Q : V → H → Prop} (hc : chk a b d e = 0) (hn : h.next + 3 ≤ T.top)
    (hq : ∀ h', Ext h h' 3 → Q (.tuple [.int .i64 (blk b), .int .i64 0]) h') : RF P ctx 64 [par a b d e s u] h Q := by
  refine RF.enterE ctx_ok fn64 (ble _ _ rfl) (ble _ _ rfl) (vb64 a b d e s u h Q) ⟨by omega, ?_⟩
  rintro p h1 rfl e1
  have n1 : h1.next = h.next + 1 := by rw [e1, new_next]
  have x1 : Ext h h1 1 := by rw [e1]; exact Ext.new _ (by omega)
  have s1 : h1.get h.next = some (cellsP a b d e s u) := by rw [e1]; exact get_new_self _ (by omega)
  refine ⟨_, _, _, _, _, _, ald_agg ty24 rfl s1 rfl, window_ok (by omega) fun h9 x9 => ⟨_, _, rfl, fun g => absurd hc g, fun _ => ?_⟩⟩
  rw [if_pos hc, blk_int]
  exact hq h9 (x1.trans x9)

set_option maxRecDepth 100000 in
theorem refEnds_ok {a b d e : Int} {s u : Bool} {n : Nat} {h : H} {Q : V → H → Prop} (hc : chk a b d e = 0) (hn0 : n ≤ 1048576) (hn : h.next + 4 + 2 * pcs (blk b) n ≤ T.top)
    (hq : ∀ h' w xs, Ext h h' (4 + 2 * pcs (blk b) n) → Sl h' w 1 (pcs (blk b) n) xs → Q w h') : RF P ctx 56 [par a b d e s u, .int .i64 n] h Q := by
  refine RF.enterE ctx_ok fn56 (ble _ _ rfl) (ble _ _ rfl) (vb56 a b d e s u n h Q) ⟨by omega, ?_⟩
  rintro p h1 rfl e1
  have n1 : h1.next = h.next + 1 := by rw [e1, new_next]
  have x1 : Ext h h1 1 := by rw [e1]; exact Ext.new _ (by omega)
  have s1 : h1.get h.next = some (cellsP a b d e s u) := by rw [e1]; exact get_new_self _ (by omega)
  obtain ⟨c1', c2, c3, c4⟩ := chk_ok hc
  obtain ⟨b1, b2⟩ := blk_bnd c1'
  have hk := pcs_le (n := n) b1
  refine ⟨_, _, _, _, _, _, ald_agg ty24 rfl s1 rfl, refBlock_ok hc (by omega) fun h9 x9 => ⟨_, _, rfl, ?_⟩⟩
  have x0 := x1.trans x9
  refine loop_wp (fun k tm h' => ∃ i : Nat, i ≤ pcs (blk b) n ∧ k = pcs (blk b) n - i ∧ getV tm 8 = .int .i64 ((min n (i * blk b) : Nat) : Int) ∧ getV tm 1 = .int .i64 n ∧ getV tm 5 = .int .i64 (blk b) ∧
    ∃ w xs, getV tm 7 = w ∧ Ext h h' (4 + 2 * i) ∧ Ow h' w te3 i xs ∧ (∀ b, vblk w = some b → h.next ≤ b)) (pcs (blk b) n) ?_ ?_
  · exact ⟨0, by omega, by omega, by simp; kernel_rfl, by kernel_rfl, by kernel_rfl, .nilslice, [], by kernel_rfl, x0, Ow.nil _ _, fun b hb => (by cases hb)⟩
  rintro k tm h' ⟨i, i1, rfl, t8, t1, t5, w, xs, t7, xx, ow, vb⟩
  rw [tm4 rfl t8 t1 t5 t7]
  have hlt := pcs_lt (n := n) (i := i) (show 0 < blk b by omega)
  have step : i < pcs (blk b) n → ∀ k0, k0 = pcs (blk b) n - i → ∃ v4 h5, abuildSlice ctx 22 1 [(0, (.int .i64 (min (n : Int) (w64 (((min n (i * blk b) : Nat) : Int) + (blk b : Int))))))] h' = some (v4, h5) ∧ (True ∧ ∃ v6 h7, aappend ctx 22 h5 w v4 = some (v6, h7) ∧
      (∀ tmn, getV tmn 8 = .int .i64 (min (n : Int) (w64 (((min n (i * blk b) : Nat) : Int) + (blk b : Int)))) → getV tmn 1 = .int .i64 n → getV tmn 5 = .int .i64 (blk b) → getV tmn 7 = v6 →
        ∃ j, j < k0 ∧ ∃ i : Nat, i ≤ pcs (blk b) n ∧ j = pcs (blk b) n - i ∧ getV tmn 8 = .int .i64 ((min n (i * blk b) : Nat) : Int) ∧ getV tmn 1 = .int .i64 n ∧ getV tmn 5 = .int .i64 (blk b) ∧
          ∃ w xs, getV tmn 7 = w ∧ Ext h h7 (4 + 2 * i) ∧ Ow h7 w te3 i xs ∧ (∀ b, vblk w = some b → h.next ≤ b))) := by
    intro hi k0 ek
    have hz : min (n : Int) (w64 (((min n (i * blk b) : Nat) : Int) + (blk b : Int))) = ((min n ((i + 1) * blk b) : Nat) : Int) := by
      rw [w64_id (by omega) (by omega), Nat.succ_mul]
      have : i * blk b ≤ n := by rcases hlt.1 hi with rfl | q <;> omega
      omega
    rw [hz]
    obtain ⟨v4, h5, e5, v6, h7, e7, x7, ow7, vb7⟩ := push_ok (u := .int .i64 ((min n ((i + 1) * blk b) : Nat) : Int)) (ys := [.int .i64 ((min n ((i + 1) * blk b) : Nat) : Int)]) xx ow vb ty22 rfl te3_at rfl rfl rfl rfl (Nat.le_of_ble_eq_true rfl) rfl rfl (by show (i + 1) * 1 ≤ 262143; omega) (by show (i + 1) * 8 ≤ _; omega) (by omega)
    exact ⟨v4, h5, e5, trivial, v6, h7, e7, fun tmn q8 q1 q5 q7 => ⟨pcs (blk b) n - (i + 1), by omega, i + 1, by omega, rfl, q8, q1, q5, v6, _, q7, x7, ow7, vb7⟩⟩
  refine wpC.seal _ (vl56_0 _ _ _ _ _ _ _ _) ⟨fun c => ?_, fun c => ⟨_, ow.sl.len ty22 rfl, fun c0 => ?_, fun c0 tmz _ _ _ _ q7 => ?_⟩⟩
  · obtain ⟨v4, h5, e5, _, v6, h7, e7, hh⟩ := step (hlt.2 (by omega)) _ rfl
    exact ⟨v4, h5, e5, trivial, v6, h7, e7, fun tmn _ q8 q1 q5 q7 => ⟨rfl, rfl, hh tmn q8 q1 q5 q7⟩⟩
  · obtain ⟨v4, h5, e5, _, v6, h7, e7, hh⟩ := step (hlt.2 (by omega)) _ rfl
    exact ⟨v4, h5, e5, trivial, v6, h7, e7, fun tmn _ q8 q1 q5 q7 => ⟨rfl, rfl, hh tmn q8 q1 q5 q7⟩⟩
  · have hi : i = pcs (blk b) n := by
      rcases Nat.lt_or_ge i (pcs (blk b) n) with q | q
      · rcases hlt.1 q with q | q <;> omega
      · omega
    subst hi
    show wpC P ctx false r56_1 ⟨32, tmz, [], h'⟩ _
    rw [tm1 rfl q7]
    refine wpC.seal _ (vr56_1 _ _ _ _ _) fun tm2 q4 _ _ _ _ => ?_
    show Q (getV tm2 4) h'
    rw [q4]
    exact hq h' w xs xx ow.sl

end Go.Proofs.Ytbkafllejpbimaa

namespace Go.Proofs.Ytbkafllejpbimaa
open Go.Sim

theorem ofE_zero {k : Int} {l : List Int} (h : ofE k l = 0) : k = 0 ∧ bnd l ∧ srt l ∧ l.length ≤ 4096 := by
  have hl := ofE_len h
  unfold ofE at h
  split at h
  · exact absurd h (by assumption)
  · rename_i hk
    split at h
    · cases h
    · split at h
      · rename_i hb
        split at h
        · rename_i hs; exact ⟨Classical.not_not.1 hk, hb, hs, hl⟩
        · cases h
      · cases h

theorem chkE_zero {k R : Int} {l : List (Int × Int × Int)} (h : chkE k R l = 0) : k = 0 ∧ bnd (tos l) ∧ srt (tos l) ∧ l = jt R (tos l) l.length := by
  unfold chkE at h
  split at h
  · rename_i h0
    split at h
    · rename_i h1
      obtain ⟨hk, hb, hs, hl⟩ := ofE_zero h0
      have ht : l.take 4097 = l := by
        refine List.take_of_length_le ?_
        have : (tos (l.take 4097)).length = min 4097 l.length := by simp [tos]
        omega
      rw [ht] at h1 hb hs
      have : (tos l).length = l.length := by simp [tos]
      rw [this] at h1
      exact ⟨hk, hb, hs, h1⟩
    · cases h
  · rename_i h0; exact absurd h h0

/-- A job of a right table. -/
theorem chkE_at {k R : Int} {l : List (Int × Int × Int)} (h : chkE k R l = 0) {i : Nat} {x z y : Int} (hi : l[i]? = some (x, z, y)) : x = la (tos l) i ∧ z = la (tos l) (i + 1) ∧ 0 ≤ x ∧ x ≤ z ∧ z ≤ 1048576 := by
  obtain ⟨_, hb, hs, hl⟩ := chkE_zero h
  have hil : i < l.length := (List.getElem?_eq_some_iff.1 hi).1
  have hz : (tos l).getD i 0 = z := by simp [tos, List.getD, hi]
  have htl : (tos l).length = l.length := by simp [tos]
  have hj := jt_get R (tos l) (n := l.length) hil
  rw [← hl, hi] at hj
  cases hj
  have h1 := la_bnd hb (i := i) (by omega)
  have h2 := hb i (by omega)
  refine ⟨rfl, rfl, h1.1, ?_, h2.2⟩
  cases i with
  | zero => exact h2.1
  | succ i => exact hs i (by omega)

/-- How many units the jobs have. -/
def units (b : Int) (l : List (Int × Int × Int)) : List Int := l.map fun p => (pcs (blk b) (p.2.1 - p.1).toNat : Int)
/-- .. of a right table. -/
def unitsE (b E : Int) (l : List (Int × Int × Int)) : List Int := if E = 0 then units b l else []

set_option maxRecDepth 100000 in
theorem refEnds30_ok {a b d e : Int} {s u : Bool} {n : Nat} {h : H} {Q : V → H → Prop} (hc : chk a b d e = 0) (hn0 : n ≤ 1048576) (hn : h.next + 6 + 2 * pcs (blk b) n ≤ T.top)
    (hq : ∀ h' w xs, Ext h h' (6 + 2 * pcs (blk b) n) → Sl h' w 1 (pcs (blk b) n) xs → Q (.tuple [w, .int .i64 0]) h') : RF P ctx 47 [par a b d e s u, .int .i64 n] h Q := by
  refine RF.enterE ctx_ok fn47 (ble _ _ rfl) (ble _ _ rfl) (vb47 a b d e s u n h Q) ⟨by omega, ?_⟩
  rintro p h1 rfl e1
  have n1 : h1.next = h.next + 1 := by rw [e1, new_next]
  have x1 : Ext h h1 1 := by rw [e1]; exact Ext.new _ (by omega)
  have s1 : h1.get h.next = some (cellsP a b d e s u) := by rw [e1]; exact get_new_self _ (by omega)
  refine ⟨_, _, _, _, _, _, ald_agg ty24 rfl s1 rfl, refCheck_ok (by omega) fun h9 x9 => ⟨_, rfl, fun _ => ⟨fun c => absurd c (by omega), fun _ => ⟨fun c => absurd c (by omega), fun _ => ⟨fun c => absurd hc c, fun _ => ?_⟩⟩⟩, fun c => absurd hc c⟩⟩
  have u9 := x9.top
  refine ⟨_, _, _, _, _, _, ald_agg ty24 rfl ((x9.get _ (by omega)).trans s1) rfl, refEnds_ok hc hn0 (by omega) fun h18 w xs x18 sl => ⟨_, rfl, ?_⟩⟩
  exact hq h18 w xs (((x1.trans x9).trans x18).mono (by omega)) sl

set_option maxRecDepth 100000 in
theorem refUnits30_ok {a b d e : Int} {s u : Bool} {n : Nat} {h : H} {Q : V → H → Prop} (hc : chk a b d e = 0) (hn0 : n ≤ 1048576) (hn : h.next + 7 + 2 * pcs (blk b) n ≤ T.top)
    (hq : ∀ h', Ext h h' (7 + 2 * pcs (blk b) n) → Q (.tuple [.int .i64 (pcs (blk b) n), .int .i64 0]) h') : RF P ctx 36 [par a b d e s u, .int .i64 n] h Q := by
  refine RF.enterE ctx_ok fn36 (ble _ _ rfl) (ble _ _ rfl) (vb36 a b d e s u n h Q) ⟨by omega, ?_⟩
  rintro p h1 rfl e1
  have n1 : h1.next = h.next + 1 := by rw [e1, new_next]
  have x1 : Ext h h1 1 := by rw [e1]; exact Ext.new _ (by omega)
  have s1 : h1.get h.next = some (cellsP a b d e s u) := by rw [e1]; exact get_new_self _ (by omega)
  refine ⟨_, _, _, _, _, _, ald_agg ty24 rfl s1 rfl, refEnds30_ok hc hn0 (by omega) fun h9 w xs x9 sl => ⟨_, _, rfl, _, sl.len ty22 rfl, ?_⟩⟩
  exact hq h9 ((x1.trans x9).mono (by omega))

theorem units_take {b : Int} {l : List (Int × Int × Int)} {i : Nat} {x z y : Int} (h : l[i]? = some (x, z, y)) : ints ((units b l).take (i + 1)) = ints ((units b l).take i) ++ [.int .i64 (pcs (blk b) (z - x).toNat)] := by
  have : (units b l)[i]? = some (pcs (blk b) (z - x).toNat : Int) := by simp [units, h]
  rw [ints_take this]

set_option maxRecDepth 100000 in
theorem refUnits_ok {a b d e : Int} {s u : Bool} {v : V} {l : List (Int × Int × Int)} {h : H} {Q : V → H → Prop} (sl : Sl h v 3 l.length (jl l)) (hlt : l.length ≤ 30) (hn : h.next + 20000 ≤ T.top) (hlow : h.low ≤ T.top)
    (hq : ∀ h' w, Ext h h' 20000 → Sl h' w 1 (unitsE b (chkE (chk a b d e) (pre b e) l) l).length (ints (unitsE b (chkE (chk a b d e) (pre b e) l) l)) → Q (.tuple [w, .int .i64 (chkE (chk a b d e) (pre b e) l)]) h') : RF P ctx 17 [par a b d e s u, v] h Q := by
  refine RF.enterE ctx_ok fn17 (ble _ _ rfl) (ble _ _ rfl) (vb17 a b d e s u v h Q) ⟨by omega, ?_⟩
  rintro p h1 rfl e1
  have n1 : h1.next = h.next + 1 := by rw [e1, new_next]
  have x1 : Ext h h1 1 := by rw [e1]; exact Ext.new _ (by omega)
  have s1 : h1.get h.next = some (cellsP a b d e s u) := by rw [e1]; exact get_new_self _ (by omega)
  refine ⟨_, _, _, _, _, _, ald_agg ty24 rfl s1 rfl, refCheckT_ok (sl.ext x1) (by omega) (by omega) (Nat.le_trans x1.low hlow) fun h9 x9 => ⟨_, rfl, fun c => ?_, fun c => ?_⟩⟩
  · have hq := hq h9 .nilslice ((x1.trans x9).mono (by omega))
    unfold unitsE at hq
    rw [if_neg c] at hq
    exact hq ⟨rfl, .inl ⟨rfl, rfl⟩⟩
  have c0 : chkE (chk a b d e) (pre b e) l = 0 := Classical.not_not.1 c
  obtain ⟨hc, hbn, hsr, _⟩ := chkE_zero c0
  have x0 := x1.trans x9
  have u0 := x0.top
  have htl : (tos l).length = l.length := by simp [tos]
  obtain ⟨c1', c2, c3, c4⟩ := chk_ok hc
  obtain ⟨b1, b2⟩ := blk_bnd c1'
  have g9 : h9.get h.next = some (cellsP a b d e s u) := (x9.get _ (by omega)).trans s1
  refine loop_wp (fun k tm h' => ∃ i : Nat, i ≤ l.length ∧ k = l.length - i ∧ getV tm 8 = .int .i64 i ∧ getV tm 1 = v ∧ getV tm 2 = .ptr h.next 0 ∧
    ∃ w, getV tm 7 = w ∧ Ext h9 h' (11 * i + 2 * ((la (tos l) i).toNat / 1024)) ∧ Ow h' w te3 i (ints ((units b l).take i)) ∧ (∀ b, vblk w = some b → h9.next ≤ b)) l.length ?_ ?_
  · exact ⟨0, by omega, by omega, by kernel_rfl, by kernel_rfl, by kernel_rfl, .nilslice, by kernel_rfl, (Ext.refl _).mono (by omega), Ow.nil _ _, fun b hb => (by cases hb)⟩
  rintro k tm h' ⟨i, i1, rfl, t8, t1, t2, w, t7, xx, ow, vb⟩
  rw [tm4 rfl t8 t1 t2 t7]
  have hla := la_bnd hbn (i := i) (by omega)
  have ux := xx.top
  have slk := (sl.ext x0).ext xx
  have lo' : h'.low ≤ T.top := Nat.le_trans (Nat.le_trans xx.low x0.low) hlow
  refine wpC.seal _ (vl17_0 _ _ _ _ _ _ _ _) ⟨_, slk.len ty27 rfl, fun h3 => ⟨⟨by omega, lo'⟩, ?_⟩, fun h3 tmz _ _ _ _ _ q7 => ?_⟩
  · have hi : i < l.length := by omega
    obtain ⟨⟨x, z, y⟩, hx⟩ : ∃ p, l[i]? = some p := ⟨l[i], List.getElem?_eq_getElem hi⟩
    obtain ⟨f1, f2, f3, f4, f5⟩ := chkE_at c0 hx
    obtain ⟨pb, po, a1, _, a2, a3, _⟩ := at3 slk hx
    have lx := x9.le
    refine ⟨_, _, _, _, _, _, ald_agg ty24 rfl ((xx.get _ (by omega)).trans g9) rfl, pb, po, a1, z, a3, pb, po, a1, x, a2, ?_⟩
    have hzx : w64 (z - x) = (((z - x).toNat : Nat) : Int) := by rw [w64_id (by omega) (by omega)]; omega
    rw [hzx]
    have hk := pcs_le (n := (z - x).toNat) b1
    refine refUnits30_ok (h := topH h') hc (by omega) (by rw [topH_next]; omega) fun h14 x14 => ⟨_, _, rfl, ?_⟩
    obtain ⟨d1, d2⟩ := x14.drawn (by omega)
    have ud := d2.top
    refine ⟨⟨d1, by have : (lowM h' h14).next = h14.next := rfl; omega⟩, ?_⟩
    rintro h17 rfl
    have xk := xx.trans d2
    obtain ⟨v4, h5, e5, v6, h7, e7, x7, ow7, vb7⟩ := push_ok (u := .int .i64 (pcs (blk b) (z - x).toNat)) (ys := [.int .i64 (pcs (blk b) (z - x).toNat)]) xk (ow.ext d2) vb ty22 rfl te3_at rfl rfl rfl rfl (Nat.le_of_ble_eq_true rfl) rfl rfl (by show (i + 1) * 1 ≤ 262143; omega) (by show (i + 1) * 8 ≤ _; omega) (by omega)
    refine ⟨v4, h5, e5, trivial, v6, h7, e7, fun tmn _ _ q8 q1 q2 q7 => ⟨rfl, rfl, l.length - (i + 1), by omega, i + 1, by omega, rfl, ?_, q1, q2, v6, q7, x7.mono ?_, ?_, vb7⟩⟩
    · rw [q8, w64_id (by omega) (by omega)]; rfl
    · rw [← f2]; omega
    · rw [units_take hx]; exact ow7
  · have hi : i = l.length := by omega
    show wpC P ctx false r17_1 ⟨44, tmz, [], h'⟩ _
    rw [tm1 rfl q7]
    refine wpC.seal _ (vr17_1 _ _ _ _ _) fun tm2 q4 q5 _ _ _ _ => ?_
    show Q (.tuple [getV tm2 4, getV tm2 5]) h'
    rw [q4, q5]
    have hq := hq h' w ((x0.trans xx).mono (by omega))
    unfold unitsE at hq
    rw [if_pos c0, c0] at hq
    have hul : (units b l).length = l.length := by simp [units]
    have ht : (units b l).take i = units b l := List.take_of_length_le (by omega)
    rw [ht, hi, ← hul] at ow
    exact hq ow.sl

end Go.Proofs.Ytbkafllejpbimaa

namespace Go.Proofs.Ytbkafllejpbimaa
open Go.Sim

set_option maxRecDepth 100000 in
theorem blockC_ok {p : Nat} {a b d e : Int} {s u : Bool} {h : H} {Q : V → H → Prop} (hg : h.get p = some (cellsP a b d e s u)) (hb : 10 ≤ b ∧ b ≤ 27) (hq : Q (.int .i64 (blk b)) h) :
    RF P ctx 66 [.ptr p 0] h Q := by
  refine RF.enterE ctx_ok fn66 (ble _ _ rfl) (ble _ _ rfl) (vb66 _ h Q) ?_
  show ∃ x2, ald ctx 3 h (.ptr p (0 + 1)) = _ ∧ _
  obtain ⟨n, rfl⟩ : ∃ n : Nat, b = n := ⟨b.toNat, by omega⟩
  refine ⟨_, ald_one ty3 rfl hg rfl, _, shl_i64 (by omega), ?_⟩
  have := blk_int (n : Int)
  rw [show ((n : Int)).toNat = n from rfl] at this
  rw [this]
  exact hq

set_option maxRecDepth 100000 in
theorem asked66_ok {p : Nat} {a b d e : Int} {s u : Bool} {h : H} {Q : V → H → Prop} (hc : chk a b d e = 0) (hp : p < h.next) (hg : h.get p = some (cellsP a b d e s u)) (hn : h.next + 2 ≤ T.top)
    (hq : ∀ h', Ext h h' 2 → Q (.tuple [.int .i64 (blk b), .int .i64 0]) h') : RF P ctx 60 [par a b d e s u, .func (.func 66) [] [.ptr p 0]] h Q := by
  refine RF.enterE ctx_ok fn60 (ble _ _ rfl) (ble _ _ rfl) (vb60 a b d e s u _ h Q) ⟨by omega, ?_⟩
  rintro q h1 rfl rfl
  have hx := Ext.new (h := h) (cellsP a b d e s u) (by omega)
  have hg1 := get_new_self (h := h) (cellsP a b d e s u) (by omega)
  refine ⟨_, _, _, _, _, _, ald_agg ty24 rfl hg1 rfl, check_ok (by rw [new_next]; omega) fun h2 hx2 => ⟨_, rfl, fun g => absurd hc g, fun _ => ?_⟩⟩
  have hx3 := hx.trans hx2
  show RF P ctx 66 [.ptr p 0] h2 _
  obtain ⟨c1, c2, c3, c4⟩ := chk_ok hc
  refine blockC_ok (by rw [hx3.get p hp]; exact hg) ⟨c1, c2⟩ ⟨_, rfl, hq h2 hx3⟩

set_option maxRecDepth 100000 in
theorem block_ok {a b d e : Int} {s u : Bool} {h : H} {Q : V → H → Prop} (hc : chk a b d e = 0) (hn : h.next + 3 ≤ T.top)
    (hq : ∀ h', Ext h h' 3 → Q (.tuple [.int .i64 (blk b), .int .i64 0]) h') : RF P ctx 62 [par a b d e s u] h Q := by
  refine RF.enterE ctx_ok fn62 (ble _ _ rfl) (ble _ _ rfl) (vb62 a b d e s u h Q) ⟨by omega, ?_⟩
  rintro q h1 rfl rfl
  have hx := Ext.new (h := h) (cellsP a b d e s u) (by omega)
  have hg1 := get_new_self (h := h) (cellsP a b d e s u) (by omega)
  refine ⟨_, _, _, _, _, _, ald_agg ty24 rfl hg1 rfl, asked66_ok hc (by rw [new_next]; omega) hg1 (by rw [new_next]; omega) fun h2 hx2 => ⟨_, _, rfl, hq h2 (hx.trans hx2)⟩⟩

set_option maxRecDepth 100000 in
theorem askedP_ok {a b d e : Int} {s u : Bool} {n : Nat} {h : H} {Q : V → H → Prop} (hc : chk a b d e = 0) (hn0 : n ≤ 1048576) (hn : h.next + 4 ≤ T.top)
    (hq : ∀ h', Ext h h' 4 → Q (.tuple [.int .i64 (blk b), .int .i64 0]) h') : RF P ctx 54 [par a b d e s u, .int .i64 n] h Q := by
  refine RF.enterE ctx_ok fn54 (ble _ _ rfl) (ble _ _ rfl) (vb54 a b d e s u n h Q) ⟨by omega, ?_⟩
  rintro q h1 rfl rfl
  have hx := Ext.new (h := h) (cellsP a b d e s u) (by omega)
  have hg1 := get_new_self (h := h) (cellsP a b d e s u) (by omega)
  refine ⟨_, _, _, _, _, _, ald_agg ty24 rfl hg1 rfl, block_ok hc (by rw [new_next]; omega) fun h2 hx2 => ⟨_, _, rfl, fun _ => ⟨fun c => absurd c (by omega), fun _ => ⟨fun c => absurd c (by omega), fun _ => hq h2 (hx.trans hx2)⟩⟩, fun c => absurd rfl c⟩⟩

theorem pieces_ok {S n : Int} {h : H} {Q : V → H → Prop} (hn : h.next + 2 ≤ T.top)
    (hq : ∀ h', Ext h h' 2 → h'.next = h.next + 2 → h'.get h.next = some (cI S) → h'.get (h.next + 1) = some (cI n) → Q (.func (.func 63) [] [.ptr (h.next + 1) 0, .ptr h.next 0]) h') : RF P ctx 55 [.int .i64 S, .int .i64 n] h Q := by
  refine RF.enterE ctx_ok fn55 (ble _ _ rfl) (ble _ _ rfl) (vb55 S n h Q) ⟨rfl, by omega, ?_⟩
  rintro p0 h1 rfl e1
  have n1 : h1.next = h.next + 1 := by rw [e1, new_next]
  have x1 : Ext h h1 1 := by rw [e1]; exact Ext.new _ (by omega)
  have s1 : h1.get h.next = some (cI S) := by rw [e1]; exact get_new_self _ (by omega)
  refine ⟨rfl, by omega, ?_⟩
  rintro p2 h3 rfl e3
  have n3 : h3.next = h1.next + 1 := by rw [e3, new_next]
  have x3 : Ext h1 h3 1 := by rw [e3]; exact Ext.new _ (by omega)
  have s3 : h3.get h1.next = some (cI n) := by rw [e3]; exact get_new_self _ (by omega)
  rw [n1] at s3 ⊢
  exact hq h3 (x1.trans x3) (by omega) ((x3.get _ (by omega)).trans s1) s3

set_option maxRecDepth 100000 in
theorem round46_ok {l out i d : Nat} {a : V} {z : Int} {tm : Tm} {w : V} {xs : List V} {h : H} {Q : V → H → Prop} (hg : h.get l = some (.loop .ready none 30 tm #[23, 24] a46_0 g46_1 d)) (t8 : getV tm 8 = .ptr out 0)
    (go : h.get out = some (c1 23 w)) (ow : Ow h w te3 i xs) (hlo : l ≠ out) (hw : ∀ b, vblk w = some b → b ≠ l ∧ b ≠ out) (hl : l < h.next) (ho : out < h.next) (hi : i ≤ 4096) (hn : h.next + 2 ≤ T.top)
    (hq : ∀ h' w', ExtX (fun b => b = l ∨ b = out ∨ vblk w = some b) h h' 2 → h'.get l = some (.loop .ready none 30 tm #[23, 24] a46_0 g46_1 d) → h'.get out = some (c1 23 w') → Ow h' w' te3 (i + 1) (xs ++ [.int .i64 z]) → (∀ b, vblk w' = some b → h.next ≤ b) → Q (.bool true) h') :
    RR P l [a, .int .i64 z] h Q := by
  refine RR.intro (by omega) hg rfl (RC.of_wp ctx_ok a46_0 ?_)
  refine wpC.seal _ (va46_0 _ _ _ _ _) fun tma q4 q5 q24 q8 q10 => ?_
  have gl0 := hg
  have y0 : ExtX (fun b => b = l ∨ b = out ∨ vblk w = some b) h (h.upd l (some (.loop .busy none 30 tm #[23, 24] a46_0 g46_1 d))) 0 := (ExtX.of (Ext.refl h)).upd _ (by omega) (.inl (.inl rfl))
  refine ⟨rfl, _, _, _, _, _, _, _, gl0, RC.of_wp ctx_ok g46_1 ?_⟩
  have q8' : getV tma 8 = .ptr out 0 := by rw [q8]; exact Eq.trans (by kernel_rfl) t8
  rw [tm2 rfl q8' q10]
  have gl3 : (h.upd l (some (.loop .busy none 30 tm #[23, 24] a46_0 g46_1 d))).get l = some (.loop .busy none 30 tm #[23, 24] a46_0 g46_1 d) := get_upd_self _ (by omega)
  have go3 : (h.upd l (some (.loop .busy none 30 tm #[23, 24] a46_0 g46_1 d))).get out = some (c1 23 w) := by rw [get_upd_ne _ (by omega) (fun g => hlo g.symm), go]
  have ow3 : Ow (h.upd l (some (.loop .busy none 30 tm #[23, 24] a46_0 g46_1 d))) w te3 i xs := ow.keep (Nat.le_refl _) fun b hb => get_upd_ne _ (by omega) (hw b hb).1
  have n3 : (h.upd l (some (.loop .busy none 30 tm #[23, 24] a46_0 g46_1 d))).next = h.next := rfl
  show wpC P ctx true (slim g46_1) ⟨30, _, [], h.upd l (some (.loop .busy none 30 tm #[23, 24] a46_0 g46_1 d))⟩ _
  generalize h.upd l (some (.loop .busy none 30 tm #[23, 24] a46_0 g46_1 d)) = h3 at *
  obtain ⟨v4, h5, e5, sl5, x5, vb5⟩ := buildSlice1 (c := ctx) (h := h3) (u := .int .i64 z) (ys := [.int .i64 z]) ty22 rfl te3_at rfl rfl rfl rfl (Nat.le_of_ble_eq_true rfl) rfl (by omega)
  obtain ⟨v6, h7, e7, ow7, l7, u7, g7, vb7, low7, lo7⟩ := (ow3.ext x5).append (c := ctx) sl5 (by omega) ty22 rfl te3_at rfl rfl (by show (i + 1) * 1 ≤ 262143; omega) (by show (i + 1) * 8 ≤ _; omega) (by have := x5.top; omega)
  have y5 := y0.trans (.of x5)
  have y7 : ExtX (fun b => b = l ∨ b = out ∨ vblk w = some b) h h7 2 := y5.trans (n := 1) ⟨l7, u7, fun b hb hs => g7 b hb fun q => hs (.inr (.inr q)), low7, fun m h1 _ h3 => lo7 m h1 fun b hb => h3 b (.inr (.inr hb))⟩
  have n5 := x5.top
  have m5 := x5.le
  have go7 : h7.get out = some (c1 23 w) := by rw [g7 _ (by omega) (fun q => (hw _ q).2 rfl), x5.get _ (by omega), go3]
  have gl7 : h7.get l = some (.loop .busy none 30 tm #[23, 24] a46_0 g46_1 d) := by rw [g7 _ (by omega) (fun q => (hw _ q).1 rfl), x5.get _ (by omega), gl3]
  have hone : v6.one = true := one_of_ow ow7
  have hcells : v6.cells = [v6] := by
    obtain ⟨_, ⟨rfl, _⟩ | ⟨b', cs, rfl, _⟩⟩ := ow7
    · rfl
    · rfl
  obtain ⟨h8, e8, y8, go8, gl8, ow8, n8⟩ : ∃ h8, ast ctx 22 h7 (.ptr out 0) v6 = some h8 ∧ ExtX (fun b => b = l ∨ b = out ∨ vblk w = some b) h h8 2 ∧ h8.get out = some (c1 23 v6) ∧ h8.get l = some (.loop .busy none 30 tm #[23, 24] a46_0 g46_1 d) ∧ Ow h8 v6 te3 (i + 1) (xs ++ [.int .i64 z]) ∧ h8.next = h7.next := by
    refine ⟨_, ast_at (cs' := .ls [v6]) ty22 go7 (by rw [hcells]; rfl) (Nat.le_refl _) (by rw [hcells]; simp [allOne, hone]) (by rw [hcells]; rfl), y7.upd _ (by omega) (.inl (.inr (.inl rfl))), get_upd_self _ (by omega), by rw [get_upd_ne _ (by omega) hlo, gl7], ?_, rfl⟩
    refine ow7.keep (Nat.le_refl _) fun b hb => get_upd_ne _ (by omega) ?_
    rw [vb7] at hb; cases hb; omega
  refine wpC.seal _ (vg46_1 _ _ _ _ _ _) ⟨w, ald_one ty22 rfl go3 rfl, v4, h5, e5, trivial, v6, h7, e7, h8, e8, fun tmb _ _ _ _ _ => ?_⟩
  show (match roundEnd l .normal ⟨30, tmb, [], h8⟩ with | some (.ret v h') => Q v h' | _ => False)
  simp only [roundEnd, gl8]
  refine hq _ v6 (y8.upd _ (by omega) (.inl (.inl rfl))) (get_upd_self _ (by omega)) (by rw [get_upd_ne _ (by omega) (fun g => hlo g.symm), go8]) (ow8.keep (Nat.le_refl _) fun b hb => get_upd_ne _ (by omega) ?_) fun b hb => ?_
  · rw [vb7] at hb; cases hb; omega
  · rw [vb7] at hb; cases hb; omega

end Go.Proofs.Ytbkafllejpbimaa

namespace Go.Proofs.Ytbkafllejpbimaa
open Go.Sim

set_option maxRecDepth 100000 in
theorem iter63_ok {l out pn ps d n S : Nat} {tm : Tm} {h : H} {Q : V → H → Prop} (hS : 1024 ≤ S ∧ S ≤ 131072) (hn0 : n ≤ 1048576)
    (hg : h.get l = some (.loop .ready none 30 tm #[23, 24] a46_0 g46_1 d)) (t8 : getV tm 8 = .ptr out 0) (go : h.get out = some (c1 23 .nilslice)) (hlo : l ≠ out) (hl : l < h.next) (ho : out < h.next)
    (gn : h.get pn = some (cI n)) (gs : h.get ps = some (cI S)) (hpn : pn < h.next ∧ pn ≠ l ∧ pn ≠ out) (hps : ps < h.next ∧ ps ≠ l ∧ ps ≠ out) (hn : h.next + 2 * pcs S n ≤ T.top)
    (hq : ∀ h' w' xs, ExtX (fun b => b = l ∨ b = out) h h' (2 * pcs S n) → h'.get l = some (.loop .ready none 30 tm #[23, 24] a46_0 g46_1 d) → h'.get out = some (c1 23 w') → Ow h' w' te3 (pcs S n) xs → (∀ b, vblk w' = some b → h.next ≤ b) → Q (.tuple []) h') :
    RF P ctx 63 [.yield l, .ptr pn 0, .ptr ps 0] h Q := by
  refine RF.enterE ctx_ok fn63 (ble _ _ rfl) (ble _ _ rfl) (vb63 _ _ _ h Q) ?_
  have hk := pcs_le (n := n) hS.1
  refine loop_wp (fun k tmk h' => ∃ i : Nat, i ≤ pcs S n ∧ k = pcs S n - i ∧ getV tmk 4 = .int .i64 ((i * S : Nat) : Int) ∧ getV tmk 0 = .yield l ∧ getV tmk 2 = .ptr ps 0 ∧ getV tmk 1 = .ptr pn 0 ∧
    ∃ w xs, ExtX (fun b => b = l ∨ b = out) h h' (2 * i) ∧ h'.get l = some (.loop .ready none 30 tm #[23, 24] a46_0 g46_1 d) ∧ h'.get out = some (c1 23 w) ∧ Ow h' w te3 i xs ∧ (∀ b, vblk w = some b → h.next ≤ b)) (pcs S n) ?_ ?_
  · exact ⟨0, by omega, by omega, by simp; kernel_rfl, by kernel_rfl, by kernel_rfl, by kernel_rfl, .nilslice, [], ExtX.of (Ext.refl h), hg, go, Ow.nil _ _, fun b hb => (by cases hb)⟩
  rintro k tmk hk' ⟨i, i1, rfl, t4, t0, t2, t1, w, xs, yk, glk, gok, owk, vbk⟩
  rw [tm4 rfl t4 t0 t2 t1]
  have uk := yk.top
  have lk := yk.le
  have hlt := pcs_lt (n := n) (i := i) (show 0 < S by omega)
  have gnk : hk'.get pn = some (cI n) := (yk.get _ hpn.1 (fun q => by rcases q with q | q <;> omega)).trans gn
  have gsk : hk'.get ps = some (cI S) := (yk.get _ hps.1 (fun q => by rcases q with q | q <;> omega)).trans gs
  have rr : i < pcs S n → ∀ (z : Int) (Q2 : V → H → Prop), (∀ h6 w6 xs6, ExtX (fun b => b = l ∨ b = out) h h6 (2 * (i + 1)) → h6.get l = some (.loop .ready none 30 tm #[23, 24] a46_0 g46_1 d) → h6.get out = some (c1 23 w6) → Ow h6 w6 te3 (i + 1) xs6 → (∀ b, vblk w6 = some b → h.next ≤ b) → h6.get ps = some (cI S) → Q2 (.bool true) h6) → RR P l [.int .i64 ((i * S : Nat) : Int), .int .i64 z] hk' Q2 := by
    intro hi z Q2 kk
    refine round46_ok (i := i) (w := w) glk t8 gok owk hlo (fun b hb => by have := vbk b hb; omega) (by omega) (by omega) (by omega) (by omega) fun h6 w6 y6 gl6 go6 ow6 vb6 => ?_
    have u6 := y6.top
    have l6 := y6.le
    have y : ExtX (fun b => b = l ∨ b = out) h h6 (2 * (i + 1)) := ⟨by omega, by omega, fun b hb hs => (y6.get _ (by omega) (fun q => by
      rcases q with q | q | q
      · exact hs (.inl q)
      · exact hs (.inr q)
      · have := vbk b q; omega)).trans (yk.get b hb hs), Nat.le_trans y6.low yk.low, fun k r1 r2 r3 => y6.lo k (yk.lo k r1 r2 r3) (by omega) fun b hb => by
      rcases hb with q | q | q
      · exact r3 b (.inl q)
      · exact r3 b (.inr q)
      · have := vbk b q; omega⟩
    exact kk h6 w6 _ y gl6 go6 ow6 (fun b hb => by have := vb6 b hb; omega) ((y.get _ hps.1 (fun q => by rcases q with q | q <;> omega)).trans gs)
  have next : i < pcs S n → w64 (((i * S : Nat) : Int) + (S : Int)) = (((i + 1) * S : Nat) : Int) := fun hi => by
    have : i * S ≤ n := by rcases hlt.1 hi with rfl | q <;> omega
    rw [w64_id (by omega) (by omega), Nat.succ_mul]; omega
  refine wpC.seal _ (vl63_0 _ _ _ _ _ _ _ _) ⟨fun c => ?_, fun c => ⟨_, ald_one ty3 rfl gnk rfl, fun c2 => ?_, fun c2 tmz _ _ _ _ => ?_⟩⟩
  · have hi : i < pcs S n := hlt.2 (by
      rcases Nat.eq_zero_or_pos i with q | q
      · exact .inl q
      · have h0 : 1 * S ≤ i * S := Nat.mul_le_mul_right S q
        omega)
    refine ⟨_, ald_one ty3 rfl gsk rfl, _, ald_one ty3 rfl gnk rfl, ?_⟩
    show RR P l [.int .i64 ((i * S : Nat) : Int), .int .i64 _] hk' _
    refine rr hi _ _ fun h6 w6 xs6 y gl6 go6 ow6 vb6 gs6 => ⟨true, rfl, fun _ => ⟨_, ald_one ty3 rfl gs6 rfl, fun tmn q4 q0 q2 q1 => ⟨rfl, rfl, pcs S n - (i + 1), by omega, i + 1, by omega, rfl, ?_, q0, q2, q1, w6, xs6, y, gl6, go6, ow6, vb6⟩⟩, fun g => (by cases g)⟩
    rw [q4, next hi]
  · have hi : i < pcs S n := hlt.2 (.inr (by omega))
    refine ⟨_, ald_one ty3 rfl gsk rfl, _, ald_one ty3 rfl gnk rfl, ?_⟩
    show RR P l [.int .i64 ((i * S : Nat) : Int), .int .i64 _] hk' _
    refine rr hi _ _ fun h6 w6 xs6 y gl6 go6 ow6 vb6 gs6 => ⟨true, rfl, fun _ => ⟨_, ald_one ty3 rfl gs6 rfl, fun tmn q4 q0 q2 q1 => ⟨rfl, rfl, pcs S n - (i + 1), by omega, i + 1, by omega, rfl, ?_, q0, q2, q1, w6, xs6, y, gl6, go6, ow6, vb6⟩⟩, fun g => (by cases g)⟩
    rw [q4, next hi]
  · have hi : i = pcs S n := by
      rcases Nat.lt_or_ge i (pcs S n) with q | q
      · rcases hlt.1 q with q | q
        · subst q; exact absurd (by simp) c
        · omega
      · omega
    subst hi
    show Q (.tuple []) hk'
    exact hq hk' w xs yk glk gok owk vbk

set_option maxRecDepth 100000 in
theorem endsP_ok {a b d e : Int} {s u : Bool} {n : Nat} {h : H} {Q : V → H → Prop} (hc : chk a b d e = 0) (hn0 : n ≤ 1048576) (hn : h.next + 11 + 2 * pcs (blk b) n ≤ T.top) (hlow : h.low ≤ T.top)
    (hq : ∀ h' w xs, Ext h h' (10 + 2 * pcs (blk b) n) → Sl h' w 1 (pcs (blk b) n) xs → Q (.tuple [w, .int .i64 0]) h') : RF P ctx 46 [par a b d e s u, .int .i64 n] h Q := by
  obtain ⟨c1', c2, c3, c4⟩ := chk_ok hc
  have hS := blk_bnd c1'
  refine RF.enterE ctx_ok fn46 (ble _ _ rfl) (ble _ _ rfl) (vb46 a b d e s u n h Q) ⟨by omega, ?_⟩
  rintro p0 h1 rfl e1
  have n1 : h1.next = h.next + 1 := by rw [e1, new_next]
  have x1 : Ext h h1 1 := by rw [e1]; exact Ext.new _ (by omega)
  have s1 : h1.get h.next = some (cellsP a b d e s u) := by rw [e1]; exact get_new_self _ (by omega)
  refine ⟨_, _, _, _, _, _, ald_agg ty24 rfl s1 rfl, askedP_ok hc hn0 (by omega) fun h9 x9 => ⟨_, _, rfl, fun c => absurd rfl c, fun _ => ⟨rfl, by have := x9.top; omega, ?_⟩⟩⟩
  have u9 := x9.top
  have l9 := x9.le
  rintro p2 h3 rfl e3
  have n3 : h3.next = h9.next + 1 := by rw [e3, new_next]
  have x3 : Ext h9 h3 1 := by rw [e3]; exact Ext.new _ (by omega)
  have s3 : h3.get h9.next = some (c1 23 .nilslice) := by rw [e3]; exact get_new_self _ (by omega)
  refine pieces_ok (by omega) fun h11 x11 n11 gs gn => ⟨_, rfl, ?_⟩
  have x0 : Ext h h11 8 := ((x1.trans x9).trans x3).trans x11
  suffices key : ∀ tm, getV tm 22 = .func (.func 63) [] [.ptr (h3.next + 1) 0, .ptr h3.next 0] → getV tm 8 = .ptr h9.next 0 → RC P false q46_2 ⟨30, tm, [], h11⟩ (fun e s1 => (thenC (fun s1 => wpC P ctx false r46_3 s1 (endW ctx ⟨30, [.tmp 4, .tmp 5], b46⟩ Q)) (endW ctx ⟨30, [.tmp 4, .tmp 5], b46⟩ Q)) (exitB 0 e) s1) from key _ (by kernel_rfl) (by kernel_rfl)
  intro tm t22 t8
  refine RC.rangeFunc ctx_ok (g := 63) (first := []) (captured := [.ptr (h3.next + 1) 0, .ptr h3.next 0]) (show evx tm (t 22) = _ from congrArg some t22) (by show h11.next + 1 < _; omega) ?_
  show RF P ctx 63 [.yield (h11.next + 1), .ptr (h3.next + 1) 0, .ptr h3.next 0] ((h11.new (.deferred true)).new (.loop .ready none 30 tm #[23, 24] a46_0 g46_1 h11.next)) _
  have na : (h11.new (.deferred true)).next = h11.next + 1 := new_next _ _
  have xa : Ext h11 (h11.new (.deferred true)) 1 := Ext.new _ (by omega)
  have ga : (h11.new (.deferred true)).get h11.next = some (.deferred true) := get_new_self _ (by omega)
  generalize h11.new (.deferred true) = ha at *
  have nb (o : O) : (ha.new o).next = h11.next + 2 := by rw [new_next, na]
  have xb (o : O) : Ext ha (ha.new o) 1 := Ext.new _ (by omega)
  have gb (o : O) : (ha.new o).get (h11.next + 1) = some o := by rw [← na]; exact get_new_self _ (by omega)
  refine iter63_ok (out := h9.next) hS hn0 (gb _) t8 ?_ (by omega) (by rw [nb]; omega) (by rw [nb]; omega) ?_ ?_ ⟨by rw [nb]; omega, by omega, by omega⟩ ⟨by rw [nb]; omega, by omega, by omega⟩ (by rw [nb]; omega) ?_
  · rw [(xb _).get _ (by omega), xa.get _ (by omega), x11.get _ (by omega), s3]
  · rw [(xb _).get _ (by omega), xa.get _ (by omega), gn]
  · rw [(xb _).get _ (by omega), xa.get _ (by omega), gs]
  · intro h' w' xs y gl go ow vb
    have gd : h'.get h11.next = some (.deferred true) := by
      rw [y.get _ (by rw [nb]; omega) (by omega), (xb _).get _ (by omega), ga]
    have z : Ext h h' (8 + 1 + 1 + 2 * pcs (blk b) n) := ExtX.ext ((x0.trans xa).trans (xb _)) y (fun b g => by rcases g with q | q <;> omega)
    have u' := y.top
    have l' := y.le
    rw [nb] at u' l'
    simp only [rangeEnd, gl]
    have z1 := z.upd (some (.loop .exhausted none 30 tm #[23, 24] a46_0 g46_1 h11.next)) (b := h11.next + 1) (by omega) (by omega)
    have k1 : ∀ i, i ≠ h11.next + 1 → (h'.upd (h11.next + 1) (some (.loop .exhausted none 30 tm #[23, 24] a46_0 g46_1 h11.next))).get i = h'.get i := fun i hi => get_upd_ne _ (by omega) hi
    show wpC P ctx false r46_3 ⟨30, tm, [.coll h11.next], h'.upd (h11.next + 1) (some (.loop .exhausted none 30 tm #[23, 24] a46_0 g46_1 h11.next))⟩ _
    have m1 : (h'.upd (h11.next + 1) (some (.loop .exhausted none 30 tm #[23, 24] a46_0 g46_1 h11.next))).next = h'.next := rfl
    generalize h'.upd (h11.next + 1) (some (.loop .exhausted none 30 tm #[23, 24] a46_0 g46_1 h11.next)) = h2 at *
    rw [tm1 rfl t8]
    refine wpC.seal _ (vr46_3 _ _ _ _ _) ⟨w', ald_one ty22 rfl ((k1 _ (by omega)).trans go) rfl, fun tmq q4 q5 _ _ _ => ?_⟩
    show wpD [.coll h11.next] h2 _
    simp only [wpD, (k1 _ (by omega)).trans gd]
    show Q (.tuple [getV tmq 4, getV tmq 5]) (h2.upd h11.next (some (.deferred false)))
    rw [q4, q5]
    have vb' : ∀ b, vblk w' = some b → b ≠ h11.next + 1 ∧ b ≠ h11.next := fun b hb => by have := vb b hb; rw [nb] at this; omega
    have ow' : Ow (h2.upd h11.next (some (.deferred false))) w' te3 (pcs (blk b) n) xs := ow.keep (show h'.next ≤ h2.next by omega) fun b hb => by rw [get_upd_ne _ (by omega) (vb' b hb).2, k1 _ (vb' b hb).1]
    exact hq _ w' xs ((z1.upd _ (by omega) (by omega)).mono (by omega)) ow'.sl

set_option maxRecDepth 100000 in
theorem unitsP_ok {a b d e : Int} {s u : Bool} {n : Nat} {h : H} {Q : V → H → Prop} (hc : chk a b d e = 0) (hn0 : n ≤ 1048576) (hn : h.next + 12 + 2 * pcs (blk b) n ≤ T.top) (hlow : h.low ≤ T.top)
    (hq : ∀ h', Ext h h' (11 + 2 * pcs (blk b) n) → Q (.tuple [.int .i64 (pcs (blk b) n), .int .i64 0]) h') : RF P ctx 35 [par a b d e s u, .int .i64 n] h Q := by
  refine RF.enterE ctx_ok fn35 (ble _ _ rfl) (ble _ _ rfl) (vb35 a b d e s u n h Q) ⟨by omega, ?_⟩
  rintro p h1 rfl e1
  have n1 : h1.next = h.next + 1 := by rw [e1, new_next]
  have x1 : Ext h h1 1 := by rw [e1]; exact Ext.new _ (by omega)
  have s1 : h1.get h.next = some (cellsP a b d e s u) := by rw [e1]; exact get_new_self _ (by omega)
  refine ⟨_, _, _, _, _, _, ald_agg ty24 rfl s1 rfl, endsP_ok hc hn0 (by omega) (Nat.le_trans x1.low hlow) fun h9 w xs x9 sl => ⟨_, _, rfl, _, sl.len ty22 rfl, ?_⟩⟩
  exact hq h9 ((x1.trans x9).mono (by omega))

set_option maxRecDepth 100000 in
theorem unitC_ok {p : Nat} {a b d e x z y : Int} {s u : Bool} {h : H} {Q : V → H → Prop} (hc : chk a b d e = 0) (hp : p < h.next) (hg : h.get p = some (cellsP a b d e s u)) (h0 : 0 ≤ x) (h1 : x ≤ z) (h2 : z ≤ 1048576) (hn : h.next + 13 + 2 * pcs (blk b) (z - x).toNat ≤ T.top) (hlow : h.low ≤ T.top)
    (hq : ∀ h', Ext h h' (12 + 2 * pcs (blk b) (z - x).toNat) → Q (.int .i64 (pcs (blk b) (z - x).toNat)) h') : RF P ctx 34 [.agg (job x z y), .ptr p 0] h Q := by
  refine RF.enterE ctx_ok fn34 (ble _ _ rfl) (ble _ _ rfl) (vb34 x z y _ h Q) ⟨by omega, ?_⟩
  rintro q h1 rfl rfl
  have hx := Ext.new (h := h) (.cells (.ls (job x z y)) ⟨0, 34, 0⟩ true false) (by omega)
  have hg1 := get_new_self (h := h) (.cells (.ls (job x z y)) ⟨0, 34, 0⟩ true false) (by omega)
  refine ⟨_, _, _, _, _, _, ald_agg ty24 rfl ((hx.get p hp).trans hg) rfl, z, ald_one ty3 rfl hg1 rfl, x, ald_one ty3 rfl hg1 rfl, ?_⟩
  have hzx : w64 (z - x) = (((z - x).toNat : Nat) : Int) := by rw [w64_id (by omega) (by omega)]; omega
  rw [hzx]
  refine unitsP_ok hc (by omega) (by rw [new_next]; omega) (Nat.le_trans hx.low hlow) fun h9 x9 => ⟨_, _, rfl, ?_⟩
  exact hq h9 ((hx.trans x9).mono (by omega))

end Go.Proofs.Ytbkafllejpbimaa

namespace Go.Proofs.Ytbkafllejpbimaa
open Go.Sim

set_option maxRecDepth 100000 in
theorem mappedU_ok {p : Nat} {a b d e R : Int} {s u : Bool} {v : V} {l : List (Int × Int × Int)} {h : H} {Q : V → H → Prop} (c0 : chkE (chk a b d e) R l = 0) (hp : p < h.next) (hg : h.get p = some (cellsP a b d e s u)) (sl : Sl h v 3 l.length (jl l)) (hlen : l.length ≤ 30) (hn : h.next + 3000 ≤ T.top) (hlow : h.low ≤ T.top)
    (hq : ∀ h' w, Ext h h' 2600 → Sl h' w 1 l.length (ints (units b l)) → Q w h') : RF P ctx 28 [v, .func (.func 34) [] [.ptr p 0]] h Q := by
  obtain ⟨hc, hbn, hsr, _⟩ := chkE_zero c0
  obtain ⟨c1', c2, c3, c4⟩ := chk_ok hc
  obtain ⟨b1, b2⟩ := blk_bnd c1'
  have htl : (tos l).length = l.length := by simp [tos]
  obtain ⟨w0, h2, e2, ex2, x2, vb2⟩ := Ex.make (c := ctx) (h := h) (k := l.length) ty22 rfl te3_at rfl rfl rfl (by omega) (by show 8 * _ ≤ _; omega) (by omega)
  refine RF.enterE ctx_ok fn28 (ble _ _ rfl) (ble _ _ rfl) (vb28 _ _ h Q) ⟨_, sl.len ty27 rfl, w0, h2, e2, _, (sl.ext x2).len ty27 rfl, ?_⟩
  refine loop_wp (fun k tm h' => ∃ i : Nat, i ≤ l.length ∧ k = l.length - i ∧ getV tm 13 = .int .i64 i ∧ getV tm 12 = .int .i64 l.length ∧ getV tm 11 = v ∧ getV tm 1 = .func (.func 34) [] [.ptr p 0] ∧
    ∃ w, getV tm 5 = w ∧ Ext h h' (1 + 16 * i + 2 * ((la (tos l) i).toNat / 1024)) ∧ Ex h' w 1 i l.length (ints ((units b l).take i)) ∧ vblk w = some h.next ∧ h.next < h'.next) l.length ?_ ?_
  · exact ⟨0, by omega, by omega, by kernel_rfl, by kernel_rfl, by kernel_rfl, by kernel_rfl, w0, by kernel_rfl, x2.mono (by omega), ex2, vb2, by obtain ⟨_, _, b, cs, q, q2, _⟩ := ex2; have := x2.le; subst q; cases vb2; omega⟩
  rintro k tm h' ⟨i, h1, rfl, t13, t12, t11, t1, w, t5, xk, exk, vbk, nk⟩
  rw [tm5 rfl t13 t12 t11 t5 t1]
  have uk := xk.top
  have hla := la_bnd hbn (i := i) (by omega)
  refine wpC.seal _ (vl28_0 _ _ _ _ _ _ _ _ _) ⟨fun h3 => ?_, fun h3 tmz _ _ _ _ q5 _ => ?_⟩
  · have hi : i < l.length := by omega
    obtain ⟨⟨x, z, y⟩, hx⟩ : ∃ p, l[i]? = some p := ⟨l[i], List.getElem?_eq_getElem hi⟩
    obtain ⟨f1, f2, f3, f4, f5⟩ := chkE_at c0 hx
    have hk := pcs_le (n := (z - x).toNat) b1
    obtain ⟨b', o, a1, a2, _⟩ := at3 (sl.ext xk) hx
    refine ⟨b', o, a1, x, z, y, a2, by omega, ?_⟩
    rintro p5 h6 rfl e6
    have n6 : h6.next = h'.next + 1 := by rw [e6, new_next]
    have x6 : Ext h' h6 1 := by rw [e6]; exact Ext.new _ (by omega)
    have s6 := get_new_self (h := h') (.cells (.ls [.int .i64 0, .int .i64 0, .int .i64 0]) ⟨0, 34, 0⟩ true false) (by omega)
    rw [← e6] at s6
    obtain ⟨h7, e7, x7, g7, n7⟩ : ∃ h7, ast ctx 33 h6 (.ptr h'.next 0) (.agg (job x z y)) = some h7 ∧ Ext h' h7 1 ∧ h7.get h'.next = some (.cells (.ls (job x z y)) ⟨0, 34, 0⟩ true false) ∧ h7.next = h6.next :=
      ⟨_, ast_at ty33 s6 rfl (Nat.le_refl _) rfl rfl, x6.upd _ (by omega) (Nat.le_refl _), get_upd_self _ (by omega), rfl⟩
    refine ⟨h7, e7, x, z, y, ald_agg ty33 rfl g7 rfl, ?_⟩
    show RF P ctx 34 [.agg (job x z y), .ptr p 0] h7 _
    have xh := xk.trans x7
    refine unitC_ok hc (by have := xh.le; omega) ((xh.get _ hp).trans hg) f3 f4 f5 (by omega) (Nat.le_trans xh.low hlow) fun h12 x12 => ⟨_, rfl, ?_⟩
    have u12 := x12.top
    obtain ⟨v13, h14, e14, sl14, x14, vb14⟩ := buildSlice1 (c := ctx) (h := h12) (u := .int .i64 (pcs (blk b) (z - x).toNat)) (ys := [.int .i64 (pcs (blk b) (z - x).toNat)]) ty22 rfl te3_at rfl rfl rfl rfl (Nat.le_of_ble_eq_true rfl) rfl (by omega)
    have u14 := x14.top
    have xx : Ext h' h14 (14 + 2 * pcs (blk b) (z - x).toNat) := ((x7.trans x12).trans x14).mono (by omega)
    obtain ⟨v15, h16, e16, ex16, n16, g16, vb16, low16, lo16⟩ := (exk.ext xx).append (te := te3) (c := ctx) sl14 (by omega) ty22 rfl te3_at rfl rfl (by omega) (by omega)
    refine ⟨v13, h14, e14, trivial, v15, h16, e16, fun tmn _ q13 q12 q11 q5 q1 => ⟨rfl, rfl, l.length - (i + 1), by omega, i + 1, by omega, rfl, ?_, q12, q11, q1, v15, q5, ?_, ?_, vb16.trans vbk, ?_⟩⟩
    · rw [q13, w64_id (by omega) (by omega)]; rfl
    · have y := xk.trans xx
      show Ext h h16 _
      rw [← f2]
      refine ⟨by have := y.le; omega, by have := y.top; omega, fun b hb => (g16 b (fun q => by rw [vbk] at q; cases q; omega)).trans (y.get b hb), Nat.le_trans low16 y.low, lo16 _ y.lo fun b hb => ?_⟩
      rw [vbk] at hb; cases hb; exact Nat.min_le_right _ _
    · rw [units_take hx]
      exact ex16
    · show h.next < h16.next
      have := xx.le; omega
  · have hi : i = l.length := by omega
    subst hi
    show wpC P ctx false r28_1 ⟨25, tmz, [], h'⟩ _
    rw [tm1 rfl q5]
    refine wpC.seal _ (vr28_1 _ _ _ _ _) fun tm2 q4 _ _ _ _ _ => ?_
    show Q (getV tm2 4) h'
    rw [q4]
    have : (units b l).take l.length = units b l := List.take_of_length_le (by simp [units])
    rw [this] at exk
    exact hq h' w (xk.mono (by omega)) exk.sl

set_option maxRecDepth 100000 in
theorem units_ok {a b d e : Int} {s u : Bool} {v : V} {l : List (Int × Int × Int)} {h : H} {Q : V → H → Prop} (sl : Sl h v 3 l.length (jl l)) (hk : ∀ h', Ext h h' 2 → Tk h' v l) (hlt : l.length ≤ 30) (hn : h.next + 45000 ≤ T.top) (hlow : h.low ≤ T.top)
    (hq : ∀ h' w, Ext h h' 45000 → Sl h' w 1 (unitsE b (chkE (chk a b d e) (pre b e) l) l).length (ints (unitsE b (chkE (chk a b d e) (pre b e) l) l)) → Q (.tuple [w, .int .i64 (chkE (chk a b d e) (pre b e) l)]) h') : RF P ctx 16 [par a b d e s u, v] h Q := by
  refine RF.enterE ctx_ok fn16 (ble _ _ rfl) (ble _ _ rfl) (vb16 a b d e s u v h Q) ⟨by omega, ?_⟩
  rintro p h1 rfl e1
  have n1 : h1.next = h.next + 1 := by rw [e1, new_next]
  have x1 : Ext h h1 1 := by rw [e1]; exact Ext.new _ (by omega)
  have s1 : h1.get h.next = some (cellsP a b d e s u) := by rw [e1]; exact get_new_self _ (by omega)
  refine ⟨_, _, _, _, _, _, ald_agg ty24 rfl s1 rfl, checkT_ok (sl.ext x1) (fun h' x => hk h' (x1.trans x)) (by omega) (by omega) (Nat.le_trans x1.low hlow) fun h9 x9 => ⟨_, rfl, fun c => ?_, fun c => ?_⟩⟩
  · have hq := hq h9 .nilslice ((x1.trans x9).mono (by omega))
    unfold unitsE at hq
    rw [if_neg c] at hq
    exact hq ⟨rfl, .inl ⟨rfl, rfl⟩⟩
  have c0 : chkE (chk a b d e) (pre b e) l = 0 := Classical.not_not.1 c
  have u9 := x9.top
  have l9 := x9.le
  refine mappedU_ok c0 (by omega) ((x9.get _ (by omega)).trans s1) ((sl.ext x1).ext x9) hlt (by omega) (Nat.le_trans x9.low (Nat.le_trans x1.low hlow)) fun h12 w x12 slw => ⟨_, rfl, ?_⟩
  have hq := hq h12 w (((x1.trans x9).trans x12).mono (by omega))
  unfold unitsE at hq
  rw [if_pos c0, c0] at hq
  have hul : (units b l).length = l.length := by simp [units]
  rw [hul] at hq
  exact hq slw

end Go.Proofs.Ytbkafllejpbimaa

namespace Go.Proofs.Ytbkafllejpbimaa
open Go.Sim

/-- A table, if there is one. -/
def tblE (R E : Int) (l : List Int) : List (Int × Int × Int) := if E = 0 then jt R l l.length else []

theorem tbl_sl {R E : Int} {l : List Int} {h : H} {w : V} (h1 : E = 0 → Ow h w te33 l.length (jc R l l.length)) (h2 : E ≠ 0 → w = .nilslice) : Sl h w 3 (tblE R E l).length (jl (tblE R E l)) := by
  unfold tblE
  by_cases hE : E = 0
  · rw [if_pos hE, jt_len]
    have := (h1 hE).sl
    rw [jc_jl] at this
    exact this
  · rw [if_neg hE, h2 hE]
    exact ⟨rfl, .inl ⟨rfl, rfl⟩⟩

theorem tblE_len (R E : Int) (l : List Int) : (tblE R E l).length ≤ l.length := by
  unfold tblE; split
  · rw [jt_len]; exact Nat.le_refl _
  · exact Nat.zero_le _

theorem partsR_is (s : List UInt8) (x z y : Int) : ∃ l m n, partsR s x z y = .tuple [.str l, .str m, .int .i64 n] := by
  unfold partsR; split
  · exact ⟨_, _, _, rfl⟩
  · exact ⟨_, _, _, rfl⟩

set_option maxRecDepth 100000 in
theorem ends_all {a b d e x z y : Int} {s u : Bool} {v1 v2 : V} {ends : List Int} {l : List (Int × Int × Int)} {str : List UInt8} {h : H} {Q : V → H → Prop} (sl1 : Sl h v1 1 ends.length (ints ends)) (hz : ∀ h' m, Ext h h' m → ends.length = 0 → srcCells 1 h' v1 = some (0, [])) (sl2 : Sl h v2 3 l.length (jl l)) (hk : ∀ h' m, Ext h h' m → Tk h' v2 l)
    (hn : h.next + 160000 ≤ T.top) (hlow : h.low ≤ T.top) (hq : ∀ h', Q (.bool true) h') : RF P ctx 4 [par a b d e s u, v1, v2, .str str, .agg (job x z y)] h Q := by
  have aw : ∀ h', RF P ctx 10 [] h' (fun v5 h6 => ∃ (b7 : Bool), v5 = (.bool b7) ∧ ((b7 = true → Q (.bool true) h6) ∧ (b7 = false → Q (.bool false) h6))) := fun h' => awake_ok ⟨true, rfl, fun _ => hq _, fun g => (by cases g)⟩
  refine RF.enterE ctx_ok fn4 (ble _ _ rfl) (ble _ _ rfl) (vb4 a b d e s u v1 v2 str x z y h Q) ⟨by omega, ?_⟩
  rintro p0 h1 rfl e1
  have n1 : h1.next = h.next + 1 := by rw [e1, new_next]
  have x1 : Ext h h1 1 := by rw [e1]; exact Ext.new _ (by omega)
  have s1 : h1.get h.next = some (cellsP a b d e s u) := by rw [e1]; exact get_new_self _ (by omega)
  refine ⟨by omega, ?_⟩
  rintro p2 h3 rfl e3
  have n3 : h3.next = h1.next + 1 := by rw [e3, new_next]
  have x3 : Ext h1 h3 1 := by rw [e3]; exact Ext.new _ (by omega)
  have s3 : h3.get h1.next = some (.cells (.ls (job x z y)) ⟨0, 34, 0⟩ true false) := by rw [e3]; exact get_new_self _ (by omega)
  have y3 := x1.trans x3
  have u3 := y3.top
  have t3 : h3.get h.next = some (cellsP a b d e s u) := (x3.get _ (by omega)).trans s1
  have P0 : ∀ {h' m}, Ext h3 h' m → h'.get h.next = some (cellsP a b d e s u) := fun q => (q.get _ (by omega)).trans t3
  have J0 : ∀ {h' m}, Ext h3 h' m → h'.get h1.next = some (.cells (.ls (job x z y)) ⟨0, 34, 0⟩ true false) := fun q => (q.get _ (by omega)).trans s3
  have L0 : ∀ {h' m}, Ext h3 h' m → h'.low ≤ T.top := fun q => Nat.le_trans q.low (Nat.le_trans y3.low hlow)
  refine ⟨_, (sl1.ext y3).len ty22 rfl, fun _ => aw _, fun c1 => ⟨_, (sl2.ext y3).len ty27 rfl, fun _ => aw _, fun c2 => ⟨fun _ => aw _, fun c3 => ?_⟩⟩⟩
  refine own_ok (sl1.ext y3) (hz _ _ y3) (by omega) (by omega) fun h16 w16 x16 so => ⟨_, rfl, _, _, _, _, _, _, ald_agg ty24 rfl (P0 x16) rfl, ?_⟩
  have u16 := x16.top
  refine of_ok so (by omega) (by omega) (L0 x16) fun h25 w26 x25 o1 o2 => ⟨_, _, rfl, _, _, _, _, _, _, ald_agg ty24 rfl (P0 (x16.trans x25)) rfl, ?_⟩
  have x25' := x16.trans x25
  have u25 := x25'.top
  refine refOf_ok (sl1.ext (y3.trans x25')) (by omega) (by omega) (L0 x25') fun h35 w36 x35 o3 o4 => ⟨_, _, rfl, ⟨by have := (x25'.trans x35).top; omega, L0 (x25'.trans x35)⟩, ?_⟩
  have x35' := x25'.trans x35
  have u35 := x35'.top
  have tl := tblE_len (pre b e) (ofE (chk a b d e) ends) ends
  have T1 : Sl h35 w26 3 (tblE (pre b e) (ofE (chk a b d e) ends) ends).length (jl (tblE (pre b e) (ofE (chk a b d e) ends) ends)) := (tbl_sl o1 o2).ext x35
  have T2 : Sl h35 w36 3 (tblE (pre b e) (ofE (chk a b d e) ends) ends).length (jl (tblE (pre b e) (ofE (chk a b d e) ends) ends)) := tbl_sl o3 o4
  refine sameJobs_ok (h := topH h35) T1 T2 (by omega) (by rw [topH_next]; omega) (Nat.le_refl _) ⟨_, rfl, fun _ => ?_, fun g => absurd g (by simp)⟩
  obtain ⟨d1, d2⟩ := (Ext.refl (topH h35)).drawn (by omega)
  refine ⟨⟨d1, by rw [topH_next]; omega⟩, ?_⟩
  rintro h41 rfl
  have x41 := x35'.trans d2
  generalize lowM h35 (topH h35) = h41 at *
  have u41 := x41.top
  refine ⟨fun c => absurd rfl c, fun _ => ?_⟩
  have q1 := (so.ext x25).ext (x35.trans d2)
  have q2 := sl1.ext (y3.trans x41)
  refine sameInts_ok (h := topH h41) q1 q2 (by omega) (by rw [topH_next]; omega) (Nat.le_refl _) ⟨_, rfl, fun _ => ?_, fun g => absurd g (by simp)⟩
  obtain ⟨d3, d4⟩ := (Ext.refl (topH h41)).drawn (by omega)
  refine ⟨⟨d3, by rw [topH_next]; omega⟩, ?_⟩
  rintro h45 rfl
  have x45 := x41.trans d4
  generalize lowM h41 (topH h41) = h45 at *
  have u45 := x45.top
  have lt : l.length ≤ 30 := by omega
  have eT : ∀ h', Ext (topH h45) h' 1 → Tk h' v2 l := fun h' q => by
    intro k hk2
    obtain ⟨d5, d6⟩ := q.drawn (h := h45) (by omega)
    exact hk (lowM h45 h') _ ((y3.trans x45).trans d6) k hk2
  have q3 := sl2.ext (y3.trans x45)
  refine ⟨_, _, _, _, _, _, ald_agg ty24 rfl (P0 x45) rfl, checkT_ok (h := topH h45) q3 eT (by omega) (by rw [topH_next]; omega) (Nat.le_refl _) fun h53 x53 => ⟨_, rfl, ?_⟩⟩
  obtain ⟨d5, d6⟩ := x53.drawn (h := h45) (by omega)
  have u53 := d6.top
  refine ⟨⟨d5, by have : (lowM h45 h53).next = h53.next := rfl; omega⟩, ?_⟩
  rintro h55 rfl
  have x55 := x45.trans d6
  generalize lowM h45 h53 = h55 at *
  have u55 := x55.top
  refine ⟨_, _, _, _, _, _, ald_agg ty24 rfl (P0 x55) rfl, refCheckT_ok (sl2.ext (y3.trans x55)) (by omega) (by omega) (L0 x55) fun h63 x63 => ⟨_, rfl, fun c => absurd rfl c, fun _ => ?_⟩⟩
  have x63' := x55.trans x63
  have u63 := x63'.top
  refine ⟨_, _, _, _, _, _, ald_agg ty24 rfl (P0 x63') rfl, units_ok (sl2.ext (y3.trans x63')) (fun h' q => hk _ _ ((y3.trans x63').trans q)) lt (by omega) (L0 x63') fun h72 w73 x72 u1 => ⟨_, _, rfl, ?_⟩⟩
  have x72' := x63'.trans x72
  have u72 := x72'.top
  refine ⟨_, _, _, _, _, _, ald_agg ty24 rfl (P0 x72') rfl, refUnits_ok (sl2.ext (y3.trans x72')) lt (by omega) (L0 x72') fun h82 w83 x82 u2 => ⟨_, _, rfl, ?_⟩⟩
  have x82' := x72'.trans x82
  have u82 := x82'.top
  obtain ⟨l90, l91, x92, hp⟩ := partsR_is str x z y
  refine ⟨_, _, _, ald_agg ty33 rfl (J0 x82') rfl, parts_ok (by omega) (L0 x82') fun h89 x89 => ⟨l90, l91, x92, hp, ?_⟩⟩
  have x89' := x82'.trans x89
  have u89 := x89'.top
  refine ⟨_, _, _, ald_agg ty33 rfl (J0 x89') rfl, refParts_ok (by omega) (L0 x89') fun h97 x97 => ⟨l90, l91, x92, hp, ?_⟩⟩
  have x97' := x89'.trans x97
  have u97 := x97'.top
  have ul : (unitsE b (chkE (chk a b d e) (pre b e) l) l).length ≤ l.length := by
    unfold unitsE; split
    · simp [units]
    · simp
  exact sameInts_ok (u1.ext ((x82.trans x89).trans x97)) (u2.ext (x89.trans x97)) (by omega) (by omega) (L0 x97') ⟨_, rfl, fun _ => ⟨fun _ => ⟨fun _ => ⟨fun _ => ⟨fun _ => aw _, fun c => absurd rfl c⟩, fun c => absurd rfl c⟩, fun c => absurd rfl c⟩, fun c => absurd rfl c⟩, fun g => absurd g (by simp)⟩

end Go.Proofs.Ytbkafllejpbimaa

namespace Go.Proofs.Ytbkafllejpbimaa
open Go.Sim Go.ChangeShapes Go.WideShapes Go.ChangeAt Go.RowKit

theorem Ends.own : ownKnob Try.prog.godebug = none := by kernel_rfl
theorem Ends.laidOut : laidOutB Try.prog = true := by kernel_rfl

theorem plain_jl : ∀ l : List (Int × Int × Int), ∀ x ∈ jl l, Plain x
  | [], x, h => by cases h
  | (a, b, c) :: l, x, h => by
    simp only [jl, job, List.cons_append, List.nil_append, List.mem_cons] at h
    rcases h with rfl | rfl | rfl | h
    · exact plain_int _ _
    · exact plain_int _ _
    · exact plain_int _ _
    · exact plain_jl l x h

/-- A list of jobs, from its cells. -/
theorem jl_of {f : Nat → Int × Int × Int} {n : Nat} : ∃ l : List (Int × Int × Int), l.length = n ∧ ∀ i, i < n → l[i]? = some (f i) :=
  ⟨(List.range n).map f, by simp, fun i hi => by simp [hi]⟩

set_option maxRecDepth 100000 in
theorem rd_jobs {H : Type} {enc : TypeId × Value → H} {W : World} {base : Nat} {v : Value} {d : DataW H} {p : List MemPlace} (hv : Value.okWide Try.prog W .any base 27 v) (h : DataW.Trod enc Try.prog W 0 (fun _ => true) true 27 v d p) :
    ∃ l : List (Int × Int × Int), Rd W v 3 l.length (jl l) := by
  obtain ⟨a0, l0, c0, rfl⟩ := okWide_slice Try.underlying27 hv
  obtain ⟨fuel, hx⟩ := h
  have hx' : DataW.trod enc Try.prog W 0 (fun _ => true) true fuel 27 [.slice a0 l0 c0] = some (d, p) := by simpa [Value.cells] using hx
  have hC : Try.prog.cellsOf 33 = 3 := by kernel_rfl
  have hC3 : Try.prog.cellsOf 3 = 1 := by kernel_rfl
  rcases DataW.trod_slice Try.underlying27 hx' with ⟨e1, e2⟩ | ⟨a, len, cap, elems, rest, n, _, e1, _, _, hl, hm, hlen, hel, _, _⟩
  · cases e1
    exact ⟨[], rfl, .inl ⟨rfl, rfl⟩⟩
  · cases e1
    obtain ⟨hsp, cs, e, fz, hb⟩ := slice_block Try.underlying27 hv
    obtain ⟨b, off, sp⟩ := a
    cases hsp
    have each : ∀ i, i < l0 → ∃ q : Int × Int × Int, cs[off + i * 3]? = some (.int .i64 q.1) ∧ cs[off + (i * 3 + 1)]? = some (.int .i64 q.2.1) ∧ cs[off + (i * 3 + 2)]? = some (.int .i64 q.2.2) := by
      intro i hi
      have h1 := hel i hi
      have hi2 : elems[i]? = some elems[i] := List.getElem?_eq_getElem (by omega)
      rw [hC, hi2] at h1
      obtain ⟨cs', hc', ht'⟩ := Option.bind_eq_some_iff.1 h1
      obtain ⟨_, hcl, hat⟩ := World.cells?_some hc'
      obtain ⟨ys, n', _, _, _, hyl, hf⟩ := DataW.trod_struct Try.underlying33 ht'
      have cell : ∀ j, j < 3 → ∃ z, cs[off + (i * 3 + j)]? = some (.int .i64 z) := by
        intro j hj
        have hj' : ∃ f : Field, (#[⟨"From", 3, 0, false, "", "", 0⟩, ⟨"To", 3, 1, false, "", "", 8⟩, ⟨"Prefix", 3, 2, false, "", "", 16⟩] : Array Field)[j]? = some f ∧ f.type = 3 ∧ f.offset = j := by
          rcases j with _ | _ | _ | j
          · exact ⟨_, rfl, rfl, rfl⟩
          · exact ⟨_, rfl, rfl, rfl⟩
          · exact ⟨_, rfl, rfl, rfl⟩
          · omega
        obtain ⟨f, hf1, hf2, hf3⟩ := hj'
        have h2 := hf j f hf1
        have hys : ys[j]? = some (ys[j]'(by rw [hyl]; exact hj)) := List.getElem?_eq_getElem _
        rw [hf2, hf3, hC3, hys] at h2
        have hd : (cs'.drop j).take 1 = [cs'[j]'(by omega)] := by
          rw [List.drop_eq_getElem_cons (by omega)]; rfl
        rw [hd] at h2
        obtain ⟨z, hz1, _, _⟩ := DataW.trod_int Try.underlying3 h2
        have h3 := hat j hj
        rw [List.getElem?_eq_getElem (by omega), List.singleton_inj.1 hz1] at h3
        refine ⟨z, ?_⟩
        rw [add_plain, add_plain] at h3
        simpa [World.cell?, hb, Nat.add_assoc] using h3
      obtain ⟨z0, g0⟩ := cell 0 (by decide)
      obtain ⟨z1, g1⟩ := cell 1 (by decide)
      obtain ⟨z2, g2⟩ := cell 2 (by decide)
      exact ⟨(z0, z1, z2), g0, g1, g2⟩
    have := Classical.axiomOfChoice (r := fun (i : Nat) (q : Int × Int × Int) => i < l0 → cs[off + i * 3]? = some (.int .i64 q.1) ∧ cs[off + (i * 3 + 1)]? = some (.int .i64 q.2.1) ∧ cs[off + (i * 3 + 2)]? = some (.int .i64 q.2.2)) fun i => by
      by_cases hi : i < l0
      · obtain ⟨q, hq⟩ := each i hi; exact ⟨q, fun _ => hq⟩
      · exact ⟨(0, 0, 0), fun h => absurd h hi⟩
    obtain ⟨f, hf⟩ := this
    obtain ⟨l, ll, lf⟩ := jl_of (f := f) (n := l0)
    refine ⟨l, jl_len l, .inr ⟨b, off, c0, cs, e, fz, by rw [ll], by omega, hb, fun k x hk => ?_⟩⟩
    have hkl : k < l0 * 3 := by have := (List.getElem?_eq_some_iff.1 hk).1; rw [jl_len, ll] at this; exact this
    obtain ⟨i, j, hj, rfl⟩ : ∃ i j, j < 3 ∧ k = i * 3 + j := ⟨k / 3, k % 3, by omega, by omega⟩
    have hi : i < l0 := by omega
    have h1 := lf i hi
    generalize hq : f i = q at h1
    obtain ⟨x0, z0, y0⟩ := q
    rw [jl_get l i j h1 hj] at hk
    obtain ⟨g0, g1, g2⟩ := hf i hi
    rw [hq] at g0 g1 g2
    rcases j with _ | _ | _ | j
    · cases hk; simpa [V.conc] using g0
    · cases hk; simpa [V.conc] using g1
    · cases hk; simpa [V.conc] using g2
    · omega

theorem trodAll_five {H : Type} {enc : TypeId × Value → H} {P : Program} {w : World} {base : Nat} {spare : Nat → Bool} {held : Bool} {t0 t1 t2 t3 t4 : TypeId} {args : Array Value} {ds : List (DataW H)} {ps : List MemPlace} (h : DataW.TrodAll enc P w base spare held [t0, t1, t2, t3, t4] args.toList ds ps) :
    ∃ v0 v1 v2 v3 v4 d0 d1 d2 d3 d4 p1 p2, args = #[v0, v1, v2, v3, v4] ∧ ds = [d0, d1, d2, d3, d4] ∧ DataW.Trod enc P w base spare held t1 v1 d1 p1 ∧ DataW.Trod enc P w base spare held t2 v2 d2 p2 := by
  obtain ⟨v0, vs0, d0, ds0, p0, q0, hargs, rfl, rfl, hd0, hrest0⟩ := trodAll_cons h
  obtain ⟨v1, vs1, d1, ds1, p1, q1, rfl, rfl, rfl, hd1, hrest1⟩ := trodAll_cons hrest0
  obtain ⟨v2, vs2, d2, ds2, p2, q2, rfl, rfl, rfl, hd2, hrest2⟩ := trodAll_cons hrest1
  obtain ⟨v3, vs3, d3, ds3, p3, q3, rfl, rfl, rfl, hd3, hrest3⟩ := trodAll_cons hrest2
  obtain ⟨v4, vs4, d4, ds4, p4, q4, rfl, rfl, rfl, hd4, hrest4⟩ := trodAll_cons hrest3
  obtain ⟨rfl, rfl, rfl⟩ := trodAll_nil hrest4
  exact ⟨v0, v1, v2, v3, v4, d0, d1, d2, d3, d4, p1, p2, by cases args; simp_all, rfl, hd1, hd2⟩

theorem six {α : Type} {cs : List α} (h : cs.length = 6) : ∃ a b c d e f, cs = [a, b, c, d, e, f] := by
  match cs, h with
  | [a, b, c, d, e, f], _ => exact ⟨a, b, c, d, e, f, rfl⟩
theorem three {α : Type} {cs : List α} (h : cs.length = 3) : ∃ a b c, cs = [a, b, c] := by
  match cs, h with
  | [a, b, c], _ => exact ⟨a, b, c, rfl⟩

set_option maxRecDepth 100000 in
theorem par_of {W : World} {base : Nat} {v : Value} (hv : Value.okWide Try.prog W .any base 24 v) : ∃ a b d e s u, ∀ ρ, (par a b d e s u).conc ρ = v := by
  obtain ⟨cs, rfl, hl, hc⟩ := struct_cells (ts := [3, 3, 3, 3, 4, 4]) Try.underlying24 (by kernel_rfl) (by kernel_rfl) hv
  obtain ⟨a, b, c, d, e, f, rfl⟩ := six hl
  obtain ⟨a, rfl⟩ := cell_int Try.underlying3 (hc 0 _ _ rfl rfl)
  obtain ⟨b, rfl⟩ := cell_int Try.underlying3 (hc 1 _ _ rfl rfl)
  obtain ⟨c, rfl⟩ := cell_int Try.underlying3 (hc 2 _ _ rfl rfl)
  obtain ⟨d, rfl⟩ := cell_int Try.underlying3 (hc 3 _ _ rfl rfl)
  obtain ⟨e, rfl⟩ := cell_bool Try.underlying4 (hc 4 _ _ rfl rfl)
  obtain ⟨f, rfl⟩ := cell_bool Try.underlying4 (hc 5 _ _ rfl rfl)
  exact ⟨a, b, c, d, e, f, fun ρ => by simp [par, V.conc, V.concL]⟩

set_option maxRecDepth 100000 in
theorem job_of {W : World} {base : Nat} {v : Value} (hv : Value.okWide Try.prog W .any base 33 v) : ∃ x z y, ∀ ρ, (V.agg (job x z y)).conc ρ = v := by
  obtain ⟨cs, rfl, hl, hc⟩ := struct_cells (ts := [3, 3, 3]) Try.underlying33 (by kernel_rfl) (by kernel_rfl) hv
  obtain ⟨a, b, c, rfl⟩ := three hl
  obtain ⟨a, rfl⟩ := cell_int Try.underlying3 (hc 0 _ _ rfl rfl)
  obtain ⟨b, rfl⟩ := cell_int Try.underlying3 (hc 1 _ _ rfl rfl)
  obtain ⟨c, rfl⟩ := cell_int Try.underlying3 (hc 2 _ _ rfl rfl)
  exact ⟨a, b, c, fun ρ => by simp [job, V.conc, V.concL]⟩

/-- The head of such a slice of jobs. -/
theorem tk_of_arg {h : H} {b cap : Nat} {l : List (Int × Int × Int)} (hl : l.length ≤ cap) (s : Sl h (.slice b 0 l.length (.exact cap)) 3 l.length (jl l)) : Tk h (.slice b 0 l.length (.exact cap)) l := by
  intro k hk
  have hkl : (l.take k).length = k := by rw [List.length_take]; omega
  obtain ⟨_, ⟨h0, _⟩ | ⟨b', o, cp, cs, k', w, op, h0, h3, h4, h7⟩⟩ := s
  · cases h0
  cases h0
  refine ⟨.slice b 0 k (.exact cap), ?_, by rw [jl_len, hkl], .inr ⟨b, 0, _, cs, _, _, _, rfl, h3, h4, fun i hi => ?_⟩⟩
  · unfold aslice
    have e2 : asNatI (k : Int) = some k := rfl
    simp only [ty27, ty33, Go.Sim.bnd, e2, Nat.ble_eq_true_of_le (show k ≤ cap by omega), cond_true]
    show some (V.slice b (cond (Nat.beq cap 0) 0 (0 + 0 * 3)) (k - 0) (.exact (cap - 0))) = _
    cases Nat.beq cap 0 <;> rfl
  · rw [h7 i (Nat.lt_of_lt_of_le hi (Nat.mul_le_mul_right 3 hk)), ← jl_take, List.getElem?_take_of_lt hi]

set_option maxRecDepth 100000 in
theorem jobsEnds_any {H : Type} {enc : TypeId × Value → H} {W : World} {base : Nat} {v0 v1 v2 v3 v4 : Value} {d1 d2 : DataW H} {p1 p2 : List MemPlace} (w0 : Value.okWide Try.prog W .any base 24 v0) (w1 : Value.okWide Try.prog W .any base 22 v1) (w2 : Value.okWide Try.prog W .any base 27 v2) (w3 : Value.okWide Try.prog W .any base 9 v3) (w4 : Value.okWide Try.prog W .any base 33 v4)
    (h1 : DataW.Trod enc Try.prog W 0 (fun _ => true) true 22 v1 d1 p1) (h2 : DataW.Trod enc Try.prog W 0 (fun _ => true) true 27 v2 d2 p2) : Calls Try.prog 4 #[v0, v1, v2, v3, v4] W fun e W' => e = .returned (.bool true) ∧ Below W.heap.size W W' := by
  obtain ⟨a, b, d, e, s, u, c0⟩ := par_of w0
  obtain ⟨x, z, y, c4⟩ := job_of w4
  obtain ⟨str, rfl⟩ := okWide_string Try.underlying9 w3
  obtain ⟨zs, r1, _⟩ := rd_ints Try.underlying22 Try.underlying3 (by kernel_rfl) w1 h1
  obtain ⟨l, r2⟩ := rd_jobs w2 h2
  have s1 := ab_sl0 r1 (jl l)
  have s2 := ab_sl1 r2 (zs.map fun n => V.int .i64 n)
  have hz : ∀ h' m, Ext (heap2 (zs.map fun n => V.int .i64 n) (jl l)) h' m → zs.length = 0 → srcCells 1 h' (ab 0 zs.length v1) = some (0, []) := by
    intro h' m q h0
    have : zs = [] := List.eq_nil_of_length_eq_zero h0
    subst this
    rcases ab_is (i := 0) r1 with ⟨e1, _⟩ | ⟨cap, _, e1⟩
    · rw [e1]; rfl
    · rw [e1]
      have g := (q.get 0 (by rw [heap2_next]; decide)).trans (heap2_get0 _ _)
      unfold srcCells
      simp only [g]
      rfl
  have hk : ∀ h' m, Ext (heap2 (zs.map fun n => V.int .i64 n) (jl l)) h' m → Tk h' (ab 1 l.length v2) l := by
    intro h' m q
    rcases ab_is (i := 1) r2 with ⟨e1, h0⟩ | ⟨cap, hc, e1⟩
    · intro k hk
      obtain rfl : k = 0 := by omega
      rw [e1]
      exact ⟨.nilslice, by kernel_rfl, by simp [jl], .inl ⟨rfl, rfl⟩⟩
    · have s3 := s2.ext q
      rw [e1] at s3 ⊢
      exact tk_of_arg hc s3
  obtain ⟨r, h', ⟨_, sf⟩, rfl⟩ := ends_all (a := a) (b := b) (d := d) (e := e) (s := s) (u := u) (x := x) (z := z) (y := y) (str := str.data.toList) (Q := fun r _ => r = .bool true) s1 hz s2 hk (by rw [heap2_next]; exact of_decide_eq_true (by kernel_rfl)) (Nat.le_refl _) fun _ => rfl
  have px : ∀ q ∈ (zs.map fun n => V.int .i64 n), Plain q := fun q hq => by obtain ⟨_, _, rfl⟩ := List.mem_map.1 hq; exact plain_int _ _
  have pj : Plain (.agg (job x z y)) := plain_agg fun q hq => by
    simp only [job, List.mem_cons, List.not_mem_nil, or_false] at hq
    rcases hq with rfl | rfl | rfl <;> exact plain_int _ _
  have pp : Plain (par a b d e s u) := plain_agg fun q hq => by
    simp only [List.mem_cons, List.not_mem_nil, or_false] at hq
    rcases hq with rfl | rfl | rfl | rfl | rfl | rfl
    · exact plain_int _ _
    · exact plain_int _ _
    · exact plain_int _ _
    · exact plain_int _ _
    · exact plain_bool _
    · exact plain_bool _
  have k := sf.calls2 (HR_two r1 r2 px (plain_jl l)) (fun q hq => by
    simp only [List.mem_cons, List.not_mem_nil, or_false] at hq
    rcases hq with rfl | rfl | rfl | rfl | rfl
    · exact pp.2 _
    · exact ab_in0 r1
    · exact ab_in1 r2
    · exact (plain_str _).2 _
    · exact pj.2 _)
  simp only [List.map_cons, List.map_nil, c0, c4, ab_conc0 r1, ab_conc1 r2] at k
  simpa [V.conc] using k

set_option maxRecDepth 100000 in
theorem jobsEnds_lifted (os : Os) (started : os.Started) (H : Type) (enc : TypeId × Value → H) :
    ReturnsInHanded {} Try.checked os 4 .any (Rows.jobsEndsSpec.pre6 enc Try.prog Try.f4 Rows.jobsEndsRow.domain false) (Rows.jobsEndsSpec.post enc Try.prog Try.f4 false true false false) := by
  refine returnsInHanded_of_change (C := Try.checked) Ends.own started (by kernel_rfl) Try.func4
    (ChangeSpec.witness6 (enc := enc) (C := Try.checked) false ⟨#[], #[.agg #[.int .i64 0, .int .i64 0, .int .i64 0, .int .i64 0, .bool false, .bool false], .slice none 0 0, .slice none 0 0, .string ⟨#[]⟩, .agg #[.int .i64 0, .int .i64 0, .int .i64 0]], []⟩ 8 (by kernel_rfl) (by kernel_rfl) (by kernel_rfl) (by kernel_rfl)) ?_
  intro W base args ds gs before hval0 hW _ _
  have hval : ∀ (j : Nat) t v, Try.f4.params[j]? = some t → args[j]? = some v → Value.okWide Try.prog W .any base t v := hval0
  have hW' := hW
  obtain ⟨p, q, hA0, hV, rfl, _, _⟩ := hW
  have hA : DataW.TrodAll enc Try.prog W 0 (fun _ => true) true Try.f4.params.toList args.toList ds p := hA0
  rw [Try.params4] at hA hval
  obtain ⟨v0, v1, v2, v3, v4, d0, d1, d2, d3, d4, p1, p2, rfl, rfl, h1, h2⟩ := trodAll_five hA
  obtain ⟨rfl, rfl⟩ := trodVars_none hV
  refine (jobsEnds_any (hval 0 24 v0 rfl rfl) (hval 1 22 v1 rfl rfl) (hval 2 27 v2 rfl rfl) (hval 3 9 v3 rfl rfl) (hval 4 33 v4 rfl rfl) h1 h2).mono fun e W' ⟨he, hb⟩ => ⟨_, he, ?_⟩
  exact post_same Ends.laidOut (by rw [Try.params4]; kernel_rfl) hW' hb rfl Try.underlying4 rfl rfl (by exact (rfl : ([] : List MemPlace) = []))

theorem jobsEnds_holds : Rows.JobsEndsSaid :=
  OpenClaim.holds_of_wide 4 Try.f4 rfl rfl rfl rfl rfl rfl rfl ⟨rfl, rfl, rfl, rfl, rfl⟩ rfl rfl rfl rfl rfl (by kernel_rfl) Try.func4 (by kernel_rfl)
    (of_decide_eq_true (by kernel_rfl)) (by unfold Func.isWrapper; first | (rw [if_pos (by decide +kernel)]; kernel_rfl) | (rw [if_neg (by decide +kernel)]; exact ⟨rfl, rfl⟩))
    (fun os started H enc _ => jobsEnds_lifted os started H enc)

end Go.Proofs.Ytbkafllejpbimaa
