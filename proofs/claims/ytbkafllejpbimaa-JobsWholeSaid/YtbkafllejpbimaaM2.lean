/- JobsAgain's awake, and its law's function whole. -/
import Derived.Test.YtbkafllejpbimaaM1
import Derived.Test.YtbkafllejpbimaaSimFrame

namespace Go.Proofs.Ytbkafllejpbimaa
open Go.Sim

set_option maxRecDepth 100000 in
theorem equal_ok {v w : V} {l m : List (Int × Int × Int)} {h : H} {Q : V → H → Prop} (s1 : Sl h v 3 l.length (jl l)) (s2 : Sl h w 3 m.length (jl m)) (hl : l.length < 4611686018427387904) (_hm : m.length < 4611686018427387904) (hn : h.next ≤ T.top) (hlo : h.low ≤ T.top)
    (hq : Q (.bool (decide (l = m))) h) : RF P ctx 30 [v, w] h Q := by
  refine RF.enterE ctx_ok fn30 (ble _ _ rfl) (ble _ _ rfl) (vb30 v w h Q) ⟨_, s1.len ty27 rfl, _, s2.len ty27 rfl, fun h1 => ?_, fun h1 => ?_⟩
  · have : ¬ l = m := fun e => h1 (by rw [e])
    simpa [this] using hq
  · have hlm : l.length = m.length := by omega
    refine ⟨_, s1.len ty27 rfl, ?_⟩
    refine loop_wp (fun k tm h' => ∃ i : Nat, i ≤ l.length ∧ k = l.length - i ∧ h' = h ∧ getV tm 13 = .int .i64 i ∧ getV tm 12 = .int .i64 l.length ∧ getV tm 0 = v ∧ getV tm 1 = w ∧ ∀ j, j < i → l[j]? = m[j]?) l.length ?_ ?_
    · exact ⟨0, by omega, by omega, rfl, by kernel_rfl, by kernel_rfl, by kernel_rfl, by kernel_rfl, fun j hj => by omega⟩
    · rintro k tm h' ⟨i, h2, rfl, rfl, t13, t12, t0, t1, hs⟩
      rw [tm4 rfl t13 t12 t0 t1]
      refine wpC.seal _ (vl30_0 _ _ _ _ _ _ _ _) ⟨fun h3 => ⟨⟨hn, hlo⟩, ?_⟩, fun h3 tmz _ _ _ _ _ => ?_⟩
      · have hi : i < l.length := by omega
        obtain ⟨⟨x, z, y⟩, hx⟩ : ∃ p, l[i]? = some p := ⟨l[i], List.getElem?_eq_getElem hi⟩
        obtain ⟨⟨x', z', y'⟩, hx'⟩ : ∃ p, m[i]? = some p := ⟨m[i]'(by omega), List.getElem?_eq_getElem (by omega)⟩
        obtain ⟨b, o, a1, a2, _⟩ := at3 s1 hx
        obtain ⟨b', o', a1', a2', _⟩ := at3 s2 hx'
        obtain ⟨r, e, hr⟩ := neq33 x z y x' z' y'
        refine ⟨b, o, a1, x, z, y, a2, b', o', a1', x', z', y', a2', r, e, fun g tmn q4 _ _ _ _ => ?_, fun g tmn _ q13 q12 q0 q1 => ?_⟩
        · show Q (getV tmn 4) h'
          rw [q4]
          have : ¬ l = m := fun q => by rw [q, hx'] at hx; exact (hr.1 g) (Option.some.inj hx).symm
          simpa [this] using hq
        · refine ⟨rfl, rfl, l.length - (i + 1), by omega, i + 1, by omega, rfl, rfl, ?_, q12, q0, q1, fun j hj => ?_⟩
          · rw [q13, w64_id (by omega) (by omega)]; rfl
          · rcases Nat.lt_or_ge j i with q | q
            · exact hs j q
            · obtain rfl : j = i := by omega
              rw [hx, hx']
              have : ¬ (x, z, y) ≠ (x', z', y') := fun q => by rw [hr.2 q] at g; cases g
              rw [Classical.not_not.1 this]
      · have hi : i = l.length := by omega
        show wpC P ctx false r30_1 ⟨26, tmz, [], h'⟩ _
        refine wpC.seal _ (vr30_1 _ _ _ _) fun tm2 q4 _ _ _ _ => ?_
        show Q (getV tm2 4) h'
        rw [q4]
        have : l = m := List.ext_getElem? fun j => by
          rcases Nat.lt_or_ge j i with q | q
          · exact hs j q
          · rw [List.getElem?_eq_none (by omega), List.getElem?_eq_none (by omega)]
        simpa [this] using hq

end Go.Proofs.Ytbkafllejpbimaa

namespace Go.Proofs.Ytbkafllejpbimaa
open Go.Sim

theorem end_ok {x z y : Int} {h : H} {Q : V → H → Prop} (hn : h.next < T.top) (hq : ∀ h', Ext h h' 1 → Q (.int .i64 z) h') : RF P ctx 29 [.agg (job x z y)] h Q := by
  refine RF.enterE ctx_ok fn29 (ble _ _ rfl) (ble _ _ rfl) (vb29 x z y h Q) ⟨hn, ?_⟩
  rintro p h1 rfl rfl
  exact ⟨_, ald_one ty3 rfl (get_new_self (h := h) (.cells (.ls (job x z y)) ⟨0, 34, 0⟩ true false) hn) rfl, hq _ (Ext.new _ hn)⟩

abbrev te3 : TI := ⟨3, (.int .i64), 1, 8, some (.int .i64 0), true, false, false, []⟩
theorem te3_at : ctx.ty.get 3 = some te3 := ty3

/-- The ends of jobs. -/
def tos (l : List (Int × Int × Int)) : List Int := l.map fun p => p.2.1

theorem ints_take {l : List Int} {i : Nat} {n : Int} (h : l[i]? = some n) : ints (l.take (i + 1)) = ints (l.take i) ++ [.int .i64 n] := by
  rw [List.take_add_one, h]; simp [ints]

set_option maxRecDepth 100000 in
theorem mapped_ok {v : V} {l : List (Int × Int × Int)} {h : H} {Q : V → H → Prop} (s : Sl h v 3 l.length (jl l)) (hlen : l.length ≤ 262143) (hn : h.next + 2 + 3 * l.length ≤ T.top)
    (hq : ∀ h' w, Ext h h' (1 + 3 * l.length) → Sl h' w 1 l.length (ints (tos l)) → Q w h') : RF P ctx 28 [v, .func (.func 29) [] []] h Q := by
  obtain ⟨w0, h2, e2, ex2, x2, vb2⟩ := Ex.make (c := ctx) (h := h) (k := l.length) ty22 rfl te3_at rfl rfl rfl hlen (by show 8 * _ ≤ _; omega) (by omega)
  refine RF.enterE ctx_ok fn28 (ble _ _ rfl) (ble _ _ rfl) (vb28 _ _ h Q) ⟨_, s.len ty27 rfl, w0, h2, e2, _, (s.ext x2).len ty27 rfl, ?_⟩
  refine loop_wp (fun k tm h' => ∃ i : Nat, i ≤ l.length ∧ k = l.length - i ∧ getV tm 13 = .int .i64 i ∧ getV tm 12 = .int .i64 l.length ∧ getV tm 11 = v ∧ getV tm 1 = .func (.func 29) [] [] ∧
    ∃ w, getV tm 5 = w ∧ Ext h h' (1 + 3 * i) ∧ Ex h' w 1 i l.length (ints ((tos l).take i)) ∧ vblk w = some h.next ∧ h.next < h'.next) l.length ?_ ?_
  · exact ⟨0, by omega, by omega, by kernel_rfl, by kernel_rfl, by kernel_rfl, by kernel_rfl, w0, by kernel_rfl, x2.mono (by omega), ex2, vb2, by obtain ⟨_, _, b, cs, q, q2, _⟩ := ex2; have := x2.le; subst q; cases vb2; omega⟩
  · rintro k tm h' ⟨i, h1, rfl, t13, t12, t11, t1, w, t5, xk, exk, vbk, nk⟩
    rw [tm5 rfl t13 t12 t11 t5 t1]
    have uk := xk.top
    refine wpC.seal _ (vl28_0 _ _ _ _ _ _ _ _ _) ⟨fun h3 => ?_, fun h3 tmz _ _ _ _ q5 _ => ?_⟩
    · have hi : i < l.length := by omega
      obtain ⟨⟨x, z, y⟩, hx⟩ : ∃ p, l[i]? = some p := ⟨l[i], List.getElem?_eq_getElem hi⟩
      obtain ⟨b, o, a1, a2, _⟩ := at3 (s.ext xk) hx
      refine ⟨b, o, a1, x, z, y, a2, by omega, ?_⟩
      rintro p5 h6 rfl e6
      have n6 : h6.next = h'.next + 1 := by rw [e6, new_next]
      have x6 : Ext h' h6 1 := by rw [e6]; exact Ext.new _ (by omega)
      have s6 := get_new_self (h := h') (.cells (.ls [.int .i64 0, .int .i64 0, .int .i64 0]) ⟨0, 34, 0⟩ true false) (by omega)
      rw [← e6] at s6
      obtain ⟨h7, e7, x7, g7, n7⟩ : ∃ h7, ast ctx 33 h6 (.ptr h'.next 0) (.agg (job x z y)) = some h7 ∧ Ext h' h7 1 ∧ h7.get h'.next = some (.cells (.ls (job x z y)) ⟨0, 34, 0⟩ true false) ∧ h7.next = h6.next :=
        ⟨_, ast_at ty33 s6 rfl (Nat.le_refl _) rfl rfl, x6.upd _ (by omega) (Nat.le_refl _), get_upd_self _ (by omega), rfl⟩
      refine ⟨h7, e7, x, z, y, ald_agg ty33 rfl g7 rfl, ?_⟩
      show RF P ctx 29 [.agg (job x z y)] h7 _
      refine end_ok (by omega) fun h12 x12 => ⟨_, rfl, ?_⟩
      have u12 := x12.top
      obtain ⟨v13, h14, e14, sl14, x14, vb14⟩ := buildSlice1 (c := ctx) (h := h12) (u := .int .i64 z) (ys := [.int .i64 z]) ty22 rfl te3_at rfl rfl rfl rfl (Nat.le_of_ble_eq_true rfl) rfl (by omega)
      have u14 := x14.top
      have xx : Ext h' h14 3 := (x7.trans x12).trans x14
      obtain ⟨v15, h16, e16, ex16, n16, g16, vb16, low16, lo16⟩ := (exk.ext xx).append (te := te3) (c := ctx) sl14 (by omega) ty22 rfl te3_at rfl rfl (by omega) (by omega)
      refine ⟨v13, h14, e14, trivial, v15, h16, e16, fun tmn _ q13 q12 q11 q5 q1 => ⟨rfl, rfl, l.length - (i + 1), by omega, i + 1, by omega, rfl, ?_, q12, q11, q1, v15, q5, ?_, ?_, vb16.trans vbk, ?_⟩⟩
      · rw [q13, w64_id (by omega) (by omega)]; rfl
      · have y := xk.trans xx
        show Ext h h16 _
        refine ⟨by have := y.le; omega, by have := y.top; omega, fun b hb => (g16 b (fun q => by rw [vbk] at q; cases q; omega)).trans (y.get b hb), Nat.le_trans low16 y.low, lo16 _ y.lo fun b hb => ?_⟩
        rw [vbk] at hb; cases hb; exact Nat.min_le_right _ _
      · have : (tos l)[i]? = some z := by simp [tos, hx]
        rw [ints_take this]
        exact ex16
      · show h.next < h16.next
        have := xx.le; omega
    · have hi : i = l.length := by omega
      subst hi
      show wpC P ctx false r28_1 ⟨25, tmz, [], h'⟩ _
      rw [tm1 rfl q5]
      refine wpC.seal _ (vr28_1 _ _ _ _ _) fun tm2 q4 _ _ _ _ _ => ?_
      show Q (getV tm2 4) h'
      rw [q4]
      have : (tos l).take l.length = tos l := List.take_of_length_le (by simp [tos])
      rw [this] at exk
      exact hq h' w xk exk.sl

end Go.Proofs.Ytbkafllejpbimaa

namespace Go.Proofs.Ytbkafllejpbimaa
open Go.Sim

/-- The head of a table may be taken. -/
def Tk (h : H) (v : V) (l : List (Int × Int × Int)) : Prop := ∀ k, k ≤ l.length → ∃ v', aslice ctx 27 h v none (some (.int .i64 (k : Int))) none = some v' ∧ Sl h v' 3 k (jl (l.take k))

open Classical in
/-- The error of a table. -/
noncomputable def chkE (k R : Int) (l : List (Int × Int × Int)) : Int :=
  if ofE k (tos (l.take 4097)) = 0 then (if l = jt R (tos (l.take 4097)) (tos (l.take 4097)).length then 0 else 3) else ofE k (tos (l.take 4097))

set_option maxRecDepth 100000 in
open Classical in
theorem checkT_ok {a b d e : Int} {s u : Bool} {v : V} {l : List (Int × Int × Int)} {h : H} {Q : V → H → Prop} (sl : Sl h v 3 l.length (jl l)) (hk : ∀ h', Ext h h' 1 → Tk h' v l) (hlt : l.length < 4611686018427387904) (hn : h.next + 40000 ≤ T.top) (hlow : h.low ≤ T.top)
    (hq : ∀ h', Ext h h' 40000 → Q (.int .i64 (chkE (chk a b d e) (pre b e) l)) h') : RF P ctx 9 [par a b d e s u, v] h Q := by
  refine RF.enterE ctx_ok fn9 (ble _ _ rfl) (ble _ _ rfl) (vb9 a b d e s u v h Q) ⟨by omega, ?_⟩
  rintro p0 h1 rfl e1
  have n1 : h1.next = h.next + 1 := by rw [e1, new_next]
  have x1 : Ext h h1 1 := by rw [e1]; exact Ext.new _ (by omega)
  have s1 : h1.get h.next = some (cellsP a b d e s u) := by rw [e1]; exact get_new_self _ (by omega)
  have hm : min (l.length : Int) 4097 = ((min l.length 4097 : Nat) : Int) := by omega
  obtain ⟨v9, e9, sl9⟩ := hk h1 x1 (min l.length 4097) (by omega)
  have ht : l.take (min l.length 4097) = l.take 4097 := by
    rcases Nat.le_total l.length 4097 with g | g
    · rw [Nat.min_eq_left g, List.take_of_length_le (Nat.le_refl _), List.take_of_length_le g]
    · rw [Nat.min_eq_right g]
  rw [ht] at sl9
  have hl9 : (l.take 4097).length = min l.length 4097 := by rw [List.length_take]; omega
  rw [← hl9] at sl9
  have htos : (tos (l.take 4097)).length = (l.take 4097).length := by simp [tos]
  refine ⟨⟨by omega, by have := x1.low; omega⟩, _, _, _, _, _, _, ald_agg ty24 rfl s1 rfl, _, (sl.ext x1).len ty27 rfl, v9, by rw [hm]; exact e9, ?_⟩
  refine mapped_ok (l := l.take 4097) (h := topH h1) (Q := _) sl9 (by omega) (by rw [topH_next]; omega) fun h11 w x11 slw => ⟨_, rfl, ?_⟩
  obtain ⟨d1, d2⟩ := x11.drawn (by omega)
  have u2 := d2.top
  have l2 := d2.le
  have q2 : (lowM h1 h11).next = h11.next := rfl
  refine ⟨⟨d1, by omega⟩, ?_⟩
  rintro h13 rfl
  have sl13 : Sl (lowM h1 h11) w 1 (tos (l.take 4097)).length (ints (tos (l.take 4097))) := by rw [htos]; exact slw
  refine of_ok (h := topH (lowM h1 h11)) sl13 (by omega) (by rw [topH_next, lowM_next]; omega) (Nat.le_refl _) fun h15 w2 x15 ow2 nil2 => ⟨_, _, rfl, ?_⟩
  obtain ⟨d3, d4⟩ := x15.drawn (h := lowM h1 h11) (by omega)
  have u4 := d4.top
  have l4 := d4.le
  refine ⟨⟨d3, by have : (lowM (lowM h1 h11) h15).next = h15.next := rfl; omega⟩, ?_⟩
  rintro h18 rfl
  have x18 : Ext h (lowM (lowM h1 h11) h15) 40000 := ((x1.trans d2).trans d4).mono (by omega)
  have hq := hq _ x18
  unfold chkE at hq
  refine ⟨fun g => ?_, fun g => ?_⟩
  · rw [if_pos g] at hq
    have ow := (ow2 g).sl
    rw [jc_jl] at ow
    have hj : Sl (lowM (lowM h1 h11) h15) w2 3 (jt (pre b e) (tos (l.take 4097)) (tos (l.take 4097)).length).length (jl (jt (pre b e) (tos (l.take 4097)) (tos (l.take 4097)).length)) := by rw [jt_len]; exact ow
    refine equal_ok (sl.ext x18) hj hlt (by rw [jt_len]; omega) (by have := x18.top; omega) (Nat.le_trans x18.low hlow) ⟨_, rfl, fun c => ?_, fun c => ?_⟩
    · rw [if_pos (by simpa using c)] at hq; rw [g]; exact hq
    · rw [if_neg (by simpa using c)] at hq; exact hq
  · rwa [if_neg g] at hq

end Go.Proofs.Ytbkafllejpbimaa

namespace Go.Proofs.Ytbkafllejpbimaa
open Go.Sim

theorem jl_take (l : List (Int × Int × Int)) (k : Nat) : (jl l).take (k * 3) = jl (l.take k) := by
  induction l generalizing k with
  | nil => simp [jl]
  | cons p l ih =>
    obtain ⟨x, z, y⟩ := p
    cases k with
    | zero => simp [jl]
    | succ k =>
      have : (k + 1) * 3 = k * 3 + 1 + 1 + 1 := by omega
      rw [this]
      simp [jl, job, ih]

theorem tk_of_ow {h : H} {v : V} {l : List (Int × Int × Int)} (s : Ow h v te33 l.length (jl l)) : Tk h v l := by
  intro k hk
  have hkl : (l.take k).length = k := by rw [List.length_take]; omega
  obtain ⟨h1, ⟨rfl, h0⟩ | ⟨b, cs, rfl, h3, h4, h5, h6, h7⟩⟩ := s
  · have hk0 : k = 0 := by omega
    subst hk0
    exact ⟨.nilslice, by kernel_rfl, by simp [jl], .inl ⟨rfl, rfl⟩⟩
  · refine ⟨.slice b 0 k (.skip 0), ?_, by rw [jl_len, hkl], .inr ⟨b, 0, _, cs, _, _, _, rfl, h3, h4, fun i hi => ?_⟩⟩
    · unfold aslice
      have e2 : asNatI (k : Int) = some k := rfl
      simp only [ty27, ty33, h4, Go.Sim.bnd, e2, Nat.ble_eq_true_of_le hk, cond_true, rkOf]
      have e3 : Nat.ble (0 + l.length * te33.size) cs.len = true := Nat.ble_eq_true_of_le (by rw [h6]; omega)
      rw [e3]
      rfl
    · have hi' : i < l.length * te33.size := Nat.lt_of_lt_of_le hi (Nat.mul_le_mul_right 3 hk)
      rw [Nat.zero_add, h7 i hi', ← jl_take, List.getElem?_take_of_lt hi]

theorem build4 (a b d e : Int) {h : H} (hn : h.next < T.top) : ∃ v h', abuildSlice ctx 22 4 [(0, .int .i64 a), (1, .int .i64 b), (2, .int .i64 d), (3, .int .i64 e)] h = some (v, h') ∧ Sl h' v 1 4 (ints [a, b, d, e]) ∧ Ext h h' 1 := by
  refine ⟨.slice h.next 0 4 (.exact 4), h.new (.cells (.ls [.int .i64 a, .int .i64 b, .int .i64 d, .int .i64 e]) ⟨0, 4, 0⟩ true false), ?_, ⟨rfl, .inr ⟨h.next, 0, _, _, _, _, _, rfl, by rw [new_next]; omega, get_new_self _ hn, fun i hi => by rw [Nat.zero_add]; exact (Cs.ofL_eq (l := [.int .i64 a, .int .i64 b, .int .i64 d, .int .i64 e]) rfl).2 i⟩⟩, Ext.new _ hn⟩
  have e1 : abuildSlice ctx 22 4 [(0, .int .i64 a), (1, .int .i64 b), (2, .int .i64 d), (3, .int .i64 e)] h = (match newC h (some (.ls [.int .i64 a, .int .i64 b, .int .i64 d, .int .i64 e])) ⟨0, 4, 0⟩ false with | some (b, h') => some (.slice b 0 4 (.exact 4), h') | none => none) := by kernel_rfl
  rw [e1]
  unfold newC
  rw [(blt_iff _ _).2 hn]
  rfl

end Go.Proofs.Ytbkafllejpbimaa

namespace Go.Proofs.Ytbkafllejpbimaa
open Go.Sim

theorem tail_ok {h h11 : H} {p0 m : Nat} {A J O : Int} {sy ck : Bool} {c : Prop} {K1 K2 : Nat → Int → Int → Int → Int → Bool → Bool → H → Prop} (x11 : Ext h h11 m) (hp : h.next ≤ p0) (hp2 : p0 < h11.next) (hn : h11.next < T.top)
    (g0 : h11.get p0 = some (cellsP 0 0 0 0 false false))
    (h1 : ∀ p h', Ext h h' (m + 1) → h'.get p0 = some (cellsP A 17 J O sy ck) → K1 p A 17 J O sy ck h') (h2 : ∀ p h', Ext h h' (m + 1) → h'.get p0 = some (cellsP A 10 J O sy ck) → K2 p A 10 J O sy ck h') :
    (h11.next < T.top ∧ ∀ p h16, p = h11.next → h16 = h11.new (.cells (.ls [(.int .i64 (0 : Int)), (.int .i64 (0 : Int)), (.int .i64 (0 : Int)), (.int .i64 (0 : Int)), (.bool false), (.bool false)]) ⟨0, 25, 0⟩ true false) →
      ∃ h17, ast ctx 24 h16 (.ptr p 0) (.agg [.int .i64 A, .int .i64 10, .int .i64 J, .int .i64 O, .bool sy, .bool ck]) = some h17 ∧ ((1440 : Int) ≠ 0 ∧ ((4 : Int) ≠ 0 ∧
        ((c → ∃ h18, ast ctx 3 h17 (.ptr p (0 + 1)) (.int .i64 17) = some h18 ∧ ∃ (x19 : Int) (x20 : Int) (x21 : Int) (x22 : Int) (b23 : Bool) (b24 : Bool), ald ctx 24 h18 (.ptr p 0) = some (.agg [(.int .i64 x19), (.int .i64 x20), (.int .i64 x21), (.int .i64 x22), (.bool b23), (.bool b24)]) ∧
          ∃ h25, ast ctx 24 h18 (.ptr p0 0) (.agg [(.int .i64 x19), (.int .i64 x20), (.int .i64 x21), (.int .i64 x22), (.bool b23), (.bool b24)]) = some h25 ∧ K1 p x19 x20 x21 x22 b23 b24 h25) ∧
        (¬ c → ∃ (x26 : Int) (x27 : Int) (x28 : Int) (x29 : Int) (b30 : Bool) (b31 : Bool), ald ctx 24 h17 (.ptr p 0) = some (.agg [(.int .i64 x26), (.int .i64 x27), (.int .i64 x28), (.int .i64 x29), (.bool b30), (.bool b31)]) ∧
          ∃ h32, ast ctx 24 h17 (.ptr p0 0) (.agg [(.int .i64 x26), (.int .i64 x27), (.int .i64 x28), (.int .i64 x29), (.bool b30), (.bool b31)]) = some h32 ∧ K2 p x26 x27 x28 x29 b30 b31 h32))))) := by
  refine ⟨hn, ?_⟩
  rintro p h16 rfl e16
  have l11 := x11.le
  have n16 : h16.next = h11.next + 1 := by rw [e16, new_next]
  have x16 : Ext h11 h16 1 := by rw [e16]; exact Ext.new _ (by omega)
  have s16 : h16.get h11.next = some (cellsP 0 0 0 0 false false) := by rw [e16]; exact get_new_self _ (by omega)
  have g16 : h16.get p0 = some (cellsP 0 0 0 0 false false) := (x16.get _ hp2).trans g0
  obtain ⟨h17, e17, x17, s17, g17, n17⟩ : ∃ h17, ast ctx 24 h16 (.ptr h11.next 0) (.agg [.int .i64 A, .int .i64 10, .int .i64 J, .int .i64 O, .bool sy, .bool ck]) = some h17 ∧ Ext h h17 (m + 1) ∧ h17.get h11.next = some (cellsP A 10 J O sy ck) ∧ h17.get p0 = some (cellsP 0 0 0 0 false false) ∧ h17.next = h16.next :=
    ⟨_, ast_at ty24 s16 rfl (Nat.le_refl _) rfl rfl, (x11.trans x16).upd _ (by omega) (by omega), get_upd_self _ (by omega), by rw [get_upd_ne _ (by omega) (by omega), g16], rfl⟩
  refine ⟨h17, e17, by decide, by decide, fun _ => ?_, fun _ => ?_⟩
  · obtain ⟨h18, e18, x18, s18, g18, n18⟩ : ∃ h18, ast ctx 3 h17 (.ptr h11.next (0 + 1)) (.int .i64 17) = some h18 ∧ Ext h h18 (m + 1) ∧ h18.get h11.next = some (cellsP A 17 J O sy ck) ∧ h18.get p0 = some (cellsP 0 0 0 0 false false) ∧ h18.next = h16.next :=
      ⟨_, ast_at ty3 s17 rfl (Nat.zero_le _) rfl rfl, x17.upd _ (by omega) (by omega), get_upd_self _ (by omega), by rw [get_upd_ne _ (by omega) (by omega), g17], n17⟩
    exact ⟨h18, e18, A, 17, J, O, sy, ck, ald_agg ty24 rfl s18 rfl, _, ast_at ty24 g18 rfl (Nat.le_refl _) rfl rfl, h1 _ _ (x18.upd _ (by omega) hp) (get_upd_self _ (by omega))⟩
  · exact ⟨A, 10, J, O, sy, ck, ald_agg ty24 rfl s17 rfl, _, ast_at ty24 g17 rfl (Nat.le_refl _) rfl rfl, h2 _ _ (x17.upd _ (by omega) hp) (get_upd_self _ (by omega))⟩

theorem div_in {x n : Int} (hx : 0 ≤ x ∧ x < 1048576) (hn : 0 < n) : 0 ≤ x.tdiv n ∧ x.tdiv n < 1048576 := by
  have := Int.tdiv_nonneg hx.1 (Int.le_of_lt hn)
  have h2 := Int.tmod_add_mul_tdiv x n
  have h3 := Int.tmod_nonneg n hx.1
  refine ⟨this, ?_⟩
  have h4 : x.tdiv n ≤ n * x.tdiv n := by
    have : 1 * x.tdiv n ≤ n * x.tdiv n := Int.mul_le_mul_of_nonneg_right (by omega) this
    omega
  omega

theorem pick4 {x n : Int} (hx : 0 ≤ x ∧ x < 1048576) (hn : 0 < n) : ∃ i : Nat, i < 4 ∧ Int.tmod (w64 (x.tdiv n)) 4 = i := by
  have := div_in hx hn
  rw [w64_id (by omega) (by omega)]
  exact ⟨(Int.tmod (x.tdiv n) 4).toNat, by have := Int.tmod_lt_of_pos (x.tdiv n) (b := 4) (by omega); omega, by have := Int.tmod_nonneg (a := x.tdiv n) 4 this.1; omega⟩

set_option maxRecDepth 100000 in
theorem params_ok {n : Int} {h : H} {Q : V → H → Prop} (hn : h.next + 6 ≤ T.top) (hlow : h.low ≤ T.top) (hq : ∀ h' a b d e s u, Ext h h' 6 → chk a b d e = 0 → Q (par a b d e s u) h') : RF P ctx 6 [.int .i64 n] h Q := by
  refine RF.enterE ctx_ok fn6 (ble _ _ rfl) (ble _ _ rfl) (vb6 n h Q) ⟨by omega, ?_⟩
  rintro p0 h1 rfl e1
  have n1 : h1.next = h.next + 1 := by rw [e1, new_next]
  have x1 : Ext h h1 1 := by rw [e1]; exact Ext.new _ (by omega)
  have s1 : h1.get h.next = some (cellsP 0 0 0 0 false false) := by rw [e1]; exact get_new_self _ (by omega)
  refine mod_ok (by decide) (by decide) ⟨_, rfl, ?_⟩
  have hx : 0 ≤ n % 1048576 ∧ n % 1048576 < 1048576 := ⟨Int.emod_nonneg _ (by decide), Int.emod_lt_of_pos _ (by decide)⟩
  generalize n % 1048576 = x at *
  obtain ⟨v5, h6, e6, sl6, x6⟩ := build4 16 40 100 1000 (h := h1) (by omega)
  have u6 := x6.top
  obtain ⟨i, hi, ei⟩ := pick4 hx (show (0 : Int) < 9 by decide)
  obtain ⟨j, hj, ej⟩ := pick4 hx (show (0 : Int) < 36 by decide)
  obtain ⟨v10, h11, e11, sl11, x11⟩ := build4 9 0 6 3 (h := h6) (by omega)
  have u11 := x11.top
  have l6 := x6.le
  have l11 := x11.le
  obtain ⟨J, hJ, oJ⟩ : ∃ J : Int, (ints [16, 40, 100, 1000])[i]? = some (.int .i64 J) ∧ 16 ≤ J ∧ J ≤ 2097152 := by
    have : i = 0 ∨ i = 1 ∨ i = 2 ∨ i = 3 := by omega
    rcases this with rfl | rfl | rfl | rfl
    · exact ⟨16, rfl, by decide, by decide⟩
    · exact ⟨40, rfl, by decide, by decide⟩
    · exact ⟨100, rfl, by decide, by decide⟩
    · exact ⟨1000, rfl, by decide, by decide⟩
  obtain ⟨O, hO, oO⟩ : ∃ O : Int, (ints [9, 0, 6, 3])[j]? = some (.int .i64 O) ∧ 0 ≤ O ∧ O ≤ 9 := by
    have : j = 0 ∨ j = 1 ∨ j = 2 ∨ j = 3 := by omega
    rcases this with rfl | rfl | rfl | rfl
    · exact ⟨9, rfl, by decide, by decide⟩
    · exact ⟨0, rfl, by decide, by decide⟩
    · exact ⟨6, rfl, by decide, by decide⟩
    · exact ⟨3, rfl, by decide, by decide⟩
  obtain ⟨b1, o1, a1, a2⟩ := sl6.at1 (c := ctx) (i := i) hi ty22 rfl ty3 rfl rfl hJ
  obtain ⟨b2, o2, a3, a4⟩ := sl11.at1 (c := ctx) (i := j) hj ty22 rfl ty3 rfl rfl hO
  have hA : 1 ≤ w64 (1 + Int.tmod x 9) ∧ w64 (1 + Int.tmod x 9) ≤ 9 := by
    have q1 := Int.tmod_nonneg 9 hx.1
    have q2 := Int.tmod_lt_of_pos x (b := 9) (by decide)
    rw [w64_id (by omega) (by omega)]; omega
  have x0 : Ext h h11 3 := (x1.trans x6).trans x11
  have g11 : h11.get h.next = some (cellsP 0 0 0 0 false false) := by rw [x11.get _ (by omega), x6.get _ (by omega), s1]
  have fin : ∀ (h' : H) (W : Int) (s u : Bool), Ext h h' 4 → (W = 17 ∨ W = 10) → Q (par (w64 (1 + Int.tmod x 9)) W J O s u) h' := fun h' W s u xx hW => hq h' _ _ _ _ _ _ (xx.mono (by omega)) (by unfold chk; rw [if_pos (by omega)])
  refine ⟨⟨by omega, by have := x1.low; omega⟩, by decide, v5, h6, e6, by decide, by decide, b1, o1, by rw [ei]; exact a1, J, a2, v10, h11, e11, by decide, by decide, b2, o2, by rw [ej]; exact a3, O, a4, by decide, by decide, fun _ => ⟨by decide, by decide, fun _ => ?_, fun _ => ?_⟩, fun _ => ⟨by decide, by decide, fun _ => ?_, fun _ => ?_⟩⟩
  all_goals
    refine tail_ok (h := h) (m := 3) x0 (Nat.le_refl _) (by omega) (by omega) g11 (fun p h' xx gg => ?_) (fun p h' xx gg => ?_)
    · exact endW_cell (p := h.next) (o := 0) (by kernel_rfl) (ald_agg ty24 rfl gg rfl) (fin h' 17 _ _ xx (.inl rfl))
    · exact endW_cell (p := h.next) (o := 0) (by kernel_rfl) (ald_agg ty24 rfl gg rfl) (fin h' 10 _ _ xx (.inr rfl))

end Go.Proofs.Ytbkafllejpbimaa

namespace Go.Proofs.Ytbkafllejpbimaa
open Go.Sim

/-- Where the ends of so many numbers stand. -/
def upto (l : List Int) : Nat → Int
  | 0 => 0
  | i + 1 => upto l i + l.getD i 0 % 3000
def ends (l : List Int) : Nat → List Int
  | 0 => []
  | i + 1 => ends l i ++ [upto l (i + 1)]

theorem ends_len (l : List Int) (i : Nat) : (ends l i).length = i := by
  induction i with
  | zero => rfl
  | succ i ih => simp [ends, ih]
theorem ends_get (l : List Int) {i j : Nat} (h : j < i) : (ends l i).getD j 0 = upto l (j + 1) := by
  induction i with
  | zero => omega
  | succ i ih =>
    simp only [ends, List.getD_eq_getElem?_getD]
    by_cases hj : j < i
    · rw [List.getElem?_append_left (by rw [ends_len]; exact hj), ← List.getD_eq_getElem?_getD, ih hj]
    · obtain rfl : j = i := by omega
      rw [List.getElem?_append_right (by rw [ends_len]; omega), ends_len]
      simp
theorem upto_step (l : List Int) (i : Nat) : upto l i ≤ upto l (i + 1) ∧ upto l (i + 1) ≤ upto l i + 2999 := by
  have h1 := Int.emod_nonneg (l.getD i 0) (show (3000 : Int) ≠ 0 by decide)
  have h2 := Int.emod_lt_of_pos (l.getD i 0) (show (0 : Int) < 3000 by decide)
  show upto l i ≤ upto l i + l.getD i 0 % 3000 ∧ upto l i + l.getD i 0 % 3000 ≤ upto l i + 2999
  omega
theorem upto_bnd (l : List Int) (i : Nat) : 0 ≤ upto l i ∧ upto l i ≤ 3000 * i := by
  induction i with
  | zero => exact ⟨Int.le_refl _, Int.le_refl _⟩
  | succ i ih => have := upto_step l i; omega
theorem ends_bnd (l : List Int) {i : Nat} (h : i ≤ 30) : Go.Proofs.Ytbkafllejpbimaa.bnd (ends l i) := by
  intro j hj
  rw [ends_len] at hj
  rw [ends_get l hj]
  have := upto_bnd l (j + 1)
  omega
theorem ends_srt (l : List Int) (i : Nat) : srt (ends l i) := by
  intro j hj
  rw [ends_len] at hj
  rw [ends_get l (by omega), ends_get l hj]
  exact (upto_step l (j + 1)).1

/-- A list of ends that has a table. -/
structure Good (l : List Int) : Prop where
  pos : 0 < l.length
  len : l.length ≤ 30
  bnd : Go.Proofs.Ytbkafllejpbimaa.bnd l
  srt : Go.Proofs.Ytbkafllejpbimaa.srt l

theorem good_ends (l : List Int) {i : Nat} (h0 : 0 < i) (h : i ≤ 30) : Good (ends l i) := ⟨by rw [ends_len]; exact h0, by rw [ends_len]; exact h, ends_bnd l h, ends_srt l i⟩
theorem good_zero : Good [0] := ⟨by decide, by decide, fun i hi => by
  have : i = 0 := by simp at hi; omega
  subst this; exact ⟨Int.le_refl _, (by decide : (0 : Int) ≤ 1048576)⟩, fun i hi => by simp at hi⟩

theorem Good.ofE {l : List Int} (g : Good l) : ofE 0 l = 0 := by
  have := g.pos; have := g.len
  unfold Go.Proofs.Ytbkafllejpbimaa.ofE
  rw [if_neg (by decide), if_neg (by omega), if_pos g.bnd, if_pos g.srt]

theorem tos_jt (R : Int) (l : List Int) (i : Nat) (h : i ≤ l.length) : tos (jt R l i) = l.take i := by
  induction i with
  | zero => rfl
  | succ i ih =>
    simp only [jt, tos, List.map_append]
    have := ih (by omega)
    unfold tos at this
    rw [this, List.take_add_one]
    simp [List.getD_eq_getElem?_getD, List.getElem?_eq_getElem (show i < l.length by omega)]

/-- The table of good ends is right. -/
theorem Good.chkE {l : List Int} (g : Good l) (R : Int) : chkE 0 R (jt R l l.length) = 0 := by
  have := g.len
  have h1 : (jt R l l.length).take 4097 = jt R l l.length := List.take_of_length_le (by rw [jt_len]; omega)
  have h2 : tos (jt R l l.length) = l := by rw [tos_jt R l _ (Nat.le_refl _), List.take_length]
  unfold Go.Proofs.Ytbkafllejpbimaa.chkE
  rw [h1, h2, if_pos g.ofE, if_pos rfl]

theorem jt_get (R : Int) (l : List Int) {i n : Nat} (h : i < n) : (jt R l n)[i]? = some (la l i, l.getD i 0, max 0 (la l i - R)) := by
  induction n with
  | zero => omega
  | succ n ih =>
    simp only [jt]
    by_cases hi : i < n
    · rw [List.getElem?_append_left (by rw [jt_len]; exact hi), ih hi]
    · obtain rfl : i = n := by omega
      rw [List.getElem?_append_right (by rw [jt_len]; omega), jt_len]
      simp

end Go.Proofs.Ytbkafllejpbimaa

namespace Go.Proofs.Ytbkafllejpbimaa
open Go.Sim

set_option maxRecDepth 100000 in
theorem cmp_ok {tm : Tm} {h : H} {Q : AX → St → Prop} {es : List Int} {tv ev : V} {R : Int} (g : Good es) (st : Sl h tv 3 es.length (jl (jt R es es.length))) (se : Sl h ev 1 es.length (ints es)) (t11 : getV tm 11 = .int .i64 0) (t9 : getV tm 9 = tv) (t6 : getV tm 6 = ev)
    (hn : h.next ≤ T.top) (hlo : h.low ≤ T.top) (hq : ∀ tm', Q (.exit 2) ⟨108, tm', [], h⟩) : wpC P ctx false (.loop l3_1) ⟨108, tm, [], h⟩ Q := by
  have hlen := g.len
  refine loop_wp (fun k tm h' => ∃ i : Nat, i ≤ es.length ∧ k = es.length - i ∧ h' = h ∧ getV tm 11 = .int .i64 i ∧ getV tm 9 = tv ∧ getV tm 6 = ev) es.length ?_ ?_
  · exact ⟨0, by omega, by omega, rfl, t11, t9, t6⟩
  · rintro k tm h' ⟨i, h1, rfl, rfl, t11, t9, t6⟩
    rw [tm3 rfl t11 t9 t6]
    have st' : Sl h' tv 3 (jt R es es.length).length (jl (jt R es es.length)) := by rw [jt_len]; exact st
    refine wpC.seal _ (vl3_1 _ _ _ _ _ _ _) ⟨_, st.len ty27 rfl, fun h3 => ⟨⟨hn, hlo⟩, ?_⟩, fun h3 tmz _ _ _ _ _ _ _ _ => hq _⟩
    have hi : i < es.length := by omega
    obtain ⟨b, o, a1, _, a2, a3, _⟩ := at3 st' (jt_get R es hi)
    obtain ⟨b', o', e1, e2⟩ := se.at1 (c := ctx) (i := i) hi ty22 rfl ty3 rfl rfl (ints_get hi)
    have step : ∀ tmn, getV tmn 11 = .int .i64 (w64 ((i : Int) + 1)) → getV tmn 9 = tv → getV tmn 6 = ev → ∃ j, j < es.length - i ∧ ∃ i' : Nat, i' ≤ es.length ∧ j = es.length - i' ∧ h' = h' ∧ getV tmn 11 = .int .i64 i' ∧ getV tmn 9 = tv ∧ getV tmn 6 = ev := by
      intro tmn q11 q9 q6
      refine ⟨es.length - (i + 1), by omega, i + 1, by omega, rfl, rfl, ?_, q9, q6⟩
      rw [q11, w64_id (by omega) (by omega)]; rfl
    refine ⟨b, o, a1, _, a3, b', o', e1, _, e2, fun q => absurd rfl q, fun _ => ⟨fun h0 => ?_, fun h0 => ⟨fun h2 => ?_, fun h2 => absurd (show (i : Int) = 0 by omega) h2⟩⟩⟩
    · obtain ⟨n, rfl⟩ : ∃ n : Nat, i = n + 1 := ⟨i - 1, by omega⟩
      obtain ⟨b2, o2, f1, f2⟩ := se.at1 (c := ctx) (i := n) (by omega) ty22 rfl ty3 rfl rfl (ints_get (by omega))
      refine ⟨b, o, a1, _, a2, b2, o2, ?_, _, f2, fun q => absurd rfl q, fun _ => ⟨fun h2 => absurd h2 (by omega), fun _ tmn _ _ _ _ q6 q11 q9 _ => ⟨rfl, rfl, step tmn q11 q9 q6⟩⟩⟩
      rw [w64_id (by omega) (by omega), show ((n + 1 : Nat) : Int) - 1 = n from by omega]; exact f1
    · have : i = 0 := by omega
      subst this
      exact ⟨b, o, a1, _, a2, fun q => absurd rfl q, fun _ tmn _ _ _ _ q6 q11 q9 _ => ⟨rfl, rfl, step tmn q11 q9 q6⟩⟩

end Go.Proofs.Ytbkafllejpbimaa

namespace Go.Proofs.Ytbkafllejpbimaa
open Go.Sim

theorem made_ok {h : H} {pc : Nat} {a b d e : Int} {s u : Bool} {w : V} {es : List Int} {A1 A2 A3 : V → Int → H → Prop} {K : Int → Int → Int → Int → Bool → Bool → V → Int → Int → Int → Int → Int → Int → Int → Bool → Bool → Int → H → Prop}
    (hp : h.get pc = some (cellsP a b d e s u)) (hpc : pc < h.next) (hc : chk a b d e = 0) (g : Good es) (sl : Sl h w 1 es.length (ints es)) (hn : h.next + 60700 ≤ T.top) (hlow : h.low ≤ T.top)
    (hK : ∀ h' tv, Ext h h' 60600 → Sl h' tv 3 es.length (jl (jt (pre b e) es es.length)) → K a b d e s u tv 0 es.length es.length a b d e s u 0 h') :
    ∃ (x5 : Int) (x6 : Int) (x7 : Int) (x8 : Int) (b9 : Bool) (b10 : Bool), ald ctx 24 h (.ptr pc 0) = some (.agg [(.int .i64 x5), (.int .i64 x6), (.int .i64 x7), (.int .i64 x8), (.bool b9), (.bool b10)]) ∧
      RF Try.prog ctx 8 [(.agg [(.int .i64 x5), (.int .i64 x6), (.int .i64 x7), (.int .i64 x8), (.bool b9), (.bool b10)]), w] h (fun v11 h12 => ∃ (v13 : V) (x14 : Int), v11 = (.tuple [v13, (.int .i64 x14)]) ∧
        ((x14 ≠ (0 : Int) → A1 v13 x14 h12) ∧ (¬(x14 ≠ (0 : Int)) → ∃ (x15 : Int), alen ctx 27 h12 v13 = some (.int .i64 x15) ∧ ∃ (x16 : Int), alen ctx 22 h12 w = some (.int .i64 x16) ∧
          ((x15 ≠ x16 → A2 v13 x14 h12) ∧ (¬(x15 ≠ x16) → ∃ (x17 : Int) (x18 : Int) (x19 : Int) (x20 : Int) (b21 : Bool) (b22 : Bool), ald ctx 24 h12 (.ptr pc 0) = some (.agg [(.int .i64 x17), (.int .i64 x18), (.int .i64 x19), (.int .i64 x20), (.bool b21), (.bool b22)]) ∧
            RF Try.prog ctx 9 [(.agg [(.int .i64 x17), (.int .i64 x18), (.int .i64 x19), (.int .i64 x20), (.bool b21), (.bool b22)]), v13] h12 (fun v23 h24 => ∃ (x25 : Int), v23 = (.int .i64 x25) ∧
              ((x25 ≠ (0 : Int) → A3 v13 x14 h24) ∧ (¬(x25 ≠ (0 : Int)) → K x5 x6 x7 x8 b9 b10 v13 x14 x15 x16 x17 x18 x19 x20 b21 b22 x25 h24)))))))) := by
  have hE : ofE (chk a b d e) es = 0 := by rw [hc]; exact g.ofE
  have hlen := g.len
  refine ⟨a, b, d, e, s, u, ald_agg ty24 rfl hp rfl, of_ok (l := es) sl (by omega) (by omega) hlow fun h12 tv x12 ow nil => ?_⟩
  rw [hE]
  have ow12 := ow hE
  rw [jc_jl] at ow12
  have l12 := ow12.sl
  have u12 := x12.top
  refine ⟨tv, 0, rfl, fun q => absurd rfl q, fun _ => ⟨_, l12.len ty27 rfl, _, (sl.ext x12).len ty22 rfl, fun q => absurd rfl q, fun _ => ⟨a, b, d, e, s, u, ald_agg ty24 rfl ((x12.get _ hpc).trans hp) rfl, ?_⟩⟩⟩
  have hj : (jt (pre b e) es es.length).length = es.length := jt_len _ _ _
  refine checkT_ok (l := jt (pre b e) es es.length) (by rw [hj]; exact l12) (fun h' x' => tk_of_ow (by rw [hj]; exact ow12.ext x')) (by omega) (by omega) (Nat.le_trans x12.low hlow) fun h24 x24 => ?_
  rw [hc, g.chkE]
  exact ⟨0, rfl, fun q => absurd rfl q, fun _ => hK h24 tv ((x12.trans x24).mono (by omega)) (l12.ext x24)⟩

end Go.Proofs.Ytbkafllejpbimaa

namespace Go.Proofs.Ytbkafllejpbimaa
open Go.Sim

set_option maxRecDepth 100000 in
theorem again_ok {v : V} {nums : List Int} {n : Int} {h : H} {Q : V → H → Prop} (hw : ∀ (h : H) (Q : V → H → Prop), h.next + 1000 ≤ T.top → h.low ≤ T.top → (∀ h', Q (.bool true) h') → RF P ctx 10 [] h Q)
    (sl : Sl h v 1 nums.length (ints nums)) (hlen : nums.length < 9223372036854775808) (hn : h.next + 70000 ≤ T.top) (hlow : h.low ≤ T.top) (hq : ∀ h', Q (.bool true) h') : RF P ctx 3 [v, .int .i64 n] h Q := by
  refine RF.enterE ctx_ok fn3 (ble _ _ rfl) (ble _ _ rfl) (vb3 v n h Q) (params_ok (by omega) hlow fun h1 a b d e s u x1 hc => ⟨_, _, _, _, _, _, rfl, by have := x1.top; omega, ?_⟩)
  have u1 := x1.top
  have l1 := x1.le
  rintro p8 h9 rfl e9
  have n9 : h9.next = h1.next + 1 := by rw [e9, new_next]
  have x9 : Ext h1 h9 1 := by rw [e9]; exact Ext.new _ (by omega)
  have s9 : h9.get h1.next = some (cellsP 0 0 0 0 false false) := by rw [e9]; exact get_new_self _ (by omega)
  obtain ⟨h10, e10, x10, g10, n10⟩ : ∃ h10, ast ctx 24 h9 (.ptr h1.next 0) (.agg [.int .i64 a, .int .i64 b, .int .i64 d, .int .i64 e, .bool s, .bool u]) = some h10 ∧ Ext h h10 7 ∧ h10.get h1.next = some (cellsP a b d e s u) ∧ h10.next = h9.next :=
    ⟨_, ast_at ty24 s9 rfl (Nat.le_refl _) rfl rfl, (x1.trans x9).upd _ (by omega) (by omega), get_upd_self _ (by omega), rfl⟩
  refine ⟨h10, e10, ?_⟩
  have fin : ∀ (h' : H) (w : V) (es : List Int) (tm : Tm), Ext h h' 200 → Good es → Sl h' w 1 es.length (ints es) → ∀ h2 tv, Ext h' h2 60600 → Sl h2 tv 3 es.length (jl (jt (pre b e) es es.length)) → getV tm 11 = .int .i64 0 → getV tm 9 = tv → getV tm 6 = w →
      wpC P ctx false (.loop l3_1) ⟨108, tm, [], h2⟩ (fun e s1 => (thenC (fun s1 => wpC P ctx false r3_2 s1 (sealQ [4, 8, 0, 7, 6, 11, 9, 5] (endW ctx ⟨108, [.tmp 4], b3⟩ Q))) (sealQ [4, 8, 0, 7, 6, 11, 9, 5] (endW ctx ⟨108, [.tmp 4], b3⟩ Q))) (exitB 2 e) s1) := by
    intro h' w es tm xx g se h2 tv x2 st t11 t9 t6
    have u2 := x2.top
    have ux := xx.top
    have lo2 : h2.low ≤ T.top := Nat.le_trans (Nat.le_trans x2.low xx.low) hlow
    refine cmp_ok g st (se.ext x2) t11 t9 t6 (by omega) lo2 fun tm' => ?_
    show wpC P ctx false r3_2 ⟨108, tm', [], h2⟩ (sealQ [4, 8, 0, 7, 6, 11, 9, 5] (endW ctx ⟨108, [.tmp 4], b3⟩ Q))
    refine Eq.mpr (vr3_2 tm' [] h2 _) (hw h2 _ (by omega) lo2 fun h3 => ⟨true, rfl, fun _ tmn q4 _ _ _ _ _ _ _ => ?_, fun q => (by cases q)⟩)
    show Q (getV tmn 4) h3
    rw [q4]; exact hq h3
  have close : ∀ (h' : H) (w : V) (tm : Tm) (i : Nat), i ≤ 30 → getV tm 6 = w → getV tm 5 = .ptr h1.next 0 → Ext h h' (7 + 2 * i) → Ow h' w te3 i (ints (ends nums i)) → h'.get h1.next = some (cellsP a b d e s u) → h1.next < h'.next → (∀ b, vblk w = some b → h1.next < b) →
      wpC P ctx false r3_3 ⟨108, tm, [], h'⟩ (endW ctx ⟨108, [.tmp 4], b3⟩ Q) := by
    intro h' w tm i hi t6 t5 xx ow gp np vb
    rw [tm2 rfl t6 t5]
    have ux := xx.top
    have lo2 : h'.low ≤ T.top := Nat.le_trans xx.low hlow
    refine wpC.seal _ (vr3_3 _ _ _ _ _ _) ⟨_, ow.sl.len ty22 rfl, fun h0 => ?_, fun h0 => ?_⟩
    · have : i = 0 := by omega
      subst this
      obtain ⟨v1, h2, e2, sl2, x2, _⟩ := buildSlice1 (c := ctx) (h := h') (u := .int .i64 0) (ys := [.int .i64 0]) ty22 rfl te3_at rfl rfl rfl rfl (Nat.le_of_ble_eq_true rfl) rfl (by omega)
      have u2 := x2.top
      obtain ⟨v3, h4, e4, ow4, l4, u4, g4, _, low4, lo4⟩ := (ow.ext x2).append (c := ctx) sl2 (by omega) ty22 rfl te3_at rfl rfl (by decide) (by decide) (by omega)
      refine ⟨v1, h2, e2, trivial, v3, h4, e4, ?_⟩
      have x4 : Ext h h4 200 := by
        have y := xx.trans x2
        refine ⟨Nat.le_trans y.le l4, by have := y.top; omega, fun b hb => (g4 b (by have := y.le; omega) (fun q => by have := vb b q; omega)).trans (y.get b hb), Nat.le_trans low4 y.low, lo4 _ y.lo fun b hb => by have := vb b hb; omega⟩
      have ux4 := x4.top
      refine made_ok (by rw [g4 _ (by have := x2.le; omega) (fun q => by have := vb _ q; omega), x2.get _ np, gp]) (by have := x2.le; omega) hc good_zero ow4.sl (by omega) (Nat.le_trans x4.low hlow) fun h5 tv x5 st => ?_
      exact fin h4 v3 [0] _ x4 good_zero ow4.sl h5 tv x5 st (by kernel_rfl) (by kernel_rfl) (by kernel_rfl)
    · have hg := good_ends nums (i := i) (by omega) hi
      have se : Sl h' w 1 (ends nums i).length (ints (ends nums i)) := by rw [ends_len]; exact ow.sl
      have hl : alen ctx 22 h' w = some (.int .i64 ((ends nums i).length : Nat)) := se.len ty22 rfl
      refine made_ok gp np hc hg se (by omega) lo2 fun h5 tv x5 st => ?_
      exact fin h' w (ends nums i) _ (xx.mono (by omega)) hg se h5 tv x5 st (by kernel_rfl) (by kernel_rfl) (by kernel_rfl)
  refine loop_wp (fun k tm h' => ∃ i : Nat, i ≤ nums.length ∧ i ≤ 30 ∧ k = nums.length - i ∧ getV tm 8 = .int .i64 i ∧ getV tm 0 = v ∧ getV tm 7 = .int .i64 (upto nums i) ∧ getV tm 5 = .ptr h1.next 0 ∧ ∃ w, getV tm 6 = w ∧
    Ext h h' (7 + 2 * i) ∧ Ow h' w te3 i (ints (ends nums i)) ∧ h'.get h1.next = some (cellsP a b d e s u) ∧ h1.next < h'.next ∧ (∀ b, vblk w = some b → h1.next < b)) nums.length ?_ ?_
  · exact ⟨0, by omega, by omega, by omega, by kernel_rfl, by kernel_rfl, by kernel_rfl, by kernel_rfl, .nilslice, by kernel_rfl, x10, Ow.nil _ _, g10, by omega, fun b hb => (by cases hb)⟩
  · rintro k tm h' ⟨i, i1, i2, rfl, t8, t0, t7, t5, w, t6, xx, ow, gp, np, vb⟩
    have t5' : getV (Tb.set (Tb.set (Tb.set (Tb.set tm 8 (.int .i64 i)) 0 v) 7 (.int .i64 (upto nums i))) 6 w) 5 = .ptr h1.next 0 := by rw [← tm4 rfl t8 t0 t7 t6]; exact t5
    rw [tm4 rfl t8 t0 t7 t6]
    have ux := xx.top
    have lx := xx.le
    have slk := sl.ext xx
    have out : ∀ tmz, getV tmz 6 = w → getV tmz 5 = .ptr h1.next 0 → wpC P ctx false r3_3 ⟨108, tmz, [], h'⟩ (endW ctx ⟨108, [.tmp 4], b3⟩ Q) := fun tmz q6 q5 => close h' w tmz i i2 q6 q5 xx ow gp np vb
    refine wpC.seal _ (vl3_0 _ _ _ _ _ _ _ _) ⟨_, slk.len ty22 rfl, fun c1 => ⟨fun c2 => ?_, fun c2 tmz _ _ _ _ q6 _ _ q5 => out tmz q6 (q5.trans t5')⟩, fun c1 tmz _ _ _ _ q6 _ _ q5 => out tmz q6 (q5.trans t5')⟩
    have hi : i < nums.length := by omega
    obtain ⟨pb, po, a1, a2⟩ := slk.at1 (c := ctx) (i := i) hi ty22 rfl ty3 rfl rfl (ints_get hi)
    refine ⟨pb, po, a1, _, a2, mod_ok (by decide) (by decide) ⟨_, rfl, ?_⟩⟩
    have hb := upto_bnd nums (i + 1)
    have hst : w64 (upto nums i + nums.getD i 0 % 3000) = upto nums (i + 1) := w64_id (by show _ ≤ upto nums (i + 1); omega) (by show upto nums (i + 1) < _; omega)
    rw [hst]
    obtain ⟨v1, h2, e2, sl2, x2, _⟩ := buildSlice1 (c := ctx) (h := h') (u := .int .i64 (upto nums (i + 1))) (ys := [.int .i64 (upto nums (i + 1))]) ty22 rfl te3_at rfl rfl rfl rfl (Nat.le_of_ble_eq_true rfl) rfl (by omega)
    have u2 := x2.top
    obtain ⟨v3, h4, e4, ow4, l4, u4, g4, vb4, low4, lo4⟩ := (ow.ext x2).append (c := ctx) sl2 (by omega) ty22 rfl te3_at rfl rfl (by show (i + 1) * 1 ≤ _; omega) (by show (i + 1) * 8 ≤ _; omega) (by omega)
    refine ⟨v1, h2, e2, trivial, v3, h4, e4, fun tmn _ q8 q0 q7 q6 _ _ q5 => ⟨rfl, rfl, nums.length - (i + 1), by omega, i + 1, by omega, by omega, rfl, ?_, q0, q7, q5.trans t5', v3, q6, ?_, ?_, ?_, ?_, fun b hb => ?_⟩⟩
    · rw [q8, w64_id (by omega) (by omega)]; rfl
    · show Ext h h4 _
      have y := xx.trans x2
      exact ⟨Nat.le_trans y.le l4, by have := y.top; omega, fun b hb => (g4 b (by have := y.le; omega) (fun q => by have := vb b q; omega)).trans (y.get b hb), Nat.le_trans low4 y.low, lo4 _ y.lo fun b hb => by have := vb b hb; omega⟩
    · show Ow h4 v3 te3 (i + 1) (ints (ends nums i ++ [upto nums (i + 1)]))
      have : ints (ends nums i ++ [upto nums (i + 1)]) = ints (ends nums i) ++ [.int .i64 (upto nums (i + 1))] := by simp [ints]
      rw [this]; exact ow4
    · show h4.get h1.next = _
      rw [g4 _ (by have := x2.le; omega) (fun q => by have := vb _ q; omega), x2.get _ np, gp]
    · show h1.next < h4.next
      have := x2.le; omega
    · rw [vb4] at hb; cases hb; have := x2.le; omega

end Go.Proofs.Ytbkafllejpbimaa

namespace Go.Proofs.Ytbkafllejpbimaa
open Go.Sim

theorem awake_run : saysTrue (X.run ctx noOrc 1000000 10 [] H0) = true := by kernel_rfl

theorem fn10_some : (ctx.fn.get 10).isSome = true := by kernel_rfl

theorem awake_ok {h : H} {Q : V → H → Prop} (hq : Q (.bool true) h) : RF P ctx 10 [] h Q := by
  obtain ⟨h', e⟩ := saysTrue_iff awake_run
  have s : SimF P 10 [] H0 (.ret (.bool true) h') := X.sound ctx_ok (noOrc_ok _ _) e
  exact ⟨_, h, ⟨Option.isSome_iff_exists.1 fn10_some, s.frame⟩, hq⟩

/-- JobsAgain answers true, whatever the numbers. -/
theorem again_all {v : V} {nums : List Int} {n : Int} {h : H} {Q : V → H → Prop} (sl : Sl h v 1 nums.length (ints nums)) (hlen : nums.length < 9223372036854775808) (hn : h.next + 70000 ≤ T.top) (hlow : h.low ≤ T.top) (hq : ∀ h', Q (.bool true) h') : RF P ctx 3 [v, .int .i64 n] h Q :=
  again_ok (fun _ _ _ _ hq => awake_ok (hq _)) sl hlen hn hlow hq

end Go.Proofs.Ytbkafllejpbimaa
