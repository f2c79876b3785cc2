/- The law LitsShort: whatever the three numbers, it returns true. No condition. -/
import Derived.Test.YtamddelaigcnkaaGreatM0
import Derived.Test.YtamddelaigcnkaaGreatSimLib
import Derived.Test.YtamddelaigcnkaaGreatSimFrame
import Derived.Test.YtamddelaigcnkaaGreatSimNum
import Derived.Test.YtamddelaigcnkaaGreatKRun
import Derived.Test.YtamddelaigcnkaaGreatSimTwo
import Derived.ProofKit

namespace Go.Proofs.YtamddelaigcnkaaGreat
open Go.Sim

noncomputable abbrev P := Tryz.prog

set_option maxRecDepth 100000 in
theorem ble (a b : Nat) (h : Nat.ble a b = true) : a ≤ b := Nat.le_of_ble_eq_true h

/-- A cursor. -/
def cur (s : List UInt8) (x e y : Int) : List V := [.str s, .int .i64 x, .int .i64 e, .int .i64 y]
/-- A cursor that is boxed, a reader. -/
def oC (s : List UInt8) (x e y : Int) : O := .cells (.ls (cur s x e y)) ⟨0, 51, 0⟩ true false
def oR (s : List UInt8) (x e y : Int) : O := .cells (.ls (cur s x e y)) ⟨0, 87, 0⟩ true false

set_option maxRecDepth 100000 in
theorem inside_ok {p : Nat} {s : List UInt8} {a x e y : Int} {h : H} {Q : V → H → Prop} (hg : h.get p = some (oC s x e y)) (h0 : 0 ≤ a) (h1 : a ≤ s.length) (hq : Q (.bool true) h) : RF P ctx 75 [.int .i64 a, .ptr p 0] h Q := by
  refine RF.enterE ctx_ok fn75 (ble _ _ rfl) (ble _ _ rfl) (vb75 a _ h Q) ⟨fun _ => ?_, fun c => absurd h0 c⟩
  show ∃ l2, ald ctx 9 h (.ptr p (0 + 0)) = some (.str l2) ∧ _
  exact ⟨s, ald_one ty9 rfl hg rfl, fun _ => hq, fun c => absurd h1 c⟩

set_option maxRecDepth 100000 in
theorem valid_ok {s : List UInt8} {x : Int} {h : H} {Q : V → H → Prop} (hn : h.next < T.top) (h0 : 0 ≤ x) (h1 : x ≤ s.length) (hq : ∀ h', Ext h h' 1 → Q (.bool true) h') : RF P ctx 54 [.agg (cur s x 0 0)] h Q := by
  refine RF.enterE ctx_ok fn54 (ble _ _ rfl) (ble _ _ rfl) (vb54 s x 0 0 h Q) ⟨hn, ?_⟩
  rintro p h2 rfl rfl
  have hg := get_new_self (h := h) (.cells (.ls (cur s x 0 0)) ⟨0, 51, 0⟩ true false) hn
  have hx := Ext.new (h := h) (.cells (.ls (cur s x 0 0)) ⟨0, 51, 0⟩ true false) hn
  refine ⟨0, ald_one ty23 rfl hg rfl, fun _ => ⟨x, ald_one ty3 rfl hg rfl, inside_ok (s := s) (x := x) (e := 0) (y := 0) hg h0 h1 ⟨true, rfl, fun _ => ⟨0, ald_one ty3 rfl hg rfl, fun _ => hq _ hx, fun c => absurd rfl c⟩, fun g => (by cases g)⟩⟩, fun c => absurd rfl c⟩

set_option maxRecDepth 100000 in
theorem of_ok {s : List UInt8} {x : Int} {h : H} {Q : V → H → Prop} (hn : h.next + 3 ≤ T.top) (h0 : 0 ≤ x) (h1 : x ≤ s.length) (hq : ∀ h' p, Ext h h' 3 → h.next ≤ p → p < h'.next → h'.get p = some (oR s x 0 0) → Q (.ptr p 0) h') : RF P ctx 34 [.agg (cur s x 0 0)] h Q := by
  refine RF.enterE ctx_ok fn34 (ble _ _ rfl) (ble _ _ rfl) (vb34 s x 0 0 h Q) ⟨by omega, ?_⟩
  rintro p h2 rfl e2
  have n2 : h2.next = h.next + 1 := by rw [e2, new_next]
  have x2 : Ext h h2 1 := by rw [e2]; exact Ext.new _ (by omega)
  have g2 : h2.get h.next = some (oC s x 0 0) := by rw [e2]; exact get_new_self _ (by omega)
  refine ⟨_, _, _, _, ald_agg ty50 rfl g2 rfl, valid_ok (by omega) h0 h1 fun h7 x7 => ⟨true, rfl, fun _ => ?_, fun g => (by cases g)⟩⟩
  have u7 := x7.top
  have l7 := x7.le
  refine ⟨_, _, _, _, ald_agg ty50 rfl ((x7.get _ (by omega)).trans g2) rfl, by omega, ?_⟩
  rintro p13 h14 rfl e14
  have x14 : Ext h7 h14 1 := by rw [e14]; exact Ext.new _ (by omega)
  have g14 : h14.get h7.next = some (oR s x 0 0) := by rw [e14]; exact get_new_self _ (by omega)
  exact hq h14 _ (((x2.trans x7).trans x14).mono (by omega)) (by have := x2.le; omega) (by rw [e14, new_next]; omega) g14

set_option maxRecDepth 100000 in
theorem bad_ok {p : Nat} {s : List UInt8} {x e y : Int} {h : H} {Q : V → H → Prop} (hg : h.get p = some (oR s x e y)) (hq : Q (.bool (decide (e ≠ 0))) h) : RF P ctx 38 [.ptr p 0] h Q := by
  refine RF.enterE ctx_ok fn38 (ble _ _ rfl) (ble _ _ rfl) (vb38 _ h Q) ⟨.ptr p 0, h, rfl, ?_⟩
  show ∃ x8, ald ctx 23 h (.ptr p (0 + 0 + 2 + 0)) = some (.int .i64 x8) ∧ _
  refine ⟨e, ald_one ty23 rfl hg rfl, fun c => ?_, fun c => ?_⟩
  · rwa [decide_eq_true c] at hq
  · rwa [decide_eq_false c] at hq

set_option maxRecDepth 100000 in
theorem low_id {h : H} (hn : h.next ≤ T.top) (hl : h.low ≤ T.top) : (h.next ≤ (topH h).low ∧ (topH h).next ≤ T.top) ∧ lowM h (topH h) = h := by
  refine ⟨⟨hn, hn⟩, ?_⟩
  show (⟨h.tbl, h.next, cond (Nat.ble h.low T.top) h.low T.top⟩ : H) = h
  rw [Nat.ble_eq_true_of_le hl, cond_true]

set_option maxRecDepth 100000 in
theorem left_ok {p : Nat} {s : List UInt8} {x y : Int} {h : H} {Q : V → H → Prop} (hg : h.get p = some (oR s x 0 y)) (hn : h.next ≤ T.top) (hl : h.low ≤ T.top) (hq : Q (.int .i64 (w64 ((s.length : Int) - x))) h) : RF P ctx 56 [.ptr p 0] h Q := by
  obtain ⟨k1, k2⟩ := low_id hn hl
  refine RF.enterE ctx_ok fn56 (ble _ _ rfl) (ble _ _ rfl) (vb56 _ h Q) (bad_ok hg ⟨_, rfl, fun g => absurd g (by simp), fun _ => ⟨⟨hn, hl⟩, .ptr p 0, topH h, rfl, k1, ?_⟩⟩)
  rw [k2]
  rintro h5 rfl
  show ∃ l10, ald ctx 9 h5 (.ptr p (0 + 0 + 0)) = some (.str l10) ∧ _
  refine ⟨s, ald_one ty9 rfl hg rfl, .ptr p 0, topH h5, rfl, k1, ?_⟩
  rw [k2]
  rintro h13 rfl
  show ∃ x18, ald ctx 3 h13 (.ptr p (0 + 0 + 1)) = some (.int .i64 x18) ∧ _
  exact ⟨x, ald_one ty3 rfl hg rfl, hq⟩

end Go.Proofs.YtamddelaigcnkaaGreat

namespace Go.Proofs.YtamddelaigcnkaaGreat
open Go.Sim

/-- The closure, called as a deferred one. -/
theorem vd55 (a0 : V) (a1 : V) (h : H) (k : H → Prop) : wpC Tryz.prog ctx false b55 ⟨15, setArgs [a0, a1] 0 (Tb.leaf undefV), [], h⟩ (endV ctx ⟨15, [], b55⟩ k) = (wpFA ctx 27 0 h a0 (fun v0 h1 => ∃ (x2 : Int), ald ctx 23 h1 v0 = some (.int .i64 x2) ∧ ((x2 ≠ (0 : Int) → ∃ (v3 : V), ald ctx 80 h1 a1 = some v3 ∧ RF Tryz.prog ctx 38 [v3] h1 (fun v4 h5 => ∃ (b6 : Bool), v4 = (.bool b6) ∧ ((b6 = true → ([] = ([] : List AD) ∧ k h5)) ∧ (b6 = false → ∃ (v7 : V), ald ctx 80 h5 a1 = some v7 ∧ ∃ (x8 : Int) (x9 : Int), ald ctx 27 h5 a0 = some (.agg [(.int .i64 x8), (.int .i64 x9)]) ∧ ∃ v10 h11, aop ctx ⟨none, .nilCheck (t 0), 0, "", #[], none⟩ (fun _ => some v7) h5 = some (.val v10 h11) ∧ wpFA ctx 86 0 h11 v10 (fun v12 h13 => wpFA ctx 50 2 h13 v12 (fun v14 h15 => ∃ h16, ast ctx 27 h15 v14 (.agg [(.int .i64 x8), (.int .i64 x9)]) = some h16 ∧ ([] = ([] : List AD) ∧ k h16))))))) ∧ (¬(x2 ≠ (0 : Int)) → ([] = ([] : List AD) ∧ k h1))))) := by kernel_rfl

def oP (p : Nat) : O := .cells (.ls [.ptr p 0]) ⟨0, 81, 0⟩ true false
def oF (e y : Int) : O := .cells (.ls [.int .i64 e, .int .i64 y]) ⟨0, 28, 0⟩ true false

set_option maxRecDepth 100000 in
/-- The closure: it keeps the fault. -/
theorem keep_ok {p q r n : Nat} {s : List UInt8} {x e y : Int} {h : H} {k : H → Prop} (hr : h.get r = some (oR s x 0 0)) (hf : h.get p = some (oF e y)) (hp : h.get q = some (oP r)) (hn : 15 ≠ n)
    (hk : ∀ h', h' = (if e = 0 then h else h.upd r (some (oR s x e y))) → k h') : RV P ctx n 55 [.ptr p 0, .ptr q 0] h k := by
  refine ⟨_, fn55, ble _ _ rfl, ble _ _ rfl, hn, Eq.mpr (vd55 _ _ h k) ?_⟩
  show ∃ x2, ald ctx 23 h (.ptr p (0 + 0)) = some (.int .i64 x2) ∧ _
  refine ⟨e, ald_one ty23 rfl hf rfl, fun c => ?_, fun c => ⟨rfl, hk h (by rw [if_pos (Classical.not_not.1 c)])⟩⟩
  refine ⟨.ptr r 0, ald_one ty80 rfl hp rfl, bad_ok hr ⟨_, rfl, fun g => absurd g (by simp), fun _ => ?_⟩⟩
  refine ⟨.ptr r 0, ald_one ty80 rfl hp rfl, e, y, ald_agg ty27 rfl hf rfl, .ptr r 0, h, rfl, ?_⟩
  show ∃ h16, ast ctx 27 h (.ptr r (0 + 0 + 2)) (.agg [.int .i64 e, .int .i64 y]) = some h16 ∧ _
  exact ⟨_, ast_at ty27 hr rfl (Nat.zero_le _) rfl rfl, rfl, hk _ (by rw [if_neg c]; rfl)⟩

end Go.Proofs.YtamddelaigcnkaaGreat

namespace Go.Proofs.YtamddelaigcnkaaGreat
open Go.Sim

theorem lenB_eq : ∀ (l : List UInt8) (n : Nat), lenB l n = n + l.length
  | [], n => by simp [lenB]
  | _ :: l, n => by rw [lenB, lenB_eq l]; simp; omega

/-- A string's slice. -/
theorem slice_str {s : List UInt8} {x y : Nat} {h : H} (h1 : x ≤ y) (h2 : y ≤ s.length) :
    aslice ctx 9 h (.str s) (some (.int .i64 x)) (some (.int .i64 y)) none = some (.str (sliceS s x y)) := by
  unfold aslice
  have e1 : asNatI (x : Int) = some x := rfl
  have e2 : asNatI (y : Int) = some y := rfl
  have e3 : lenB s 0 = s.length := by rw [lenB_eq]; omega
  simp only [ty9, Go.Sim.bnd, e1, e2, e3]
  rw [Nat.ble_eq_true_of_le h2, cond_true]
  simp only
  rw [Nat.ble_eq_true_of_le h1, cond_true]

set_option maxRecDepth 100000 in
/-- Bytes read: so many, or none, and the fault. -/
theorem bytes_ok {r n x : Nat} {s : List UInt8} {h : H} {Q : V → H → Prop} (hr : h.get r = some (oR s x 0 0)) (hr0 : r < h.next) (hn : h.next + 2 ≤ T.top) (hl : h.low ≤ T.top) (hx : x ≤ s.length) (hs : s.length < 4611686018427387904) (hn2 : n < 4611686018427387904)
    (hq : ∀ h', ExtX (· = r) h h' 2 → (x + n ≤ s.length → h'.get r = some (oR s ((x + n : Nat) : Int) 0 0) → Q (.str (sliceS s x (x + n))) h') ∧ (s.length < x + n → h'.get r = some (oR s x 5 s.length) → Q (.str []) h')) : RF P ctx 37 [.ptr r 0, .int .i64 n] h Q := by
  refine RF.enterDE ctx_ok fn37 (ble _ _ rfl) (ble _ _ rfl) (vb37 (.ptr r 0) n h Q) ⟨rfl, by omega, ?_⟩
  rintro p h1 rfl e1
  have n1 : h1.next = h.next + 1 := by rw [e1, new_next]
  have x1 : Ext h h1 1 := by rw [e1]; exact Ext.new _ (by omega)
  have g1 : h1.get h.next = some (oP r) := by rw [e1]; exact get_new_self _ (by omega)
  clear e1
  refine ⟨by omega, ?_⟩
  rintro p2 h3 rfl e3
  have n3 : h3.next = h1.next + 1 := by rw [e3, new_next]
  have x3 : Ext h1 h3 1 := by rw [e3]; exact Ext.new _ (by omega)
  have g3 : h3.get h1.next = some (oF 0 0) := by rw [e3]; exact get_new_self _ (by omega)
  clear e3
  have gp : h3.get h.next = some (oP r) := by rw [x3.get _ (by omega)]; exact g1
  have gr : h3.get r = some (oR s x 0 0) := by rw [x3.get _ (by omega), x1.get _ (by omega)]; exact hr
  have x13 : Ext h h3 2 := (x1.trans x3).mono (by omega)
  have l3 : h3.low ≤ T.top := Nat.le_trans x13.low hl
  have nn3 : h3.next ≤ T.top := by omega
  obtain ⟨k1, k2⟩ := low_id nn3 l3
  refine ⟨rfl, .ptr r 0, ald_one ty80 rfl gp rfl, bad_ok gr ⟨_, rfl, fun g => absurd g (by simp), fun _ => ⟨fun c => absurd c (by omega), fun _ => ⟨.ptr r 0, ald_one ty80 rfl gp rfl, left_ok gr nn3 l3 ⟨_, rfl, fun c => ?_, fun c => ?_⟩⟩⟩⟩⟩
  · -- too short
    rw [w64_id (by omega) (by omega)] at c
    refine ⟨.ptr r 0, ald_one ty80 rfl gp rfl, .ptr r 0, h3, rfl, ?_⟩
    show ∃ l28, ald ctx 9 h3 (.ptr r (0 + 0 + 0)) = some (.str l28) ∧ _
    refine ⟨s, ald_one ty9 rfl gr rfl, ?_⟩
    obtain ⟨h4, e4, gf, x4, y4⟩ : ∃ h4, ast ctx 27 h3 (.ptr h1.next 0) (.agg [.int .i64 5, .int .i64 (Int.ofNat s.length)]) = some h4 ∧ h4.get h1.next = some (oF 5 s.length) ∧ (∀ i, i ≠ h1.next → h4.get i = h3.get i) ∧ ExtX (· = r) h h4 2 := ⟨_, ast_at ty27 g3 rfl (Nat.zero_le _) rfl rfl, get_upd_self _ (by omega), fun i hi => get_upd_ne _ (by omega) hi, (ExtX.of x13).upd _ (by omega) (.inr (by omega))⟩
    refine ⟨h4, e4, ?_⟩
    show RV P ctx 60 55 [.ptr h1.next 0, .ptr h.next 0] h4 _
    refine keep_ok (p := h1.next) (q := h.next) (r := r) (e := 5) (y := s.length) ((x4 _ (by omega)).trans gr) gf ((x4 _ (by omega)).trans gp) (by decide) ?_
    rintro h5 e5
    rw [if_neg (by decide)] at e5
    show Q (.str []) h5
    refine (hq h5 ?_).2 (by omega) ?_
    · rw [e5]; exact y4.upd _ (by omega) (.inl rfl)
    · rw [e5]; exact get_upd_self _ (by omega)
  · -- as many as that
    rw [w64_id (by omega) (by omega)] at c
    refine ⟨⟨nn3, l3⟩, .ptr r 0, ald_one ty80 rfl gp rfl, .ptr r 0, topH h3, rfl, k1, ?_⟩
    rw [k2]
    rintro h33 rfl
    show ∃ l38, ald ctx 9 h33 (.ptr r (0 + 0 + 0)) = some (.str l38) ∧ _
    refine ⟨s, ald_one ty9 rfl gr rfl, .ptr r 0, ald_one ty80 rfl gp rfl, .ptr r 0, topH h33, rfl, k1, ?_⟩
    rw [k2]
    rintro h42 rfl
    show ∃ x47, ald ctx 3 h42 (.ptr r (0 + 0 + 1)) = some (.int .i64 x47) ∧ _
    refine ⟨x, ald_one ty3 rfl gr rfl, .ptr r 0, ald_one ty80 rfl gp rfl, .ptr r 0, topH h42, rfl, k1, ?_⟩
    rw [k2]
    rintro h51 rfl
    show ∃ x56, ald ctx 3 h51 (.ptr r (0 + 0 + 1)) = some (.int .i64 x56) ∧ _
    refine ⟨x, ald_one ty3 rfl gr rfl, sliceS s x (x + n), ?_, .ptr r 0, ald_one ty80 rfl gp rfl, .ptr r 0, h51, rfl, ?_⟩
    · rw [w64_id (by omega) (by omega)]
      exact slice_str (by omega) (by omega)
    show ∃ x65, ald ctx 3 h51 (.ptr r (0 + 0 + 1)) = some (.int .i64 x65) ∧ _
    refine ⟨x, ald_one ty3 rfl gr rfl, .ptr r 0, h51, rfl, ?_⟩
    rw [w64_id (by omega) (by omega)]
    show ∃ h72, ast ctx 3 h51 (.ptr r (0 + 0 + 1)) (.int .i64 ((x : Int) + (n : Int))) = some h72 ∧ _
    obtain ⟨h4, e4, gf, x4, y4⟩ : ∃ h4, ast ctx 3 h51 (.ptr r (0 + 0 + 1)) (.int .i64 ((x : Int) + (n : Int))) = some h4 ∧ h4.get r = some (oR s ((x + n : Nat) : Int) 0 0) ∧ (∀ i, i ≠ r → h4.get i = h51.get i) ∧ ExtX (· = r) h h4 2 := ⟨_, ast_at ty3 gr rfl (Nat.zero_le _) rfl rfl, get_upd_self _ (by omega), fun i hi => get_upd_ne _ (by omega) hi, (ExtX.of x13).upd _ (by omega) (.inl rfl)⟩
    refine ⟨h4, e4, ?_⟩
    show RV P ctx 60 55 [.ptr h1.next 0, .ptr h.next 0] h4 _
    refine ⟨_, fn55, ble _ _ rfl, ble _ _ rfl, by decide, Eq.mpr (vd55 _ _ h4 _) ?_⟩
    show ∃ x2, ald ctx 23 h4 (.ptr h1.next (0 + 0)) = some (.int .i64 x2) ∧ _
    refine ⟨0, ald_one ty23 rfl ((x4 _ (by omega)).trans g3) rfl, fun c => absurd rfl c, fun _ => ⟨rfl, ?_⟩⟩
    show Q (.str (sliceS s x (x + n))) h4
    exact (hq h4 y4).1 (by omega) gf

end Go.Proofs.YtamddelaigcnkaaGreat

namespace Go.Proofs.YtamddelaigcnkaaGreat
open Go.Sim

theorem loop_wp {b : Bool} {x : Code} {n : Nat} {tm : Tm} {d : List AD} {h : H} {Q : AX → St → Prop} (I : Nat → Tm → H → Prop) (k : Nat) (h0 : I k tm h)
    (hI : ∀ k tm h, I k tm h → wpC P ctx b x ⟨n, tm, d, h⟩ (thenC (fun s1 => s1.n = n ∧ s1.dfr = d ∧ ∃ j, j < k ∧ I j s1.tm s1.heap) Q)) : wpC P ctx b (.loop x) ⟨n, tm, d, h⟩ Q := ⟨I, ⟨k, h0⟩, hI⟩

theorem exitB_same (i : Nat) : exitB i (.exit i) = .normal := by simp [exitB]

/-- Behind a loop that was left. -/
theorem exit_wp {i : Nat} {K I : St → Prop} {R : AX → St → Prop} {s : St} (h : K s) : thenC I (fun e s1 => thenC K R (exitB i e) s1) (.exit i) s := by
  show thenC K R (exitB i (.exit i)) s
  rw [exitB_same]
  exact h

theorem byteAt_get : ∀ (l : List UInt8) (i : Nat), byteAt l i = l[i]?
  | [], _ => rfl
  | _ :: _, 0 => rfl
  | _ :: l, i + 1 => by rw [byteAt, byteAt_get l i]; rfl

theorem index_str {l : List UInt8} {i : Nat} {b : UInt8} (h : l[i]? = some b) : aindex ctx 9 (.str l) (.int .i64 (i : Int)) = some (.int .u8 ((b.toNat : Nat) : Int)) := by
  unfold aindex
  have e1 : asNatI (i : Int) = some i := rfl
  simp only [e1, ty9, byteAt_get, h]
  rfl

theorem endW_cell {n m a t p o : Nat} {tm : Tm} {h : H} {Q : V → H → Prop} {v : V} {body : Code} (hp : getV tm a = .ptr p o) (ha : ald ctx t h (.ptr p o) = some v) (hq : Q v h) : endW ctx ⟨n, [.cell a t], body⟩ Q .ret ⟨m, tm, [], h⟩ := by
  show (match leave ctx _ tm h [.cell a t] [] with | some vs => Q (tupled vs) h | none => False)
  simp only [leave, hp, ha]
  exact hq

theorem endW_cell2 {n m a t p o a2 : Nat} {tm : Tm} {h : H} {Q : V → H → Prop} {v w : V} {body : Code} (hp : getV tm a = .ptr p o) (ha : ald ctx t h (.ptr p o) = some v) (h2 : getV tm a2 = w) (hq : Q (.tuple [v, w]) h) : endW ctx ⟨n, [.cell a t, .tmp a2], body⟩ Q .ret ⟨m, tm, [], h⟩ := by
  show (match leave ctx _ tm h [.cell a t, .tmp a2] [] with | some vs => Q (tupled vs) h | none => False)
  simp only [leave, hp, ha, h2]
  exact hq

theorem unle_take {l : List UInt8} {i : Nat} {b : UInt8} (h : l[i]? = some b) : unle (l.take (i + 1)) = unle (l.take i) + b.toNat * 256 ^ i := by
  have hi := (List.getElem?_eq_some_iff.1 h).1
  rw [List.take_add_one, h, Option.toList_some, unle_app, List.length_take, Nat.min_eq_left (by omega)]

theorem pow8 (i : Nat) : 2 ^ (8 * i) = 256 ^ i := by rw [Nat.pow_mul]

set_option maxRecDepth 100000 in
theorem number_ok {l : List UInt8} {h : H} {Q : V → H → Prop} (hl : l.length ≤ 6) (hq : Q (.int .u64 (unle l : Nat)) h) : RF P ctx 36 [.str l] h Q := by
  refine RF.enterE ctx_ok fn36 (ble _ _ rfl) (ble _ _ rfl) (vb36 l h Q) ⟨fun c => ?_, fun _ => ⟨fun c => ?_, fun _ => ?_⟩⟩
  · have : (l.length : Int) = 8 := c
    omega
  · have : (l.length : Int) = 7 := c
    omega
  refine loop_wp (fun k tm h' => ∃ i : Nat, i ≤ l.length ∧ k = l.length - i ∧ h' = h ∧ getV tm 26 = .int .i64 i ∧ getV tm 25 = .int .i64 (l.length : Int) ∧ getV tm 3 = .int .u64 (unle (l.take i) : Nat) ∧ getV tm 0 = .str l) l.length ?_ ?_
  · refine ⟨0, by omega, by omega, rfl, by kernel_rfl, ?_, by kernel_rfl, by kernel_rfl⟩
    have e : min (Int.ofNat l.length) 6 = (l.length : Int) := by
      have : (Int.ofNat l.length) = (l.length : Int) := rfl
      omega
    exact Eq.trans (b := V.int .i64 (min (Int.ofNat l.length) 6)) (by kernel_rfl) (congrArg _ e)
  · rintro k tm h' ⟨i, h2, rfl, rfl, t26, t25, t3, t0⟩
    rw [tm4 rfl t26 t25 t3 t0]
    refine wpC.seal _ (vl36_0 _ _ _ _ _ _ _ _) ⟨fun c => ?_, fun c tmz q2 _ _ q3 _ => ?_⟩
    · have hi : i < l.length := by omega
      obtain ⟨b, hb⟩ : ∃ b, l[i]? = some b := ⟨l[i], List.getElem?_eq_getElem hi⟩
      have hb2 := b.toNat_lt
      have hp : 256 ^ (i + 1) ≤ 256 ^ 6 := Nat.pow_le_pow_right (by decide) (by omega)
      have hp2 : b.toNat * 256 ^ i ≤ 255 * 256 ^ i := Nat.mul_le_mul_right _ (by omega)
      have hp3 : 256 ^ (i + 1) = 256 ^ i * 256 := Nat.pow_succ _ _
      have hu := unle_lt (l.take i)
      rw [List.length_take, Nat.min_eq_left h2] at hu
      have hn6 : (256 : Nat) ^ 6 = 281474976710656 := by decide
      have hw : w64 ((8 : Int) * (i : Int)) = ((8 * i : Nat) : Int) := by rw [w64_id (by omega) (by omega)]; omega
      refine ⟨_, index_str hb, ((b.toNat * 2 ^ (8 * i) : Nat) : Int), ?_, ((unle (l.take (i + 1)) : Nat) : Int), ?_, ?_⟩
      · rw [wrapN_u64 (by omega), hw]
        exact shlN_u64 (by omega) (by rw [pow8]; omega)
      · rw [orN_u64 (by omega) (by rw [pow8]; omega), or_add (by rw [pow8]; exact hu), pow8, unle_take hb]
      · intro tmn _ q26 q25 q3 q0
        refine ⟨rfl, rfl, l.length - (i + 1), by omega, i + 1, by omega, rfl, rfl, ?_, q25, q3, q0⟩
        rw [q26, w64_id (by omega) (by omega)]; rfl
    · have hi : i = l.length := by omega
      subst hi
      rw [List.take_length] at q3
      refine exit_wp ?_
      show wpC P ctx false r36_1 ⟨40, tmz, [], h'⟩ _
      refine wpC.seal _ (vr36_1 _ _ _ _) fun tm2 p2 _ _ p3 _ => ?_
      show wpC P ctx false r36_2 ⟨40, tm2, [], h'⟩ _
      rw [tm1 rfl (p3.trans q3)]
      refine wpC.seal _ (vr36_2 _ _ _ _ _) fun tm3 p2 _ _ _ _ => ?_
      show Q (getV tm3 2) h'
      rw [p2]
      exact hq

end Go.Proofs.YtamddelaigcnkaaGreat

namespace Go.Proofs.YtamddelaigcnkaaGreat
open Go.Sim

theorem plain_cur (s : List UInt8) (x e y : Int) : Plain (.agg (cur s x e y)) := plain_agg fun v hv => by
  simp only [cur, List.mem_cons, List.not_mem_nil, or_false] at hv
  rcases hv with rfl | rfl | rfl | rfl
  · exact plain_str _
  all_goals exact plain_int _ _

theorem plain2 {a b : V} (ha : Plain a) (hb : Plain b) : Plain (.tuple [a, b]) := plain_tuple fun v hv => by
  simp only [List.mem_cons, List.not_mem_nil, or_false] at hv
  rcases hv with rfl | rfl
  · exact ha
  · exact hb

theorem all1 {a : V} (ha : Plain a) : ∀ v ∈ [a], Plain v := fun v hv => by
  simp only [List.mem_cons, List.not_mem_nil, or_false] at hv
  subst hv; exact ha
theorem all2 {a b : V} (ha : Plain a) (hb : Plain b) : ∀ v ∈ [a, b], Plain v := fun v hv => by
  simp only [List.mem_cons, List.not_mem_nil, or_false] at hv
  rcases hv with rfl | rfl
  · exact ha
  · exact hb
theorem all3 {a b c : V} (ha : Plain a) (hb : Plain b) (hc : Plain c) : ∀ v ∈ [a, b, c], Plain v := fun v hv => by
  simp only [List.mem_cons, List.not_mem_nil, or_false] at hv
  rcases hv with rfl | rfl | rfl
  · exact ha
  · exact hb
  · exact hc

set_option maxRecDepth 100000 in
theorem done_ok {r : Nat} {s : List UInt8} {x e y n : Int} {h : H} {Q : V → H → Prop} (hr : h.get r = some (oR s x e y)) (hr0 : r < h.next) (hn : h.next + 1 ≤ T.top)
    (hq : ∀ h' n', Ext h h' 1 → (e = 0 → n' = n) → (e ≠ 0 → n' = 0) → Q (.tuple [.agg (cur s x e y), .int .i64 n']) h') : RF P ctx 35 [.ptr r 0, .int .i64 n] h Q := by
  refine RF.enterE ctx_ok fn35 (ble _ _ rfl) (ble _ _ rfl) (vb35 _ n h Q) ⟨by omega, ?_⟩
  rintro p h1 rfl e1
  have n1 : h1.next = h.next + 1 := by rw [e1, new_next]
  have x1 : Ext h h1 1 := by rw [e1]; exact Ext.new _ (by omega)
  have g1 : h1.get h.next = some (oC [] 0 0 0) := by rw [e1]; exact get_new_self _ (by omega)
  clear e1
  have gr : h1.get r = some (oR s x e y) := by rw [x1.get _ (by omega)]; exact hr
  refine bad_ok gr ⟨_, rfl, fun c => ?_, fun c => ?_⟩
  · have c : e ≠ 0 := by simpa using c
    refine ⟨.ptr r 0, h1, rfl, ?_⟩
    show ∃ l9 x10 x11 x12, ald ctx 50 h1 (.ptr r (0 + 0)) = some (.agg [.str l9, .int .i64 x10, .int .i64 x11, .int .i64 x12]) ∧ _
    refine ⟨s, x, e, y, ald_agg ty50 rfl gr rfl, _, ast_at ty50 g1 rfl (Nat.zero_le _) rfl rfl, ?_⟩
    refine endW_cell2 (p := h.next) (o := 0) (v := .agg (cur s x e y)) (w := .int .i64 0) (by kernel_rfl) (ald_agg ty50 rfl (get_upd_self _ (by omega)) rfl) (by kernel_rfl) ?_
    exact hq _ 0 (x1.upd (some (oC s x e y)) (show h.next < T.top by omega) (Nat.le_refl _)) (fun g => absurd g c) fun _ => rfl
  · have c : e = 0 := by simpa using c
    refine ⟨.ptr r 0, h1, rfl, ?_⟩
    show ∃ l9 x10 x11 x12, ald ctx 50 h1 (.ptr r (0 + 0)) = some (.agg [.str l9, .int .i64 x10, .int .i64 x11, .int .i64 x12]) ∧ _
    refine ⟨s, x, e, y, ald_agg ty50 rfl gr rfl, _, ast_at ty50 g1 rfl (Nat.zero_le _) rfl rfl, ?_⟩
    refine endW_cell2 (p := h.next) (o := 0) (v := .agg (cur s x e y)) (w := .int .i64 n) (by kernel_rfl) (ald_agg ty50 rfl (get_upd_self _ (by omega)) rfl) (by kernel_rfl) ?_
    exact hq _ n (x1.upd (some (oC s x e y)) (show h.next < T.top by omega) (Nat.le_refl _)) (fun _ => rfl) fun g => absurd c g

set_option maxRecDepth 100000 in
theorem new_ok {s : List UInt8} {x : Int} {h : H} {Q : V → H → Prop} (h0 : 0 ≤ x) (h1 : x ≤ s.length) (hq : Q (.agg (cur s x 0 0)) h) : RF P ctx 20 [.str s, .int .i64 x] h Q := by
  refine RF.plain ?_ (all2 (plain_str _) (plain_int _ _))
  refine RF.enterE ctx_ok fn20 (ble _ _ rfl) (ble _ _ rfl) (vb20 s x H0 _) ⟨by decide, ?_⟩
  rintro p h2 rfl e2
  have g2 : h2.get H0.next = some (oC [] 0 0 0) := by rw [e2]; exact get_new_self _ (by decide)
  refine ⟨fun c => absurd c (by omega), fun _ => ⟨fun c => absurd (show (s.length : Int) < x from c) (by omega), fun _ => ?_⟩⟩
  refine ⟨_, ast_at ty50 g2 rfl (Nat.zero_le _) rfl rfl, ?_⟩
  refine endW_cell (p := H0.next) (o := 0) (by kernel_rfl) (ald_agg ty50 rfl (get_upd_self _ (by decide)) rfl) ?_
  exact ⟨plain_cur _ _ _ _, hq⟩

/-- The byte at an offset; 0 at the end. -/
def hb (s : List UInt8) (x : Nat) : Nat := match s[x]? with | some b => b.toNat | none => 0
theorem hb_lt (s : List UInt8) (x : Nat) : hb s x < 256 := by
  unfold hb
  split
  · rename_i b _; exact b.toNat_lt
  · decide
theorem hb_some {s : List UInt8} {x : Nat} {b : UInt8} (h : s[x]? = some b) : hb s x = b.toNat := by unfold hb; rw [h]
theorem hb_none {s : List UInt8} {x : Nat} (h : s[x]? = none) : hb s x = 0 := by unfold hb; rw [h]

set_option maxRecDepth 100000 in
/-- A byte read. -/
theorem byte_ok {s : List UInt8} {x : Nat} {h : H} {Q : V → H → Prop} (hx : x ≤ s.length) (hs : s.length < 4611686018427387904)
    (hq : ∀ (x' e y : Nat), Q (.tuple [.agg (cur s x' e y), .int .i64 (hb s x : Nat)]) h) : RF P ctx 19 [.agg (cur s x 0 0)] h Q := by
  refine RF.plain ?_ (all1 (plain_cur _ _ _ _))
  refine RF.enterE ctx_ok fn19 (ble _ _ rfl) (ble _ _ rfl) (vb19 s x 0 0 H0 _) ⟨by decide, ?_⟩
  rintro p h1 rfl e1
  have n1 : h1.next = H0.next + 1 := by rw [e1, new_next]
  have x1 : Ext H0 h1 1 := by rw [e1]; exact Ext.new _ (by decide)
  have g1 : h1.get H0.next = some (oC s x 0 0) := by rw [e1]; exact get_new_self _ (by decide)
  clear e1
  have z0 : H0.next = 0 := rfl
  have zl : H0.low = T.top := rfl
  have zt : 1000 < T.top := by decide
  refine ⟨by omega, ?_⟩
  rintro p2 h3 rfl e3
  have n3 : h3.next = h1.next + 1 := by rw [e3, new_next]
  have x3 : Ext h1 h3 1 := by rw [e3]; exact Ext.new _ (by omega)
  have g3 : h3.get h1.next = some (oC [] 0 0 0) := by rw [e3]; exact get_new_self _ (by omega)
  clear e3
  have g13 : h3.get H0.next = some (oC s x 0 0) := by rw [x3.get _ (by omega)]; exact g1
  refine ⟨s, x, 0, 0, ald_agg ty50 rfl g13 rfl, of_ok (by omega) (by omega) (by omega) fun h9 r x9 r0 r1 gr => ⟨_, rfl, ?_⟩⟩
  have n9 := x9.top
  have m9 := x9.le
  have g9 : h9.get h1.next = some (oC [] 0 0 0) := by rw [x9.get _ (by omega)]; exact g3
  have l9 := x9.low
  have l3 := x3.low
  have l1 := x1.low
  refine bytes_ok (x := x) (n := 1) gr r1 (by omega) (by omega) hx hs (by decide) fun h12 x12 => ⟨fun c g => ⟨_, rfl, ?_⟩, fun c g => ⟨_, rfl, ?_⟩⟩
  · have n12 := x12.top
    have m12 := x12.le
    have g12 : h12.get h1.next = some (oC [] 0 0 0) := by rw [x12.get _ (by omega) (by omega)]; exact g9
    refine number_ok (by simp [sliceS]; omega) ⟨_, rfl, ?_⟩
    refine done_ok g (by omega) (by omega) fun h18 n' x18 n0 n1' => ⟨_, _, _, _, _, rfl, ?_⟩
    have g18 : h18.get h1.next = some (oC [] 0 0 0) := by rw [x18.get _ (by omega)]; exact g12
    refine ⟨_, ast_at ty50 g18 rfl (Nat.zero_le _) rfl rfl, ?_⟩
    refine endW_cell2 (p := h1.next) (o := 0) (w := .int .i64 n') (by kernel_rfl) (ald_agg ty50 rfl (get_upd_self _ (by omega)) rfl) (by kernel_rfl) ?_
    obtain ⟨b, hb⟩ : ∃ b, s[x]? = some b := ⟨s[x], List.getElem?_eq_getElem (by omega)⟩
    have hb2 := b.toNat_lt
    have e : sliceS s x (x + 1) = [b] := by
      show (s.drop x).take (x + 1 - x) = [b]
      rw [Nat.add_sub_cancel_left, List.take_one, List.head?_drop, hb]; rfl
    have eu : unle (sliceS s x (x + 1)) = b.toNat := by rw [e]; simp [unle]
    rw [n0 rfl, eu, w64_id (by omega) (by omega)]
    exact ⟨plain2 (plain_cur _ _ _ _) (plain_int _ _), by have := hq (x + 1) 0 0; rw [hb_some hb] at this; exact this⟩
  · have n12 := x12.top
    have m12 := x12.le
    have g12 : h12.get h1.next = some (oC [] 0 0 0) := by rw [x12.get _ (by omega) (by omega)]; exact g9
    refine number_ok (by simp) ⟨_, rfl, ?_⟩
    refine done_ok g (by omega) (by omega) fun h18 n' x18 n0 n1' => ⟨_, _, _, _, _, rfl, ?_⟩
    have g18 : h18.get h1.next = some (oC [] 0 0 0) := by rw [x18.get _ (by omega)]; exact g12
    refine ⟨_, ast_at ty50 g18 rfl (Nat.zero_le _) rfl rfl, ?_⟩
    refine endW_cell2 (p := h1.next) (o := 0) (w := .int .i64 n') (by kernel_rfl) (ald_agg ty50 rfl (get_upd_self _ (by omega)) rfl) (by kernel_rfl) ?_
    rw [n1' (by decide)]
    exact ⟨plain2 (plain_cur _ _ _ _) (plain_int _ _), by have := hq x 5 s.length; rw [hb_none (s := s) (x := x) (List.getElem?_eq_none (by omega))] at this; exact this⟩

end Go.Proofs.YtamddelaigcnkaaGreat

namespace Go.Proofs.YtamddelaigcnkaaGreat
open Go.Sim

set_option maxRecDepth 100000 in
/-- A number read. -/
theorem little_ok {s : List UInt8} {x n : Nat} {h : H} {Q : V → H → Prop} (hx : x ≤ s.length) (hs : s.length < 4611686018427387904) (hn : 1 ≤ n ∧ n ≤ 6)
    (hq : ∀ (x' e y v : Nat), (x + n ≤ s.length → x' = x + n ∧ e = 0 ∧ y = 0 ∧ v = unle (sliceS s x (x + n))) → (s.length < x + n → e = 5 ∧ v = 0) → Q (.tuple [.agg (cur s x' e y), .int .u64 v]) h) : RF P ctx 22 [.agg (cur s x 0 0), .int .i64 n] h Q := by
  refine RF.plain ?_ (all2 (plain_cur _ _ _ _) (plain_int _ _))
  refine RF.enterE ctx_ok fn22 (ble _ _ rfl) (ble _ _ rfl) (vb22 s x 0 0 n H0 _) ⟨by decide, ?_⟩
  rintro p h1 rfl e1
  have n1 : h1.next = H0.next + 1 := by rw [e1, new_next]
  have x1 : Ext H0 h1 1 := by rw [e1]; exact Ext.new _ (by decide)
  have g1 : h1.get H0.next = some (oC s x 0 0) := by rw [e1]; exact get_new_self _ (by decide)
  clear e1
  have z0 : H0.next = 0 := rfl
  have zl : H0.low = T.top := rfl
  have zt : 1000 < T.top := by decide
  refine ⟨by omega, ?_⟩
  rintro p2 h3 rfl e3
  have n3 : h3.next = h1.next + 1 := by rw [e3, new_next]
  have x3 : Ext h1 h3 1 := by rw [e3]; exact Ext.new _ (by omega)
  have g3 : h3.get h1.next = some (oC [] 0 0 0) := by rw [e3]; exact get_new_self _ (by omega)
  clear e3
  have g13 : h3.get H0.next = some (oC s x 0 0) := by rw [x3.get _ (by omega)]; exact g1
  refine ⟨s, x, 0, 0, ald_agg ty50 rfl g13 rfl, of_ok (by omega) (by omega) (by omega) fun h9 r x9 r0 r1 gr => ⟨_, rfl, ?_⟩⟩
  have n9 := x9.top
  have m9 := x9.le
  have g9 : h9.get h1.next = some (oC [] 0 0 0) := by rw [x9.get _ (by omega)]; exact g3
  have l9 := x9.low
  have l3 := x3.low
  have l1 := x1.low
  refine bad_ok gr ⟨_, rfl, fun g => absurd g (by simp), fun _ => ⟨fun c => absurd c (by omega), fun _ => ⟨fun c => absurd c (by omega), fun _ => ?_⟩⟩⟩
  refine bytes_ok (x := x) (n := n) gr r1 (by omega) (by omega) hx hs (by omega) fun h12 x12 => ⟨fun c g => ⟨_, rfl, ?_⟩, fun c g => ⟨_, rfl, ?_⟩⟩
  · have n12 := x12.top
    have m12 := x12.le
    have l12 := x12.low
    have g12 : h12.get h1.next = some (oC [] 0 0 0) := by rw [x12.get _ (by omega) (by omega)]; exact g9
    have nn : h12.next ≤ T.top := by omega
    have ll : h12.low ≤ T.top := by omega
    obtain ⟨k1, k2⟩ := low_id nn ll
    refine ⟨⟨nn, ll⟩, .ptr r 0, topH h12, rfl, k1, ?_⟩
    rw [k2]
    rintro h98 rfl
    show ∃ l101 x102 x103 x104, ald ctx 50 h98 (.ptr r (0 + 0)) = some (.agg [.str l101, .int .i64 x102, .int .i64 x103, .int .i64 x104]) ∧ _
    refine ⟨s, ((x + n : Nat) : Int), 0, 0, ald_agg ty50 rfl g rfl, number_ok (by simp [sliceS]; omega) ⟨_, rfl, k1, ?_⟩⟩
    rw [k2]
    rintro h108 rfl
    refine ⟨_, ast_at ty50 g12 rfl (Nat.zero_le _) rfl rfl, ?_⟩
    refine endW_cell2 (p := h1.next) (o := 0) (w := .int .u64 ((unle (sliceS s x (x + n)) : Nat) : Int)) (by kernel_rfl) (ald_agg ty50 rfl (get_upd_self _ (by omega)) rfl) (by kernel_rfl) ?_
    exact ⟨plain2 (plain_cur _ _ _ _) (plain_int _ _), hq (x + n) 0 0 _ (fun _ => ⟨rfl, rfl, rfl, rfl⟩) fun g => absurd g (by omega)⟩
  · have n12 := x12.top
    have m12 := x12.le
    have l12 := x12.low
    have g12 : h12.get h1.next = some (oC [] 0 0 0) := by rw [x12.get _ (by omega) (by omega)]; exact g9
    have nn : h12.next ≤ T.top := by omega
    have ll : h12.low ≤ T.top := by omega
    obtain ⟨k1, k2⟩ := low_id nn ll
    refine ⟨⟨nn, ll⟩, .ptr r 0, topH h12, rfl, k1, ?_⟩
    rw [k2]
    rintro h98 rfl
    show ∃ l101 x102 x103 x104, ald ctx 50 h98 (.ptr r (0 + 0)) = some (.agg [.str l101, .int .i64 x102, .int .i64 x103, .int .i64 x104]) ∧ _
    refine ⟨s, x, 5, s.length, ald_agg ty50 rfl g rfl, number_ok (by simp) ⟨_, rfl, k1, ?_⟩⟩
    rw [k2]
    rintro h108 rfl
    refine ⟨_, ast_at ty50 g12 rfl (Nat.zero_le _) rfl rfl, ?_⟩
    refine endW_cell2 (p := h1.next) (o := 0) (w := .int .u64 0) (by kernel_rfl) (ald_agg ty50 rfl (get_upd_self _ (by omega)) rfl) (by kernel_rfl) ?_
    exact ⟨plain2 (plain_cur _ _ _ _) (plain_int _ _), hq x 5 s.length 0 (fun g => absurd g (by omega)) fun _ => ⟨rfl, rfl⟩⟩

def fm (a b c d e : Int) : List V := [.int .i64 a, .int .i64 b, .int .i64 c, .int .i64 d, .int .i64 e]
/-- The formats of a kind. -/
def fmA : List V := fm 1 3 5 0 0 ++ fm 2 4 12 0 0 ++ fm 1 3 5 0 0 ++ fm 3 4 20 0 0
def fmB : List V := fm 3 4 10 10 1 ++ fm 3 4 10 10 4 ++ fm 4 4 14 14 4 ++ fm 5 4 18 18 4

theorem plain_ints {l : List V} (h : l.all (fun v => match v with | .int _ _ => true | _ => false) = true) : Plain (.agg l) := plain_agg fun v hv => by
  have := List.all_eq_true.1 h v hv
  cases v <;> first | exact plain_int _ _ | cases this

/-- What a closed run answers. -/
def outV : Option CallOut → Option V
  | some (.ret v _) => some v
  | _ => none

theorem outV_iff {r : Option CallOut} {v : V} (h : outV r = some v) : ∃ h', r = some (.ret v h') := by
  unfold outV at h
  split at h
  · rename_i v' h'
    simp only [Option.some.injEq] at h
    subst h
    exact ⟨h', rfl⟩
  · cases h

theorem RF.closed {f : Nat} {args : List V} {v : V} {h : H} {Q : V → H → Prop} (hf : (ctx.fn.get f).isSome = true) (e : outV (run ctx noOrc 100 f args H0) = some v) (ha : ∀ a ∈ args, Plain a) (hv : Plain v) (hq : Q v h) : RF P ctx f args h Q := by
  obtain ⟨h', e⟩ := outV_iff e
  exact RF.plain ⟨v, h', ⟨Option.isSome_iff_exists.1 hf, run_sound ctx_ok (noOrc_ok _ _) e⟩, hv, hq⟩ ha

theorem fm0 : outV (run ctx noOrc 100 21 [.int .i64 0] H0) = some (.agg fmA) := by kernel_rfl
theorem fm1 : outV (run ctx noOrc 100 21 [.int .i64 1] H0) = some (.agg fmA) := by kernel_rfl
theorem fm2 : outV (run ctx noOrc 100 21 [.int .i64 2] H0) = some (.agg fmB) := by kernel_rfl
theorem fm3 : outV (run ctx noOrc 100 21 [.int .i64 3] H0) = some (.agg fmB) := by kernel_rfl

theorem formats_ok {k : Nat} {h : H} {Q : V → H → Prop} (hk : k < 4) (hq : Q (.agg (if k < 2 then fmA else fmB)) h) : RF P ctx 21 [.int .i64 k] h Q := by
  obtain rfl | rfl | rfl | rfl : k = 0 ∨ k = 1 ∨ k = 2 ∨ k = 3 := by omega
  · exact RF.closed (by kernel_rfl) fm0 (all1 (plain_int _ _)) (plain_ints rfl) hq
  · exact RF.closed (by kernel_rfl) fm1 (all1 (plain_int _ _)) (plain_ints rfl) hq
  · exact RF.closed (by kernel_rfl) fm2 (all1 (plain_int _ _)) (plain_ints rfl) hq
  · exact RF.closed (by kernel_rfl) fm3 (all1 (plain_int _ _)) (plain_ints rfl) hq

end Go.Proofs.YtamddelaigcnkaaGreat

namespace Go.Proofs.YtamddelaigcnkaaGreat
open Go.Sim

/-! The formats: bytes, where the first number begins, the bits of both, streams. -/
def fw (k i : Nat) : Nat := if k < 2 then (if i = 1 then 2 else if i = 3 then 3 else 1) else (if i < 2 then 3 else if i = 2 then 4 else 5)
def ff (k i : Nat) : Nat := if k < 2 then (if i = 1 then 4 else if i = 3 then 4 else 3) else 4
def fx (k i : Nat) : Nat := if k < 2 then (if i = 1 then 12 else if i = 3 then 20 else 5) else (if i < 2 then 10 else if i = 2 then 14 else 18)
def fy (k i : Nat) : Nat := if k < 2 then 0 else (if i < 2 then 10 else if i = 2 then 14 else 18)
def fz (k i : Nat) : Nat := if k < 2 then 0 else (if i = 0 then 1 else 4)

theorem fw_b (k i : Nat) : 1 ≤ fw k i ∧ fw k i ≤ 5 := by unfold fw; repeat' split
                                                         all_goals omega
theorem ff_b (k i : Nat) : ff k i ≤ 4 := by unfold ff; repeat' split
                                            all_goals omega
theorem fx_b (k i : Nat) : fx k i ≤ 20 := by unfold fx; repeat' split
                                             all_goals omega
theorem fy_b (k i : Nat) : fy k i ≤ 18 := by unfold fy; repeat' split
                                             all_goals omega
theorem fz_b (k i : Nat) : fz k i ≤ 4 := by unfold fz; repeat' split
                                            all_goals omega

theorem fmA0 : aindex ctx 56 (.agg fmA) (.int .i64 0) = some (.agg (fm 1 3 5 0 0)) := by kernel_rfl
theorem fmA1 : aindex ctx 56 (.agg fmA) (.int .i64 1) = some (.agg (fm 2 4 12 0 0)) := by kernel_rfl
theorem fmA2 : aindex ctx 56 (.agg fmA) (.int .i64 2) = some (.agg (fm 1 3 5 0 0)) := by kernel_rfl
theorem fmA3 : aindex ctx 56 (.agg fmA) (.int .i64 3) = some (.agg (fm 3 4 20 0 0)) := by kernel_rfl
theorem fmB0 : aindex ctx 56 (.agg fmB) (.int .i64 0) = some (.agg (fm 3 4 10 10 1)) := by kernel_rfl
theorem fmB1 : aindex ctx 56 (.agg fmB) (.int .i64 1) = some (.agg (fm 3 4 10 10 4)) := by kernel_rfl
theorem fmB2 : aindex ctx 56 (.agg fmB) (.int .i64 2) = some (.agg (fm 4 4 14 14 4)) := by kernel_rfl
theorem fmB3 : aindex ctx 56 (.agg fmB) (.int .i64 3) = some (.agg (fm 5 4 18 18 4)) := by kernel_rfl

/-- A format, as the program has it. -/
def fmt (k i : Nat) : List V := fm (fw k i) (ff k i) (fx k i) (fy k i) (fz k i)

set_option maxRecDepth 100000 in
theorem fm_at {k i : Nat} (hi : i < 4) : aindex ctx 56 (.agg (if k < 2 then fmA else fmB)) (.int .i64 (i : Int)) = some (.agg (fmt k i)) := by
  obtain rfl | rfl | rfl | rfl : i = 0 ∨ i = 1 ∨ i = 2 ∨ i = 3 := by omega
  all_goals
    by_cases hk : k < 2
    · simp only [fmt, fw, ff, fx, fy, fz, if_pos hk]
      first | exact fmA0 | exact fmA1 | exact fmA2 | exact fmA3
    · simp only [fmt, fw, ff, fx, fy, fz, if_neg hk]
      first | exact fmB0 | exact fmB1 | exact fmB2 | exact fmB3

theorem fm_list (k : Nat) : ∃ (y0 y1 y2 y3 y4 y5 y6 y7 y8 y9 y10 y11 y12 y13 y14 y15 y16 y17 y18 y19 : Int), (if k < 2 then fmA else fmB) = [.int .i64 y0, .int .i64 y1, .int .i64 y2, .int .i64 y3, .int .i64 y4, .int .i64 y5, .int .i64 y6, .int .i64 y7, .int .i64 y8, .int .i64 y9, .int .i64 y10, .int .i64 y11, .int .i64 y12, .int .i64 y13, .int .i64 y14, .int .i64 y15, .int .i64 y16, .int .i64 y17, .int .i64 y18, .int .i64 y19] := by
  by_cases hk : k < 2
  · rw [if_pos hk]; exact ⟨_, _, _, _, _, _, _, _, _, _, _, _, _, _, _, _, _, _, _, _, rfl⟩
  · rw [if_neg hk]; exact ⟨_, _, _, _, _, _, _, _, _, _, _, _, _, _, _, _, _, _, _, _, rfl⟩

/-- What a header says. -/
def rhN (k st n m x e y : Int) : V := .tuple [.int .i64 k, .int .i64 st, .int .i64 n, .int .i64 m, .int .i64 x, .agg [.int .i64 e, .int .i64 y]]
def rhA (s : List UInt8) (x k i : Nat) : V :=
  if x + fw k i ≤ s.length then rhN k (fz k i) ((unle (sliceS s x (x + fw k i)) / 2 ^ ff k i % 2 ^ fx k i : Nat) : Int) ((unle (sliceS s x (x + fw k i)) / 2 ^ ff k i / 2 ^ fx k i % 2 ^ fy k i : Nat) : Int) ((x + fw k i : Nat) : Int) 0 0
  else rhN 0 0 0 0 0 20 x
def rh (s : List UInt8) (x : Int) : V :=
  if x < 0 ∨ s.length < x then rhN 0 0 0 0 0 2 0 else rhA s x.toNat (hb s x.toNat % 4) (hb s x.toNat / 4 % 4)

theorem plain_rhN (k st n m x e y : Int) : Plain (rhN k st n m x e y) := plain_tuple fun v hv => by
  simp only [List.mem_cons, List.not_mem_nil, or_false] at hv
  rcases hv with rfl | rfl | rfl | rfl | rfl | rfl
  · exact plain_int _ _
  · exact plain_int _ _
  · exact plain_int _ _
  · exact plain_int _ _
  · exact plain_int _ _
  · exact plain_agg (all2 (plain_int _ _) (plain_int _ _))
theorem plain_rh (s : List UInt8) (x : Int) : Plain (rh s x) := by
  unfold rh rhA
  repeat' split
  all_goals exact plain_rhN _ _ _ _ _ _ _

theorem endW_rh {n m p o : Nat} {tm : Tm} {h : H} {Q : V → H → Prop} {v0 v1 v2 v3 v4 v : V} {body : Code} (h0 : getV tm 4 = v0) (h1 : getV tm 5 = v1) (h2 : getV tm 6 = v2) (h3 : getV tm 7 = v3) (h4 : getV tm 8 = v4) (hp : getV tm 9 = .ptr p o) (ha : ald ctx 27 h (.ptr p o) = some v) (hq : Q (.tuple [v0, v1, v2, v3, v4, v]) h) :
    endW ctx ⟨n, [.tmp 4, .tmp 5, .tmp 6, .tmp 7, .tmp 8, .cell 9 27], body⟩ Q .ret ⟨m, tm, [], h⟩ := by
  show (match leave ctx _ tm h [.tmp 4, .tmp 5, .tmp 6, .tmp 7, .tmp 8, .cell 9 27] [] with | some vs => Q (tupled vs) h | none => False)
  simp only [leave, hp, ha, h0, h1, h2, h3, h4]
  exact hq

theorem mask_u64 {v n : Nat} (hv : v < 18446744073709551616) (hn : n ≤ 32) : intB .and .u64 (v : Int) (wrapF .u64 (((1 * 2 ^ n : Nat) : Int) - 1)) = some (.int .u64 ((v % 2 ^ n : Nat) : Int)) := by
  have h1 : 2 ^ n ≤ 2 ^ 32 := Nat.pow_le_pow_right (by decide) hn
  have h2 : 1 ≤ 2 ^ n := Nat.one_le_two_pow
  have h3 : ((1 * 2 ^ n : Nat) : Int) - 1 = ((2 ^ n - 1 : Nat) : Int) := by omega
  rw [h3, wrapN_u64 (by omega), andN_u64 hv (by omega), and_mask]

theorem and3 (n : Nat) (h : n < 256) : intB .and .i64 (n : Int) (3 : Int) = some (.int .i64 ((n % 4 : Nat) : Int)) := by
  have := andN_i64 (a := n) (b := 3) (by omega) (by decide)
  rw [show (3 : Int) = ((3 : Nat) : Int) from rfl, this, show n &&& 3 = n % 4 from and_mask n 2]

set_option maxRecDepth 100000 in
theorem readHead_ok {s : List UInt8} {x : Int} {h : H} {Q : V → H → Prop} (hs : s.length < 4611686018427387904) (hq : Q (rh s x) h) : RF P ctx 8 [.str s, .int .i64 x] h Q := by
  refine RF.plain ?_ (all2 (plain_str _) (plain_int _ _))
  have hq : Plain (rh s x) ∧ Q (rh s x) h := ⟨plain_rh _ _, hq⟩
  refine RF.enterE ctx_ok fn8 (ble _ _ rfl) (ble _ _ rfl) (vb8 s x H0 _) ⟨by decide, ?_⟩
  rintro p h1 rfl e1
  have n1 : h1.next = H0.next + 1 := by rw [e1, new_next]
  have x1 : Ext H0 h1 1 := by rw [e1]; exact Ext.new _ (by decide)
  have g1 : h1.get H0.next = some (oF 0 0) := by rw [e1]; exact get_new_self _ (by decide)
  clear e1
  have z0 : H0.next = 0 := rfl
  have zl : H0.low = T.top := rfl
  have zt : 1000 < T.top := by decide
  have l1 := x1.low
  refine ⟨fun c => ?_, fun c => ⟨fun c2 => ?_, fun c2 => ?_⟩⟩
  · unfold rh at hq
    rw [if_pos (Or.inl c)] at hq
    refine ⟨_, ast_at ty27 g1 rfl (Nat.zero_le _) rfl rfl, ?_⟩
    exact endW_rh (p := H0.next) (o := 0) (by kernel_rfl) (by kernel_rfl) (by kernel_rfl) (by kernel_rfl) (by kernel_rfl) (by kernel_rfl) (ald_agg ty27 rfl (get_upd_self _ (by omega)) rfl) hq
  · have c2 : (s.length : Int) < x := c2
    unfold rh at hq
    rw [if_pos (Or.inr c2)] at hq
    refine ⟨_, ast_at ty27 g1 rfl (Nat.zero_le _) rfl rfl, ?_⟩
    exact endW_rh (p := H0.next) (o := 0) (by kernel_rfl) (by kernel_rfl) (by kernel_rfl) (by kernel_rfl) (by kernel_rfl) (by kernel_rfl) (ald_agg ty27 rfl (get_upd_self _ (by omega)) rfl) hq
  have c2 : x ≤ s.length := Int.not_lt.1 c2
  unfold rh at hq
  rw [if_neg (by omega)] at hq
  obtain ⟨a, rfl⟩ : ∃ a : Nat, x = a := ⟨x.toNat, by omega⟩
  rw [Int.toNat_natCast] at hq
  have ha : a ≤ s.length := by omega
  refine new_ok (by omega) (by omega) ⟨_, _, _, _, rfl, byte_ok ha hs fun x' e y => ⟨_, _, _, _, _, rfl, by omega, ?_⟩⟩
  rintro p17 h18 rfl e18
  have n18 : h18.next = h1.next + 1 := by rw [e18, new_next]
  have x18 : Ext h1 h18 1 := by rw [e18]; exact Ext.new _ (by omega)
  have g18 : h18.get h1.next = some (oC [] 0 0 0) := by rw [e18]; exact get_new_self _ (by omega)
  clear e18
  have l18 := x18.low
  obtain ⟨h19, e19, g19, f19, n19, l19⟩ : ∃ h19, ast ctx 50 h18 (.ptr h1.next 0) (.agg (cur s x' e y)) = some h19 ∧ h19.get h1.next = some (oC s x' e y) ∧ h19.get H0.next = some (oF 0 0) ∧ h19.next = h18.next ∧ h19.low ≤ T.top :=
    ⟨_, ast_at ty50 g18 rfl (Nat.zero_le _) rfl rfl, get_upd_self _ (by omega), by rw [get_upd_ne _ (by omega) (by omega), x18.get _ (by omega)]; exact g1, rfl, by rw [H.low_upd]; omega⟩
  have hn := hb_lt s a
  revert hn hq
  generalize hb s a = n
  intro hq hn
  refine ⟨h19, e19, _, and3 n hn, formats_ok (by omega) ?_⟩
  have hk : n % 4 < 4 := by omega
  have hi : n / 4 % 4 < 4 := by omega
  revert hq hk hi
  generalize hkk : n % 4 = k
  generalize hii : n / 4 % 4 = i
  intro hq hk hi
  obtain ⟨y0, y1, y2, y3, y4, y5, y6, y7, y8, y9, y10, y11, y12, y13, y14, y15, y16, y17, y18, y19, ef⟩ := fm_list k
  refine ⟨y0, y1, y2, y3, y4, y5, y6, y7, y8, y9, y10, y11, y12, y13, y14, y15, y16, y17, y18, y19, by rw [ef], ((n / 4 : Nat) : Int), shrN_i64 (a := n) (n := 2) (by decide), ((i : Nat) : Int), ?_, ?_⟩
  · rw [and3 _ (by omega), hii]
  have ea := fm_at (k := k) hi
  rw [ef] at ea
  obtain ⟨w1, w2⟩ := fw_b k i
  have f1 := ff_b k i
  have f2 := fx_b k i
  have f3 := fy_b k i
  have f4 := fz_b k i
  unfold rhA at hq
  revert ea hq w1 w2 f1 f2 f3 f4
  unfold fmt
  generalize fw k i = w
  generalize ff k i = fr
  generalize fx k i = m
  generalize fy k i = m2
  generalize fz k i = st
  intro hq ea w1 w2 f1 f2 f3 f4
  refine ⟨_, _, _, _, _, ea, by omega, ?_⟩
  rintro p50 h51 rfl e51
  have n51 : h51.next = h19.next + 1 := by rw [e51, new_next]
  have x51 : Ext h19 h51 1 := by rw [e51]; exact Ext.new _ (by omega)
  have g51 : h51.get h19.next = some (.cells (.ls (fm 0 0 0 0 0)) ⟨0, 56, 0⟩ true false) := by rw [e51]; exact get_new_self _ (by omega)
  clear e51
  have l51 := x51.low
  obtain ⟨h52, e52, g52, g17, g0, n52, l52⟩ : ∃ h52, ast ctx 55 h51 (.ptr h19.next 0) (.agg (fm w fr m m2 st)) = some h52 ∧ h52.get h19.next = some (.cells (.ls (fm w fr m m2 st)) ⟨0, 56, 0⟩ true false) ∧ h52.get h1.next = some (oC s x' e y) ∧ h52.get H0.next = some (oF 0 0) ∧ h52.next = h51.next ∧ h52.low ≤ T.top :=
    ⟨_, ast_at ty55 g51 rfl (Nat.zero_le _) rfl rfl, get_upd_self _ (by omega), by rw [get_upd_ne _ (by omega) (by omega), x51.get _ (by omega)]; exact g19, by rw [get_upd_ne _ (by omega) (by omega), x51.get _ (by omega)]; exact f19, rfl, by rw [H.low_upd]; omega⟩
  have nn : h52.next ≤ T.top := by omega
  obtain ⟨k1, k2⟩ := low_id nn l52
  refine ⟨h52, e52, ⟨nn, l52⟩, new_ok (by omega) (by omega) ⟨_, _, _, _, rfl, k1, ?_⟩⟩
  rw [k2]
  rintro h59 rfl
  refine ⟨w, ald_one ty3 rfl g52 rfl, little_ok (n := w) ha hs ⟨w1, by omega⟩ fun x2 e2 y2 v hv1 hv2 => ⟨_, _, _, _, _, rfl, k1.2, ?_⟩⟩
  rw [k2]
  rintro h68 rfl
  obtain ⟨h69, e69, g69, q50, q0, n69⟩ : ∃ h69, ast ctx 50 (topH h68) (.ptr h1.next 0) (.agg (cur s x2 e2 y2)) = some h69 ∧ h69.get h1.next = some (oC s x2 e2 y2) ∧ h69.get h19.next = some (.cells (.ls (fm w fr m m2 st)) ⟨0, 56, 0⟩ true false) ∧ h69.get H0.next = some (oF 0 0) ∧ h69.next = h68.next :=
    ⟨_, ast_at (h := topH h68) ty50 g17 rfl (Nat.zero_le _) rfl rfl, get_upd_self _ (by omega), by rw [get_upd_ne _ (by omega) (by omega)]; exact g52, by rw [get_upd_ne _ (by omega) (by omega)]; exact g0, rfl⟩
  refine ⟨h69, e69, by omega, ?_⟩
  rintro h70 e70
  have r17 : h70.get h1.next = some (oC s x2 e2 y2) := by rw [e70]; exact g69
  have r50 : h70.get h19.next = some (.cells (.ls (fm w fr m m2 st)) ⟨0, 56, 0⟩ true false) := by rw [e70]; exact q50
  have r0 : h70.get H0.next = some (oF 0 0) := by rw [e70]; exact q0
  have n70 : h70.next ≤ T.top := by rw [e70, lowM_next]; omega
  have l70 : h70.low ≤ T.top := by rw [e70, lowM_low]; omega
  clear e70
  show ∃ x71, ald ctx 23 h70 (.ptr h1.next (0 + 2 + 0)) = some (.int .i64 x71) ∧ _
  refine ⟨e2, ald_one ty23 rfl r17 rfl, fun c => ?_, fun c => ?_⟩
  · have hc : s.length < a + w := by
      rcases Nat.lt_or_ge s.length (a + w) with g | g
      · exact g
      · have := (hv1 g).2.1
        omega
    rw [if_neg (by omega)] at hq
    refine ⟨_, ast_at ty27 r0 rfl (Nat.zero_le _) rfl rfl, ?_⟩
    exact endW_rh (p := H0.next) (o := 0) (by kernel_rfl) (by kernel_rfl) (by kernel_rfl) (by kernel_rfl) (by kernel_rfl) (by kernel_rfl) (ald_agg ty27 rfl (get_upd_self _ (by omega)) rfl) hq
  · have hc : a + w ≤ s.length := by
      rcases Nat.lt_or_ge s.length (a + w) with g | g
      · have := (hv2 g).1
        omega
      · exact g
    obtain ⟨rfl, -, -, ev⟩ := hv1 hc
    rw [if_pos hc, ← ev] at hq
    have hv : v < 1099511627776 := by
      have h1 := unle_lt (sliceS s a (a + w))
      have h2 : (sliceS s a (a + w)).length ≤ w := by simp [sliceS]; omega
      have h3 : 256 ^ (sliceS s a (a + w)).length ≤ 256 ^ 5 := Nat.pow_le_pow_right (by decide) (by omega)
      have h4 : (256 : Nat) ^ 5 = 1099511627776 := by decide
      omega
    have d1 : v / 2 ^ fr ≤ v := Nat.div_le_self _ _
    have d2 : v / 2 ^ fr / 2 ^ m ≤ v / 2 ^ fr := Nat.div_le_self _ _
    have d3 : v / 2 ^ fr % 2 ^ m ≤ v / 2 ^ fr := Nat.mod_le _ _
    have d4 : v / 2 ^ fr / 2 ^ m % 2 ^ m2 ≤ v / 2 ^ fr / 2 ^ m := Nat.mod_le _ _
    have b1 : 2 ^ m ≤ 2 ^ 20 := Nat.pow_le_pow_right (by decide) f2
    have b2 : 2 ^ m2 ≤ 2 ^ 20 := Nat.pow_le_pow_right (by decide) (by omega)
    refine ⟨fr, ald_one ty3 rfl r50 rfl, _, shrN_u64 (by omega), ⟨n70, l70⟩, st, ald_one ty3 rfl r50 rfl, m, ald_one ty3 rfl r50 rfl, _, shlN_u64 (a := 1) (n := m) (by omega) (by omega), _, mask_u64 (by omega) (by omega), m, ald_one ty3 rfl r50 rfl, _, shrN_u64 (by omega), m2, ald_one ty3 rfl r50 rfl, _, shlN_u64 (a := 1) (n := m2) (by omega) (by omega), _, mask_u64 (by omega) (by omega), ((a + w : Nat) : Int), ald_one ty3 rfl r17 rfl, ?_⟩
    refine ⟨_, ast_at ty27 r0 rfl (Nat.zero_le _) rfl rfl, ?_⟩
    refine endW_rh (p := H0.next) (o := 0) (v0 := .int .i64 k) (v1 := .int .i64 st) (v2 := .int .i64 ((v / 2 ^ fr % 2 ^ m : Nat) : Int)) (v3 := .int .i64 ((v / 2 ^ fr / 2 ^ m % 2 ^ m2 : Nat) : Int)) (v4 := .int .i64 ((a + w : Nat) : Int)) (by kernel_rfl) (by kernel_rfl) ?_ ?_ (by kernel_rfl) (by kernel_rfl) (ald_agg ty27 rfl (get_upd_self _ (by omega)) rfl) hq
    · refine Eq.trans (b := V.int .i64 (w64 ((v / 2 ^ fr % 2 ^ m : Nat) : Int))) (by kernel_rfl) ?_
      rw [w64_id (by omega) (by omega)]
    · refine Eq.trans (b := V.int .i64 (w64 ((v / 2 ^ fr / 2 ^ m % 2 ^ m2 : Nat) : Int))) (by kernel_rfl) ?_
      rw [w64_id (by omega) (by omega)]

end Go.Proofs.YtamddelaigcnkaaGreat

namespace Go.Proofs.YtamddelaigcnkaaGreat
open Go.Sim

/-- The bytes of a number, as the program makes them. -/
def fl (x : Nat) : Nat → List UInt8
  | 0 => []
  | k + 1 => UInt8.ofNat (wrapF .u8 (Int.ofNat x)).toNat :: fl (Nat.shiftRight x 8) k

theorem field1 (x : Nat) : outV (run ctx noOrc 100 53 [.int .u64 (Int.ofNat x), .int .i64 1] H0) = some (.str (fl x 1)) := by kernel_rfl
theorem field2 (x : Nat) : outV (run ctx noOrc 100 53 [.int .u64 (Int.ofNat x), .int .i64 2] H0) = some (.str (fl x 2)) := by kernel_rfl
theorem field3 (x : Nat) : outV (run ctx noOrc 100 53 [.int .u64 (Int.ofNat x), .int .i64 3] H0) = some (.str (fl x 3)) := by kernel_rfl
theorem field4 (x : Nat) : outV (run ctx noOrc 100 53 [.int .u64 (Int.ofNat x), .int .i64 4] H0) = some (.str (fl x 4)) := by kernel_rfl
theorem field5 (x : Nat) : outV (run ctx noOrc 100 53 [.int .u64 (Int.ofNat x), .int .i64 5] H0) = some (.str (fl x 5)) := by kernel_rfl

theorem fl_le (x k : Nat) : fl x k = le x k := by
  induction k generalizing x with
  | zero => rfl
  | succ k ih =>
    have h : (Int.ofNat x) = (x : Int) := rfl
    rw [fl, le, ih, h, wrapN_u8, Int.toNat_natCast, show Nat.shiftRight x 8 = x >>> 8 from rfl, Nat.shiftRight_eq_div_pow]

theorem field_ok {x k : Nat} {h : H} {Q : V → H → Prop} (hk : 1 ≤ k ∧ k ≤ 5) (hq : Q (.str (le x k)) h) : RF P ctx 53 [.int .u64 x, .int .i64 k] h Q := by
  rw [← fl_le] at hq
  have a2 : ∀ v ∈ [V.int .u64 x, .int .i64 k], Plain v := all2 (plain_int _ _) (plain_int _ _)
  obtain rfl | rfl | rfl | rfl | rfl : k = 1 ∨ k = 2 ∨ k = 3 ∨ k = 4 ∨ k = 5 := by omega
  · exact RF.closed (by kernel_rfl) (field1 x) a2 (plain_str _) hq
  · exact RF.closed (by kernel_rfl) (field2 x) a2 (plain_str _) hq
  · exact RF.closed (by kernel_rfl) (field3 x) a2 (plain_str _) hq
  · exact RF.closed (by kernel_rfl) (field4 x) a2 (plain_str _) hq
  · exact RF.closed (by kernel_rfl) (field5 x) a2 (plain_str _) hq

set_option maxRecDepth 100000 in
theorem littleP_ok {x k : Nat} {h : H} {Q : V → H → Prop} (hk : 1 ≤ k ∧ k ≤ 5) (hx : x < 256 ^ k) (hq : Q (.tuple [.str (le x k), .int .i64 0]) h) : RF P ctx 33 [.int .u64 x, .int .i64 k] h Q := by
  refine RF.enterE ctx_ok fn33 (ble _ _ rfl) (ble _ _ rfl) (vb33 x k h Q) ⟨fun c => absurd c (by omega), fun _ => ⟨fun c => absurd c (by omega), fun _ => ⟨fun _ => ?_, fun c => absurd c (by omega)⟩⟩⟩
  have hw : w64 ((8 : Int) * (k : Int)) = ((8 * k : Nat) : Int) := by rw [w64_id (by omega) (by omega)]; omega
  rw [hw]
  refine ⟨_, shrN_u64 (by omega), fun c => ?_, fun _ => field_ok hk ⟨_, rfl, hq⟩⟩
  rw [pow8, Nat.div_eq_of_lt hx] at c
  exact absurd rfl c

end Go.Proofs.YtamddelaigcnkaaGreat

namespace Go.Proofs.YtamddelaigcnkaaGreat
open Go.Sim

abbrev te5 : TI := ⟨5, (.int .u8), 1, 1, some (.int .u8 (.ofNat 0)), true, false, false, []⟩
theorem te5_at : ctx.ty.get 5 = some te5 := ty5

/-- A string of one byte. -/
theorem byte_str {h : H} {n : Int} (hn : h.next < T.top) : ∃ b o cp h1, abuildSlice ctx 79 1 [(0, .int .u8 n)] h = some (.slice b o 1 cp, h1) ∧ aconv ctx 79 9 h1 (.slice b o 1 cp) = some (.str [UInt8.ofNat n.toNat], h1) ∧ Ext h h1 1 := by
  obtain ⟨v, h1, e, ⟨_, s⟩, x, _⟩ := buildSlice1 (c := ctx) (h := h) (u := .int .u8 n) (ys := [.int .u8 n]) ty79 rfl te5_at rfl rfl rfl rfl (by decide) rfl hn
  rcases s with ⟨_, g⟩ | ⟨b, o, cp, cs, k, w, op, rfl, hb, hg, hc⟩
  · cases g
  refine ⟨b, o, cp, h1, e, ?_, x⟩
  have hr : cs.range o 1 = some [.int .u8 n] := Cs.range_is (k := 1) (by decide) rfl fun i hi => hc i hi
  unfold aconv
  rw [ty79, ty9]
  simp only [te5_at, hg, hr]
  rfl

theorem tmodN (a b : Nat) : Int.tmod (a : Int) (b : Int) = ((a % b : Nat) : Int) := rfl
theorem tdivN (a b : Nat) : Int.tdiv (a : Int) (b : Int) = ((a / b : Nat) : Int) := rfl

set_option maxRecDepth 100000 in
theorem littleR_ok {x k : Nat} {h : H} {Q : V → H → Prop} (hk : 1 ≤ k ∧ k ≤ 5) (hx : x < 256 ^ k) (hq : Q (.tuple [.str (le x k), .int .i64 0]) h) : RF P ctx 18 [.int .u64 x, .int .i64 k] h Q := by
  refine RF.plain ?_ (all2 (plain_int _ _) (plain_int _ _))
  have hq : Plain (.tuple [.str (le x k), .int .i64 0]) ∧ Q (.tuple [.str (le x k), .int .i64 0]) h := ⟨plain2 (plain_str _) (plain_int _ _), hq⟩
  have z0 : H0.next = 0 := rfl
  have zt : 1000 < T.top := by decide
  have hx5 : x < 1099511627776 := by
    have h3 : 256 ^ k ≤ 256 ^ 5 := Nat.pow_le_pow_right (by decide) (by omega)
    have h4 : (256 : Nat) ^ 5 = 1099511627776 := by decide
    omega
  refine RF.enterE ctx_ok fn18 (ble _ _ rfl) (ble _ _ rfl) (vb18 x k H0 _) ⟨fun c => absurd c (by omega), fun _ => ⟨fun c => absurd c (by omega), fun _ => ?_⟩⟩
  refine loop_wp (fun j tm h' => ∃ i : Nat, i ≤ k ∧ j = k - i ∧ h'.next ≤ i ∧ getV tm 7 = .int .i64 i ∧ getV tm 1 = .int .i64 k ∧ getV tm 6 = .str (le x i) ∧ getV tm 0 = .int .u64 (x / 256 ^ i : Nat)) k ?_ ?_
  · exact ⟨0, by omega, by omega, by omega, by kernel_rfl, by kernel_rfl, by kernel_rfl, by rw [Nat.pow_zero, Nat.div_one]; kernel_rfl⟩
  · rintro j tm h' ⟨i, h2, rfl, hn, t7, t1, t6, t0⟩
    rw [tm4 rfl t7 t1 t6 t0]
    refine wpC.seal _ (vl18_0 _ _ _ _ _ _ _ _) ⟨fun c => ⟨by decide, ?_⟩, fun c tmz q4 q5 _ _ q6 q0 => ?_⟩
    · have d1 : x / 256 ^ i ≤ x := Nat.div_le_self _ _
      obtain ⟨b, o, cp, h1, e1, e2, x1⟩ := byte_str (h := h') (n := wrapF .u8 (Int.tmod ((x / 256 ^ i : Nat) : Int) 256)) (by omega)
      refine ⟨_, _, e1, ?_⟩
      show ∃ l h', aconv ctx 79 9 h1 (.slice b o 1 cp) = some (.str l, h') ∧ _
      refine ⟨_, _, e2, ?_⟩
      show (le x i).length + 1 ≤ 4611686018427387904 ∧ (256 : Int) ≠ 0 ∧ _
      refine ⟨by rw [le_len]; omega, by decide, fun tmn _ _ q7 q1 q6 q0 => ⟨rfl, rfl, k - (i + 1), by omega, i + 1, by omega, rfl, ?_, ?_, q1, ?_, ?_⟩⟩
      · have := x1.top
        show h1.next ≤ i + 1
        omega
      · rw [q7, w64_id (by omega) (by omega)]; rfl
      · rw [q6, show (256 : Int) = ((256 : Nat) : Int) from rfl, tmodN, wrapN_u8, Int.toNat_natCast, Nat.mod_mod, ← le_app]
      · rw [q0, show (256 : Int) = ((256 : Nat) : Int) from rfl, tdivN, wrapN_u64 (by omega), Nat.div_div_eq_div_mul, Nat.pow_succ]
    · have hi : i = k := by omega
      subst hi
      rw [Nat.div_eq_of_lt hx] at q0
      refine exit_wp ?_
      show wpC P ctx false r18_1 ⟨31, tmz, [], h'⟩ _
      rw [tm2 rfl q0 q6]
      refine wpC.seal _ (vr18_1 _ _ _ _ _ _) ⟨fun c => absurd c (by decide), fun _ tm3 p4 p5 _ _ _ _ => ?_⟩
      show Plain (.tuple [getV tm3 4, getV tm3 5]) ∧ Q (.tuple [getV tm3 4, getV tm3 5]) h
      rw [p4, p5]
      exact hq

set_option maxRecDepth 100000 in
theorem low_ok {x k : Nat} {h : H} {Q : V → H → Prop} (hk : k ≤ 30) (hx : x < 1099511627776) (hq : Q (.tuple [.int .u64 (x % 2 ^ k : Nat), .int .i64 0]) h) : RF P ctx 24 [.int .u64 x, .int .i64 k] h Q := by
  refine RF.enterE ctx_ok fn24 (ble _ _ rfl) (ble _ _ rfl) (vb24 x k h Q) ⟨fun c => absurd c (by omega), fun _ => ⟨fun c => absurd c (by omega), fun _ => ?_⟩⟩
  refine loop_wp (fun j tm h' => ∃ i : Nat, i ≤ k ∧ j = k - i ∧ h' = h ∧ getV tm 8 = .int .i64 i ∧ getV tm 1 = .int .i64 k ∧ getV tm 6 = .int .u64 (x % 2 ^ i : Nat) ∧ getV tm 0 = .int .u64 (x / 2 ^ i : Nat) ∧ getV tm 7 = .int .u64 (2 ^ i : Nat)) k ?_ ?_
  · exact ⟨0, by omega, by omega, rfl, by kernel_rfl, by kernel_rfl, by rw [Nat.pow_zero, Nat.mod_one]; kernel_rfl, by rw [Nat.pow_zero, Nat.div_one]; kernel_rfl, by kernel_rfl⟩
  · rintro j tm h' ⟨i, h2, rfl, rfl, t8, t1, t6, t0, t7⟩
    rw [tm5 rfl t8 t1 t6 t0 t7]
    refine wpC.seal _ (vl24_0 _ _ _ _ _ _ _ _ _) ⟨fun c => ⟨by decide, by decide, fun tmn _ _ q8 q1 q6 q0 q7 => ⟨rfl, rfl, k - (i + 1), by omega, i + 1, by omega, rfl, rfl, ?_, q1, ?_, ?_, ?_⟩⟩, fun c tmz q4 q5 _ _ q6 q0 _ => ?_⟩
    · rw [q8, w64_id (by omega) (by omega)]; rfl
    · have b1 : 2 ^ i ≤ 2 ^ 30 := Nat.pow_le_pow_right (by decide) (by omega)
      have b2 : x % 2 ^ i < 2 ^ i := Nat.mod_lt _ (Nat.two_pow_pos i)
      have b3 : x / 2 ^ i % 2 * 2 ^ i ≤ 1 * 2 ^ i := Nat.mul_le_mul_right _ (by omega)
      have e : ((x / 2 ^ i % 2 : Nat) : Int) * ((2 ^ i : Nat) : Int) = ((x / 2 ^ i % 2 * 2 ^ i : Nat) : Int) := (Int.natCast_mul _ _).symm
      have e2 : ((x % 2 ^ i : Nat) : Int) + ((x / 2 ^ i % 2 * 2 ^ i : Nat) : Int) = ((x % 2 ^ i + x / 2 ^ i % 2 * 2 ^ i : Nat) : Int) := (Int.natCast_add _ _).symm
      rw [q6, show (2 : Int) = ((2 : Nat) : Int) from rfl, tmodN, e, wrapN_u64 (by omega), e2, wrapN_u64 (by omega), Nat.mod_pow_succ, Nat.mul_comm (2 ^ i)]
    · have d1 : x / 2 ^ i ≤ x := Nat.div_le_self _ _
      rw [q0, show (2 : Int) = ((2 : Nat) : Int) from rfl, tdivN, wrapN_u64 (by omega), Nat.div_div_eq_div_mul, Nat.pow_succ]
    · have b1 : 2 ^ (i + 1) ≤ 2 ^ 30 := Nat.pow_le_pow_right (by decide) (by omega)
      have e : ((2 ^ i : Nat) : Int) * 2 = ((2 ^ (i + 1) : Nat) : Int) := by rw [Nat.pow_succ]; exact (Int.natCast_mul _ _).symm
      rw [q7, e, wrapN_u64 (by omega)]
    · have hi : i = k := by omega
      subst hi
      refine exit_wp ?_
      show wpC P ctx false r24_1 ⟨31, tmz, [], h'⟩ _
      rw [tm1 rfl q6]
      refine wpC.seal _ (vr24_1 _ _ _ _ _) fun tm3 p4 p5 _ _ _ _ _ => ?_
      show Q (.tuple [getV tm3 4, getV tm3 5]) h'
      rw [p4, p5]
      exact hq

end Go.Proofs.YtamddelaigcnkaaGreat

namespace Go.Proofs.YtamddelaigcnkaaGreat
open Go.Sim

theorem sliceS_cons {s : List UInt8} {a b : Nat} {c : UInt8} (h : s[a]? = some c) (hab : a < b) : sliceS s a b = c :: sliceS s (a + 1) b := by
  unfold sliceS
  obtain ⟨hl, hc⟩ := List.getElem?_eq_some_iff.1 h
  rw [List.drop_eq_getElem_cons hl, hc]
  obtain ⟨d, rfl⟩ : ∃ d, b = a + 1 + d := ⟨b - (a + 1), by omega⟩
  rw [show a + 1 + d - a = d + 1 by omega, show a + 1 + d - (a + 1) = d by omega, List.take_succ_cons]
theorem sliceS_nil (s : List UInt8) (a : Nat) : sliceS s a a = [] := by
  unfold sliceS
  rw [Nat.sub_self, List.take_zero]

theorem endW_rd {n m p o : Nat} {tm : Tm} {h : H} {Q : V → H → Prop} {v0 v1 v : V} {body : Code} (h0 : getV tm 6 = v0) (h1 : getV tm 7 = v1) (hp : getV tm 8 = .ptr p o) (ha : ald ctx 27 h (.ptr p o) = some v) (hq : Q (.tuple [v0, v1, v]) h) :
    endW ctx ⟨n, [.tmp 6, .tmp 7, .cell 8 27], body⟩ Q .ret ⟨m, tm, [], h⟩ := by
  show (match leave ctx _ tm h [.tmp 6, .tmp 7, .cell 8 27] [] with | some vs => Q (tupled vs) h | none => False)
  simp only [leave, hp, ha, h0, h1]
  exact hq

theorem plain3 {a b c : V} (ha : Plain a) (hb : Plain b) (hc : Plain c) : Plain (.tuple [a, b, c]) := plain_tuple (all3 ha hb hc)

set_option maxRecDepth 100000 in
/-- A number read. -/
theorem readR_ok {s : List UInt8} {a n : Nat} {h : H} {Q : V → H → Prop} (ha : a ≤ s.length) (hs : s.length < 4611686018427387904) (hn : 1 ≤ n ∧ n ≤ 6)
    (h1 : a + n ≤ s.length → Q (.tuple [.int .u64 (unle (sliceS s a (a + n)) : Nat), .int .i64 (a + n : Nat), .agg [.int .i64 0, .int .i64 0]]) h)
    (h2 : s.length < a + n → Q (.tuple [.int .u64 0, .int .i64 0, .agg [.int .i64 5, .int .i64 s.length]]) h) : RF P ctx 23 [.str s, .int .i64 a, .int .i64 n] h Q := by
  refine RF.plain ?_ (all3 (plain_str _) (plain_int _ _) (plain_int _ _))
  have z0 : H0.next = 0 := rfl
  have zt : 1000 < T.top := by decide
  refine RF.enterE ctx_ok fn23 (ble _ _ rfl) (ble _ _ rfl) (vb23 s a n H0 _) ⟨by decide, ?_⟩
  rintro p hh rfl e1
  have g1 : hh.get H0.next = some (oF 0 0) := by rw [e1]; exact get_new_self _ (by decide)
  clear e1
  refine ⟨fun c => absurd c (by omega), fun _ => ⟨fun c => absurd c (by omega), fun _ => ⟨fun c => absurd c (by omega), fun _ => ⟨fun c => absurd (show (s.length : Int) < a from c) (by omega), fun _ => ⟨fun c => ?_, fun c => ?_⟩⟩⟩⟩⟩
  · have c : w64 ((s.length : Int) - a) < n := c
    rw [w64_id (by omega) (by omega)] at c
    refine ⟨_, ast_at ty27 g1 rfl (Nat.zero_le _) rfl rfl, ?_⟩
    exact endW_rd (p := H0.next) (o := 0) (by kernel_rfl) (by kernel_rfl) (by kernel_rfl) (ald_agg ty27 rfl (get_upd_self _ (by decide)) rfl) ⟨plain3 (plain_int _ _) (plain_int _ _) (plain_agg (all2 (plain_int _ _) (plain_int _ _))), h2 (by omega)⟩
  · have c : ¬ w64 ((s.length : Int) - a) < n := c
    rw [w64_id (by omega) (by omega)] at c
    have hlen : a + n ≤ s.length := by omega
    have h1 := h1 hlen
    clear h2
    refine loop_wp (fun j tm h' => ∃ i : Nat, i ≤ n ∧ j = i ∧ h' = hh ∧ getV tm 10 = .int .i64 ((i : Int) - 1) ∧ getV tm 9 = .int .u64 (unle (sliceS s (a + i) (a + n)) : Nat) ∧ getV tm 0 = .str s ∧ getV tm 1 = .int .i64 a ∧ getV tm 2 = .int .i64 n ∧ getV tm 8 = .ptr H0.next 0) n ?_ ?_
    · refine ⟨n, by omega, rfl, rfl, ?_, ?_, by kernel_rfl, by kernel_rfl, by kernel_rfl, by kernel_rfl⟩
      · refine Eq.trans (b := V.int .i64 (w64 ((n : Int) - 1))) (by kernel_rfl) ?_
        rw [w64_id (by omega) (by omega)]
      · rw [sliceS_nil]; kernel_rfl
    · rintro j tm h' ⟨i, i2, rfl, rfl, t10, t9, t0, t1, t2, t8⟩
      rw [tm4 rfl t10 t9 t0 t1]
      refine wpC.seal _ (vl23_0 _ _ _ _ _ _ _ _) ⟨fun c => ?_, fun c tmz q6 q7 q8 _ q9 _ q1 q2 => ?_⟩
      · obtain ⟨k, rfl⟩ : ∃ k, j = k + 1 := ⟨j - 1, by omega⟩
        have hw : w64 ((a : Int) + (((k + 1 : Nat) : Int) - 1)) = ((a + k : Nat) : Int) := by rw [w64_id (by omega) (by omega)]; omega
        obtain ⟨b, hb⟩ : ∃ b, s[a + k]? = some b := ⟨s[a + k]'(by omega), List.getElem?_eq_getElem (by omega)⟩
        have hb2 := b.toNat_lt
        have hc := sliceS_cons (b := a + n) hb (by omega)
        have hu := unle_lt (sliceS s (a + (k + 1)) (a + n))
        have hl : (sliceS s (a + (k + 1)) (a + n)).length ≤ 5 := by simp [sliceS]; omega
        have hp : 256 ^ (sliceS s (a + (k + 1)) (a + n)).length ≤ 256 ^ 5 := Nat.pow_le_pow_right (by decide) hl
        have h5 : (256 : Nat) ^ 5 = 1099511627776 := by decide
        rw [hw]
        refine ⟨_, index_str hb, fun tmn _ _ q8 q10 q9 q0 q1 q2 => ⟨rfl, rfl, k, by omega, k, by omega, rfl, rfl, ?_, ?_, q0, q1, q2.trans t2, q8.trans t8⟩⟩
        · rw [q10, w64_id (by omega) (by omega)]
          congr 1
          omega
        · have e : ((unle (sliceS s (a + (k + 1)) (a + n)) : Nat) : Int) * 256 = ((unle (sliceS s (a + (k + 1)) (a + n)) * 256 : Nat) : Int) := (Int.natCast_mul _ _).symm
          have e2 : ((unle (sliceS s (a + (k + 1)) (a + n)) * 256 : Nat) : Int) + ((b.toNat : Nat) : Int) = ((unle (sliceS s (a + (k + 1)) (a + n)) * 256 + b.toNat : Nat) : Int) := (Int.natCast_add _ _).symm
          rw [q9, e, wrapN_u64 (by omega), wrapN_u64 (by omega), e2, wrapN_u64 (by omega), hc]
          congr 2
          show _ = b.toNat + 256 * unle (sliceS s (a + k + 1) (a + n))
          rw [show a + (k + 1) = a + k + 1 from rfl]
          omega
      · have hi : j = 0 := by omega
        subst hi
        refine exit_wp ?_
        show wpC P ctx false r23_1 ⟨57, tmz, [], h'⟩ _
        rw [tm4 rfl q9 q1 (q2.trans t2) (q8.trans t8)]
        refine wpC.seal _ (vr23_1 _ _ _ _ _ _ _ _) ⟨_, ast_at ty27 g1 rfl (Nat.zero_le _) rfl rfl, fun tm3 p6 p7 p8 _ _ _ _ _ => ?_⟩
        refine endW_rd (p := H0.next) (o := 0) p6 p7 p8 (ald_agg ty27 rfl (get_upd_self _ (by decide)) rfl) ⟨plain3 (plain_int _ _) (plain_int _ _) (plain_agg (all2 (plain_int _ _) (plain_int _ _))), ?_⟩
        rw [w64_id (by omega) (by omega)]
        exact h1

def f6 (a b c d e f : Nat) : List V := [.int .i64 a, .int .i64 b, .int .i64 c, .int .i64 d, .int .i64 e, .int .i64 f]
/-- The reference's formats: their numbers. -/
def rnum (k j : Nat) : Nat := if k < 2 then (if j = 2 then 3 else j) else j
def rlen (k : Nat) : Nat := if k < 2 then 3 else 4
def rf (k j : Nat) : List V := f6 (rnum k j) (fw k (rnum k j)) (ff k (rnum k j)) (ff k (rnum k j) + fx k (rnum k j)) (ff k (rnum k j) + fx k (rnum k j) + fy k (rnum k j)) (fz k (rnum k j))
def rl (k : Nat) : List V := if k < 2 then rf 0 0 ++ rf 0 1 ++ rf 0 2 else rf 2 0 ++ rf 2 1 ++ rf 2 2 ++ rf 2 3

theorem rf_lt {k j : Nat} (h : k < 2) : rf k j = rf 0 j := by simp [rf, rnum, fw, ff, fx, fy, fz, h]
theorem rf_ge {k j : Nat} (h : ¬ k < 2) : rf k j = rf 2 j := by simp [rf, rnum, fw, ff, fx, fy, fz, h]

theorem rl_at {k j i : Nat} (hj : j < rlen k) (hi : i < 6) : (rl k)[j * 6 + i]? = (rf k j)[i]? := by
  unfold rl rlen at *
  by_cases h : k < 2
  · rw [if_pos h] at hj ⊢
    rw [rf_lt h]
    obtain rfl | rfl | rfl : j = 0 ∨ j = 1 ∨ j = 2 := by omega
    all_goals
      obtain rfl | rfl | rfl | rfl | rfl | rfl : i = 0 ∨ i = 1 ∨ i = 2 ∨ i = 3 ∨ i = 4 ∨ i = 5 := by omega
      all_goals rfl
  · rw [if_neg h] at hj ⊢
    rw [rf_ge h]
    obtain rfl | rfl | rfl | rfl : j = 0 ∨ j = 1 ∨ j = 2 ∨ j = 3 := by omega
    all_goals
      obtain rfl | rfl | rfl | rfl | rfl | rfl : i = 0 ∨ i = 1 ∨ i = 2 ∨ i = 3 ∨ i = 4 ∨ i = 5 := by omega
      all_goals rfl

theorem buildA (h : H) : abuildSlice ctx 42 3 [(0, .agg (f6 0 1 3 8 8 0)), (1, .agg (f6 1 2 4 16 16 0)), (2, .agg (f6 3 3 4 24 24 0))] h = (match anew h (rf 0 0 ++ rf 0 1 ++ rf 0 2) ⟨0, 46, 0⟩ false with | some (b, h') => some (.slice b 0 3 (.exact 3), h') | none => none) := by kernel_rfl
theorem buildB (h : H) : abuildSlice ctx 42 4 [(0, .agg (f6 0 3 4 14 24 1)), (1, .agg (f6 1 3 4 14 24 4)), (2, .agg (f6 2 4 4 18 32 4)), (3, .agg (f6 3 5 4 22 40 4))] h = (match anew h (rf 2 0 ++ rf 2 1 ++ rf 2 2 ++ rf 2 3) ⟨0, 46, 0⟩ false with | some (b, h') => some (.slice b 0 4 (.exact 4), h') | none => none) := by kernel_rfl

theorem anew_ok {h : H} {l : List V} {k : Rk} {op : Bool} (hl : l.length ≤ 262143) (ho : allOne l = true) (hn : h.next < T.top) : ∃ cs, anew h l k op = some (h.next, h.new (.cells cs k true op)) ∧ ∀ i, cs.get? i = l[i]? := by
  obtain ⟨cs, h1, _⟩ := Cs.ofL_some hl
  refine ⟨cs, ?_, (Cs.ofL_eq h1).2⟩
  unfold anew newC
  rw [ho, cond_true, (blt_iff _ _).2 hn, cond_true, h1]

theorem formatsR_ok {k : Nat} {h : H} {Q : V → H → Prop} (hk : k < 4) (hn : h.next < T.top) (hq : ∀ v h', Ext h h' 1 → Sl h' v 6 (rlen k) (rl k) → Q v h') : RF P ctx 17 [.int .i64 k] h Q := by
  have main2 : k < 2 → ∃ v h', abuildSlice ctx 42 3 [(0, .agg (f6 0 1 3 8 8 0)), (1, .agg (f6 1 2 4 16 16 0)), (2, .agg (f6 3 3 4 24 24 0))] h = some (v, h') ∧ Q v h' := by
    intro hk2
    obtain ⟨cs, e, hc⟩ := anew_ok (h := h) (l := rf 0 0 ++ rf 0 1 ++ rf 0 2) (k := ⟨0, 46, 0⟩) (op := false) (by decide) rfl hn
    refine ⟨_, _, by rw [buildA, e], hq _ _ (Ext.new _ hn) ?_⟩
    unfold rlen rl
    rw [if_pos hk2, if_pos hk2]
    exact ⟨rfl, .inr ⟨_, _, _, cs, _, _, _, rfl, by rw [new_next]; omega, get_new_self _ hn, fun i _ => by rw [Nat.zero_add]; exact hc i⟩⟩
  have main4 : ¬ k < 2 → ∃ v h', abuildSlice ctx 42 4 [(0, .agg (f6 0 3 4 14 24 1)), (1, .agg (f6 1 3 4 14 24 4)), (2, .agg (f6 2 4 4 18 32 4)), (3, .agg (f6 3 5 4 22 40 4))] h = some (v, h') ∧ Q v h' := by
    intro hk2
    obtain ⟨cs, e, hc⟩ := anew_ok (h := h) (l := rf 2 0 ++ rf 2 1 ++ rf 2 2 ++ rf 2 3) (k := ⟨0, 46, 0⟩) (op := false) (by decide) rfl hn
    refine ⟨_, _, by rw [buildB, e], hq _ _ (Ext.new _ hn) ?_⟩
    unfold rlen rl
    rw [if_neg hk2, if_neg hk2]
    exact ⟨rfl, .inr ⟨_, _, _, cs, _, _, _, rfl, by rw [new_next]; omega, get_new_self _ hn, fun i _ => by rw [Nat.zero_add]; exact hc i⟩⟩
  exact RF.enterE ctx_ok fn17 (ble _ _ rfl) (ble _ _ rfl) (vb17 k h Q) ⟨fun c => main2 (by omega), fun c => ⟨fun c2 => main2 (by omega), fun c2 => main4 (by omega)⟩⟩

end Go.Proofs.YtamddelaigcnkaaGreat

namespace Go.Proofs.YtamddelaigcnkaaGreat
open Go.Sim

theorem endW_rh' {m p o : Nat} {tm : Tm} {h : H} {Q : V → H → Prop} {v0 v1 v2 v3 v4 v : V} (h0 : getV tm 4 = v0) (h1 : getV tm 5 = v1) (h2 : getV tm 6 = v2) (h3 : getV tm 7 = v3) (h4 : getV tm 8 = v4) (hp : getV tm 9 = .ptr p o) (ha : ald ctx 27 h (.ptr p o) = some v) (hq : Q (.tuple [v0, v1, v2, v3, v4, v]) h) :
    endW ctx ⟨127, [.tmp 4, .tmp 5, .tmp 6, .tmp 7, .tmp 8, .cell 9 27], b9⟩ Q .ret ⟨m, tm, [], h⟩ := endW_rh h0 h1 h2 h3 h4 hp ha hq

theorem div_pow (u a b : Nat) : u / 2 ^ a / 2 ^ b = u / 2 ^ (a + b) := by rw [Nat.div_div_eq_div_mul, ← Nat.pow_add]

set_option maxRecDepth 100000 in
/-- The loop over the formats: the one whose number it is lies at place j. -/
theorem formatLoop_ok {s : List UInt8} {a k i j p4 p0 : Nat} {v : V} {tm : Tm} {h : H} {Q : V → H → Prop} (ha : a ≤ s.length) (hs : s.length < 4611686018427387904) (hk : k < 4) (hj : j < rlen k) (hi : i < 4)
    (hw : fw k i = fw k (rnum k j)) (hf : ff k i = ff k (rnum k j)) (hx : fx k i = fx k (rnum k j)) (hy : fy k i = fy k (rnum k j)) (hz : fz k i = fz k (rnum k j))
    (hne : ∀ j', j' < j → rnum k j' ≠ rnum k j)
    (hn : h.next + 10 ≤ T.top) (hl : h.low ≤ T.top) (hp0 : p0 < h.next) (hp4 : p4 < h.next) (hne2 : p0 ≠ p4) (g0 : h.get p0 = some (oF 0 0)) (g4 : h.get p4 = some (oF 20 a)) (hv : Sl h v 6 (rlen k) (rl k))
    (t14 : getV tm 14 = .int .i64 0) (t13 : getV tm 13 = v) (t12 : getV tm 12 = .int .i64 (rnum k j)) (t0 : getV tm 0 = .str s) (t1 : getV tm 1 = .int .i64 a) (t10 : getV tm 10 = .ptr p4 0) (t9 : getV tm 9 = .ptr p0 0) (t11 : getV tm 11 = .int .i64 k)
    (hq : ∀ h', Q (rhA s a k i) h') :
    wpC Tryz.prog ctx false (.loop l9_0) ⟨127, tm, [], h⟩ (fun e s1 => (thenC (fun s1 => wpC Tryz.prog ctx false r9_1 s1 (endW ctx ⟨127, [.tmp 4, .tmp 5, .tmp 6, .tmp 7, .tmp 8, .cell 9 27], b9⟩ Q)) (endW ctx ⟨127, [.tmp 4, .tmp 5, .tmp 6, .tmp 7, .tmp 8, .cell 9 27], b9⟩ Q)) (exitB 0 e) s1) := by
  have hr4 : rlen k ≤ 4 := by unfold rlen; split <;> omega
  refine loop_wp (fun m tm h' => ∃ x : Nat, x ≤ j ∧ m = j - x ∧ Ext h h' x ∧ getV tm 14 = .int .i64 x ∧ getV tm 13 = v ∧ getV tm 12 = .int .i64 (rnum k j) ∧ getV tm 0 = .str s ∧ getV tm 1 = .int .i64 a ∧ getV tm 10 = .ptr p4 0 ∧ getV tm 9 = .ptr p0 0 ∧ getV tm 11 = .int .i64 k) j ?_ ?_
  · exact ⟨0, by omega, by omega, Ext.refl _, t14, t13, t12, t0, t1, t10, t9, t11⟩
  clear t14 t13 t12 t0 t1 t10 t9 t11
  rintro m tm h' ⟨x, x1, rfl, ex, t14, t13, t12, t0, t1, t10, t9, t11⟩
  have et := ex.top
  have el := ex.le
  have elow := ex.low
  have hv' := hv.ext ex
  have g0' : h'.get p0 = some (oF 0 0) := (ex.get _ hp0).trans g0
  have g4' : h'.get p4 = some (oF 20 a) := (ex.get _ hp4).trans g4
  have hxl : x < rlen k := by omega
  rw [tm8 rfl t14 t13 t12 t0 t1 t10 t9 t11]
  refine wpC.seal _ (vl9_0 _ _ _ _ _ _ _ _ _ _ _ _) ⟨_, hv'.len ty42 rfl, fun _ => ?_, fun c => absurd c (by omega)⟩
  obtain ⟨b, o, e1, cs, kk, w, op, hg, hc⟩ := hv'.at hxl ty42 rfl ty45 rfl
  have hal : ald ctx 45 h' (.ptr b o) = some (.agg (rf k x)) := ald_agg ty45 rfl hg (Cs.range_is (k := 6) (by decide) rfl fun i hi => (hc i hi).trans (rl_at hxl hi))
  refine ⟨b, o, e1, _, _, _, _, _, _, hal, by omega, ?_⟩
  rintro p9 h10 rfl e10
  have n10 : h10.next = h'.next + 1 := by rw [e10, new_next]
  have x10 : Ext h' h10 1 := by rw [e10]; exact Ext.new _ (by omega)
  have g10 : h10.get h'.next = some (.cells (.ls (f6 0 0 0 0 0 0)) ⟨0, 46, 0⟩ true false) := by rw [e10]; exact get_new_self _ (by omega)
  clear e10
  obtain ⟨h11, e11, g11, x11, n11⟩ : ∃ h11, ast ctx 45 h10 (.ptr h'.next 0) (.agg (rf k x)) = some h11 ∧ h11.get h'.next = some (.cells (.ls (rf k x)) ⟨0, 46, 0⟩ true false) ∧ Ext h' h11 1 ∧ h11.next = h10.next :=
    ⟨_, ast_at ty45 g10 rfl (Nat.zero_le _) rfl rfl, get_upd_self _ (by omega), x10.upd _ (by omega) (Nat.le_refl _), rfl⟩
  have t11' := x11.top
  have l11' := x11.le
  have low11 := x11.low
  refine ⟨h11, e11, ((rnum k x : Nat) : Int), ald_one ty3 rfl g11 rfl, fun c => ?_, fun c => ?_⟩
  · intro tmn _ _ _ _ _ q9 q14 q13 q12 q0 q1 q10 q11
    have : x ≠ j := fun e => c (by rw [e])
    refine ⟨rfl, rfl, j - (x + 1), by omega, x + 1, by omega, rfl, (ex.trans x11), ?_, q13, q12, q0, q1, q10, q9, q11⟩
    rw [q14, w64_id (by omega) (by omega)]; rfl
  have hxj : x = j := by
    rcases Nat.lt_or_ge x j with g | g
    · exact absurd (fun e => c (by exact_mod_cast e)) (fun f => hne x g (by have := Classical.not_not.1 c; omega))
    · omega
  subst hxj
  clear hne c
  have g0'' : h11.get p0 = some (oF 0 0) := (x11.get _ (by omega)).trans g0'
  have g4'' : h11.get p4 = some (oF 20 a) := (x11.get _ (by omega)).trans g4'
  obtain ⟨w1, w2⟩ := fw_b k i
  have f1 := ff_b k i
  have f2 := fx_b k i
  have f3 := fy_b k i
  have f4 := fz_b k i
  unfold rf at g11
  unfold rhA at hq
  rw [← hw, ← hf, ← hx, ← hy, ← hz] at g11
  clear hal e11 hc hw hf hx hy hz
  revert g11 hq w1 w2 f1 f2 f3 f4
  generalize rnum k x = N
  generalize fw k i = w
  generalize ff k i = fr
  generalize fx k i = m
  generalize fy k i = m2
  generalize fz k i = st
  intro hq g11 w1 w2 f1 f2 f3 f4
  refine ⟨w, ald_one ty3 rfl g11 rfl, readR_ok ha hs ⟨w1, by omega⟩ (fun hc => ⟨_, _, _, _, rfl, by omega, ?_⟩) (fun hc => ⟨_, _, _, _, rfl, by omega, ?_⟩)⟩
  · rintro p20 h21 rfl e21
    have n21 : h21.next = h11.next + 1 := by rw [e21, new_next]
    have x21 : Ext h11 h21 1 := by rw [e21]; exact Ext.new _ (by omega)
    have g21 : h21.get h11.next = some (oF 0 0) := by rw [e21]; exact get_new_self _ (by omega)
    clear e21
    obtain ⟨h22, e22, g22, x22⟩ : ∃ h22, ast ctx 27 h21 (.ptr h11.next 0) (.agg [.int .i64 0, .int .i64 0]) = some h22 ∧ h22.get h11.next = some (oF 0 0) ∧ Ext h11 h22 1 :=
      ⟨_, ast_at ty27 g21 rfl (Nat.zero_le _) rfl rfl, get_upd_self _ (by omega), x21.upd _ (by omega) (Nat.le_refl _)⟩
    have t22 := x22.top
    have low22 := x22.low
    have gF : h22.get h'.next = some (.cells (.ls (f6 N w fr (fr + m) (fr + m + m2) st)) ⟨0, 46, 0⟩ true false) := (x22.get _ (by omega)).trans g11
    have gA : h22.get p0 = some (oF 0 0) := (x22.get _ (by omega)).trans g0''
    have nn : h22.next ≤ T.top := by omega
    have ll : h22.low ≤ T.top := by omega
    have hv : unle (sliceS s a (a + w)) < 1099511627776 := by
      have h1 := unle_lt (sliceS s a (a + w))
      have h2 : (sliceS s a (a + w)).length ≤ w := by simp [sliceS]; omega
      have h3 : 256 ^ (sliceS s a (a + w)).length ≤ 256 ^ 5 := Nat.pow_le_pow_right (by decide) (by omega)
      have h4 : (256 : Nat) ^ 5 = 1099511627776 := by decide
      omega
    simp only [if_pos hc] at hq
    revert hq hv
    generalize unle (sliceS s a (a + w)) = u
    intro hv hq
    have d1 : u / 2 ^ fr ≤ u := Nat.div_le_self _ _
    have d2 : u / 2 ^ (fr + m) ≤ u := Nat.div_le_self _ _
    have d3 : u / 2 ^ fr % 2 ^ m ≤ u / 2 ^ fr := Nat.mod_le _ _
    have d4 : u / 2 ^ (fr + m) % 2 ^ m2 ≤ u / 2 ^ (fr + m) := Nat.mod_le _ _
    have e1 : w64 (((fr + m : Nat) : Int) - (fr : Int)) = (m : Int) := by rw [w64_id (by omega) (by omega)]; omega
    have e2 : w64 (((fr + m + m2 : Nat) : Int) - ((fr + m : Nat) : Int)) = (m2 : Int) := by rw [w64_id (by omega) (by omega)]; omega
    refine ⟨h22, e22, 0, ald_one ty23 rfl g22 rfl, fun c => absurd rfl c, fun _ => ⟨fr, ald_one ty3 rfl gF rfl, ((u / 2 ^ fr : Nat) : Int), by rw [wrapN_u64 (by omega)]; exact shrN_u64 (by omega), ((fr + m : Nat) : Int), ald_one ty3 rfl gF rfl, fr, ald_one ty3 rfl gF rfl, ?_⟩⟩
    rw [e1]
    refine low_ok (by omega) (by omega) ⟨_, _, rfl, ((fr + m + m2 : Nat) : Int), ald_one ty3 rfl gF rfl, ((fr + m : Nat) : Int), ald_one ty3 rfl gF rfl, fun c => ⟨((fr + m : Nat) : Int), ald_one ty3 rfl gF rfl, ((u / 2 ^ (fr + m) : Nat) : Int), by rw [wrapN_u64 (by omega)]; exact shrN_u64 (by omega), ((fr + m + m2 : Nat) : Int), ald_one ty3 rfl gF rfl, ((fr + m : Nat) : Int), ald_one ty3 rfl gF rfl, ?_⟩, fun c => ?_⟩
    · rw [e2]
      refine low_ok (by omega) (by omega) ⟨_, _, rfl, ⟨nn, ll⟩, st, ald_one ty3 rfl gF rfl, _, ast_at ty27 gA rfl (Nat.zero_le _) rfl rfl, fun tmn q4 q5 q6 q7 q8 q9 _ _ _ _ _ _ _ => ?_⟩
      refine endW_rh' (p := p0) (o := 0) q4 q5 q6 q7 q8 q9 (ald_agg ty27 rfl (get_upd_self _ (by omega)) rfl) ?_
      have := hq (h22.upd p0 (some (oF 0 0)))
      rw [w64_id (by omega) (by omega), w64_id (by omega) (by omega)]
      rw [div_pow] at this
      exact this
    · have hm : m2 = 0 := by omega
      subst hm
      refine ⟨⟨nn, ll⟩, st, ald_one ty3 rfl gF rfl, _, ast_at ty27 gA rfl (Nat.zero_le _) rfl rfl, fun tmn q4 q5 q6 q7 q8 q9 _ _ _ _ _ _ _ => ?_⟩
      refine endW_rh' (p := p0) (o := 0) q4 q5 q6 q7 q8 q9 (ald_agg ty27 rfl (get_upd_self _ (by omega)) rfl) ?_
      have := hq (h22.upd p0 (some (oF 0 0)))
      rw [w64_id (by omega) (by omega)]
      rw [Nat.pow_zero, Nat.mod_one] at this
      exact this
  · rintro p20 h21 rfl e21
    have n21 : h21.next = h11.next + 1 := by rw [e21, new_next]
    have x21 : Ext h11 h21 1 := by rw [e21]; exact Ext.new _ (by omega)
    have g21 : h21.get h11.next = some (oF 0 0) := by rw [e21]; exact get_new_self _ (by omega)
    clear e21
    obtain ⟨h22, e22, g22, x22⟩ : ∃ h22, ast ctx 27 h21 (.ptr h11.next 0) (.agg [.int .i64 5, .int .i64 s.length]) = some h22 ∧ h22.get h11.next = some (oF 5 s.length) ∧ Ext h11 h22 1 :=
      ⟨_, ast_at ty27 g21 rfl (Nat.zero_le _) rfl rfl, get_upd_self _ (by omega), x21.upd _ (by omega) (Nat.le_refl _)⟩
    have t22 := x22.top
    have low22 := x22.low
    have gA : h22.get p0 = some (oF 0 0) := (x22.get _ (by omega)).trans g0''
    have gB : h22.get p4 = some (oF 20 a) := (x22.get _ (by omega)).trans g4''
    have nn : h22.next ≤ T.top := by omega
    have ll : h22.low ≤ T.top := by omega
    simp only [if_neg (show ¬ a + w ≤ s.length by omega)] at hq
    refine ⟨h22, e22, 5, ald_one ty23 rfl g22 rfl, fun _ => ⟨⟨nn, ll⟩, 20, a, ald_agg ty27 rfl gB rfl, _, ast_at ty27 gA rfl (Nat.zero_le _) rfl rfl, fun tmn q4 q5 q6 q7 q8 q9 _ _ _ _ _ _ _ => ?_⟩, fun c => absurd (by decide) c⟩
    exact endW_rh' (p := p0) (o := 0) q4 q5 q6 q7 q8 q9 (ald_agg ty27 rfl (get_upd_self _ (by omega)) rfl) (hq _)

end Go.Proofs.YtamddelaigcnkaaGreat

namespace Go.Proofs.YtamddelaigcnkaaGreat
open Go.Sim

def sel (k i : Nat) : Nat := if k < 2 then (if i = 3 then 2 else if i = 1 then 1 else 0) else i
theorem sel_ok : ∀ k, k < 4 → ∀ i, i < 4 → sel k i < rlen k ∧ rnum k (sel k i) = (if k < 2 ∧ i = 2 then 0 else i) ∧ fw k i = fw k (rnum k (sel k i)) ∧ ff k i = ff k (rnum k (sel k i)) ∧ fx k i = fx k (rnum k (sel k i)) ∧ fy k i = fy k (rnum k (sel k i)) ∧ fz k i = fz k (rnum k (sel k i)) ∧
    ∀ j', j' < sel k i → rnum k j' ≠ rnum k (sel k i) := by decide

set_option maxRecDepth 100000 in
theorem readHeadR_ok {s : List UInt8} {x : Int} {h : H} {Q : V → H → Prop} (hs : s.length < 4611686018427387904) (hq : Q (rh s x) h) : RF P ctx 9 [.str s, .int .i64 x] h Q := by
  refine RF.plain ?_ (all2 (plain_str _) (plain_int _ _))
  have hq : Plain (rh s x) ∧ Q (rh s x) h := ⟨plain_rh _ _, hq⟩
  refine RF.enterE ctx_ok fn9 (ble _ _ rfl) (ble _ _ rfl) (vb9 s x H0 _) ⟨by decide, ?_⟩
  rintro p h1 rfl e1
  have n1 : h1.next = H0.next + 1 := by rw [e1, new_next]
  have x1 : Ext H0 h1 1 := by rw [e1]; exact Ext.new _ (by decide)
  have g1 : h1.get H0.next = some (oF 0 0) := by rw [e1]; exact get_new_self _ (by decide)
  clear e1
  have z0 : H0.next = 0 := rfl
  have zl : H0.low = T.top := rfl
  have zt : 1000 < T.top := by decide
  have l1 := x1.low
  refine ⟨fun c => ?_, fun c => ⟨fun c2 => ?_, fun c2 => ?_⟩⟩
  · unfold rh at hq
    rw [if_pos (Or.inl c)] at hq
    refine ⟨_, ast_at ty27 g1 rfl (Nat.zero_le _) rfl rfl, ?_⟩
    exact endW_rh (p := H0.next) (o := 0) (by kernel_rfl) (by kernel_rfl) (by kernel_rfl) (by kernel_rfl) (by kernel_rfl) (by kernel_rfl) (ald_agg ty27 rfl (get_upd_self _ (by omega)) rfl) hq
  · have c2 : (s.length : Int) < x := c2
    unfold rh at hq
    rw [if_pos (Or.inr c2)] at hq
    refine ⟨_, ast_at ty27 g1 rfl (Nat.zero_le _) rfl rfl, ?_⟩
    exact endW_rh (p := H0.next) (o := 0) (by kernel_rfl) (by kernel_rfl) (by kernel_rfl) (by kernel_rfl) (by kernel_rfl) (by kernel_rfl) (ald_agg ty27 rfl (get_upd_self _ (by omega)) rfl) hq
  have c2 : x ≤ s.length := Int.not_lt.1 c2
  unfold rh at hq
  rw [if_neg (by omega)] at hq
  obtain ⟨a, rfl⟩ : ∃ a : Nat, x = a := ⟨x.toNat, by omega⟩
  rw [Int.toNat_natCast] at hq
  have ha : a ≤ s.length := by omega
  refine ⟨by omega, ?_⟩
  rintro p4 h5 rfl e5
  have n5 : h5.next = h1.next + 1 := by rw [e5, new_next]
  have x5 : Ext h1 h5 1 := by rw [e5]; exact Ext.new _ (by omega)
  have g5 : h5.get h1.next = some (oF 0 0) := by rw [e5]; exact get_new_self _ (by omega)
  clear e5
  have l5 := x5.low
  obtain ⟨h6, e6, g6, f6', n6, l6⟩ : ∃ h6, ast ctx 27 h5 (.ptr h1.next 0) (.agg [.int .i64 20, .int .i64 a]) = some h6 ∧ h6.get h1.next = some (oF 20 a) ∧ h6.get H0.next = some (oF 0 0) ∧ h6.next = h5.next ∧ h6.low ≤ T.top :=
    ⟨_, ast_at ty27 g5 rfl (Nat.zero_le _) rfl rfl, get_upd_self _ (by omega), by rw [get_upd_ne _ (by omega) (by omega), x5.get _ (by omega)]; exact g1, rfl, by rw [H.low_upd]; omega⟩
  have nn : h6.next ≤ T.top := by omega
  refine ⟨h6, e6, fun c => ?_, fun c => ?_⟩
  · have c : (a : Int) = s.length := c
    unfold rhA at hq
    obtain ⟨w1, w2⟩ := fw_b (hb s a % 4) (hb s a / 4 % 4)
    rw [if_neg (by omega)] at hq
    refine ⟨⟨nn, l6⟩, 20, a, ald_agg ty27 rfl g6 rfl, _, ast_at ty27 f6' rfl (Nat.zero_le _) rfl rfl, ?_⟩
    exact endW_rh (p := H0.next) (o := 0) (by kernel_rfl) (by kernel_rfl) (by kernel_rfl) (by kernel_rfl) (by kernel_rfl) (by kernel_rfl) (ald_agg ty27 rfl (get_upd_self _ (by omega)) rfl) hq
  have c : ¬ (a : Int) = s.length := c
  obtain ⟨b, hb'⟩ : ∃ b, s[a]? = some b := ⟨s[a]'(by omega), List.getElem?_eq_getElem (by omega)⟩
  have hb2 := b.toNat_lt
  rw [hb_some hb'] at hq
  have hi := index_str hb'
  revert hq hi hb2
  generalize b.toNat = n
  intro hq hb2 hi
  have ek : w64 (Int.tmod (n : Int) 4) = ((n % 4 : Nat) : Int) := by
    rw [show (4 : Int) = ((4 : Nat) : Int) from rfl, tmodN, w64_id (by omega) (by omega)]
  have ei : w64 (Int.tmod (wrapF .u8 (Int.tdiv (n : Int) 4)) 4) = ((n / 4 % 4 : Nat) : Int) := by
    rw [show (4 : Int) = ((4 : Nat) : Int) from rfl, tdivN, wrapN_u8, tmodN, w64_id (by omega) (by omega)]
    congr 1
    omega
  have hk4 : n % 4 < 4 := by omega
  have hi4 : n / 4 % 4 < 4 := by omega
  obtain ⟨s1, s2, s3, s4, s5, s6, s7, s8⟩ := sel_ok _ hk4 _ hi4
  have hq' : ∀ h' : H, Plain (rhA s a (n % 4) (n / 4 % 4)) ∧ Q (rhA s a (n % 4) (n / 4 % 4)) h := fun _ => hq
  refine ⟨⟨nn, l6⟩, n, hi, by decide, n, hi, by decide, by decide, fun q => ⟨fun q2 => ?_, fun q2 => ?_⟩, fun q => ?_⟩
  · rw [ek] at q ⊢
    rw [ei] at q2
    refine formatsR_ok hk4 (by omega) fun v h13 x13 hv => ⟨v, rfl, ?_⟩
    have t13 := x13.top
    have m13 := x13.le
    have l13 := x13.low
    refine formatLoop_ok (p4 := h1.next) (p0 := H0.next) ha hs hk4 s1 hi4 s3 s4 s5 s6 s7 s8 (by omega) (by omega) (by omega) (by omega) (by omega) ((x13.get _ (by omega)).trans f6') ((x13.get _ (by omega)).trans g6) hv (by kernel_rfl) (by kernel_rfl) ?_ (by kernel_rfl) (by kernel_rfl) (by kernel_rfl) (by kernel_rfl) ?_ hq'
    · rw [s2, if_pos ⟨by omega, by omega⟩]
      kernel_rfl
    · kernel_rfl
  · rw [ek] at q ⊢
    rw [ei] at q2
    refine formatsR_ok hk4 (by omega) fun v h13 x13 hv => ⟨v, rfl, ?_⟩
    have t13 := x13.top
    have m13 := x13.le
    have l13 := x13.low
    refine formatLoop_ok (p4 := h1.next) (p0 := H0.next) ha hs hk4 s1 hi4 s3 s4 s5 s6 s7 s8 (by omega) (by omega) (by omega) (by omega) (by omega) ((x13.get _ (by omega)).trans f6') ((x13.get _ (by omega)).trans g6) hv (by kernel_rfl) (by kernel_rfl) ?_ (by kernel_rfl) (by kernel_rfl) (by kernel_rfl) (by kernel_rfl) ?_ hq'
    · rw [s2, if_neg (by omega)]
      exact Eq.trans (b := V.int .i64 (w64 (Int.tmod (wrapF .u8 (Int.tdiv (n : Int) 4)) 4))) (by kernel_rfl) (by rw [ei])
    · kernel_rfl
  · rw [ek] at q ⊢
    refine formatsR_ok hk4 (by omega) fun v h13 x13 hv => ⟨v, rfl, ?_⟩
    have t13 := x13.top
    have m13 := x13.le
    have l13 := x13.low
    refine formatLoop_ok (p4 := h1.next) (p0 := H0.next) ha hs hk4 s1 hi4 s3 s4 s5 s6 s7 s8 (by omega) (by omega) (by omega) (by omega) (by omega) ((x13.get _ (by omega)).trans f6') ((x13.get _ (by omega)).trans g6) hv (by kernel_rfl) (by kernel_rfl) ?_ (by kernel_rfl) (by kernel_rfl) (by kernel_rfl) (by kernel_rfl) ?_ hq'
    · rw [s2, if_neg (by omega)]
      exact Eq.trans (b := V.int .i64 (w64 (Int.tmod (wrapF .u8 (Int.tdiv (n : Int) 4)) 4))) (by kernel_rfl) (by rw [ei])
    · kernel_rfl

end Go.Proofs.YtamddelaigcnkaaGreat

namespace Go.Proofs.YtamddelaigcnkaaGreat
open Go.Sim

/-- May a header of these numbers have this format? -/
def hok (k i n m : Nat) : Prop := n < 2 ^ fx k i ∧ m < 2 ^ fy k i ∧ (2 ≤ k → (fz k i = 1 ↔ n < 256))
instance (k i n m : Nat) : Decidable (hok k i n m) := by unfold hok; infer_instance

/-- The header's number. -/
def hval (k i n m : Nat) : Nat := if ff k i = 3 then k + n * 8 else k + 4 * i + n * 2 ^ ff k i + m * 2 ^ (ff k i + fx k i)

/-- The format that is taken. -/
def hsel (k n m : Nat) : Option Nat :=
  if k < 2 then (if n < 32 then some 0 else if n < 4096 then some 1 else some 3)
  else if n < 256 then (if m < 1024 then some 0 else none)
  else if n < 1024 ∧ m < 1024 then some 1 else if n < 16384 ∧ m < 16384 then some 2 else some 3

def hdN (k n m : Nat) : V := match hsel k n m with
  | some i => .tuple [.str (le (hval k i n m) (fw k i)), .int .i64 0]
  | none => .tuple [.str [], .int .i64 2]
def hd (k n m : Int) : V := if k < 0 ∨ 3 < k ∨ n < 0 ∨ 131072 < n ∨ m < 0 ∨ 131072 < m ∨ k < 2 ∧ m ≠ 0 then .tuple [.str [], .int .i64 2] else hdN k.toNat n.toNat m.toNat

theorem plain_hd (k n m : Int) : Plain (hd k n m) := by
  unfold hd hdN
  repeat' split
  all_goals exact plain2 (plain_str _) (plain_int _ _)

/-- The best format among the first ones. -/
def bst (k n m : Nat) : Nat → Option Nat
  | 0 => none
  | i + 1 => match bst k n m i with
    | none => if hok k i n m then some i else none
    | some j => if hok k i n m ∧ fw k i < fw k j then some i else some j

theorem bst_hsel {k n m : Nat} (hk : k < 4) (hn : n ≤ 131072) (hm : m ≤ 131072) (h : k < 2 → m = 0) : bst k n m 4 = hsel k n m := by
  have e : (2 : Nat) ^ 5 = 32 ∧ (2 : Nat) ^ 12 = 4096 ∧ (2 : Nat) ^ 20 = 1048576 ∧ (2 : Nat) ^ 0 = 1 ∧ (2 : Nat) ^ 10 = 1024 ∧ (2 : Nat) ^ 14 = 16384 ∧ (2 : Nat) ^ 18 = 262144 := by decide
  obtain ⟨e1, e2, e3, e4, e5, e6, e7⟩ := e
  by_cases hk2 : k < 2
  · have hm0 := h hk2
    subst hm0
    have hk3 : ¬ 2 ≤ k := by omega
    by_cases h1 : n < 32
    · have : n < 4096 := by omega
      have : n < 1048576 := by omega
      simp [bst, hsel, hok, fx, fy, fz, fw, *]
    · by_cases h2 : n < 4096
      · have : n < 1048576 := by omega
        simp [bst, hsel, hok, fx, fy, fz, fw, *]
      · have : n < 1048576 := by omega
        simp [bst, hsel, hok, fx, fy, fz, fw, *]
  · have hk3 : 2 ≤ k := by omega
    have : n < 262144 := by omega
    have : m < 262144 := by omega
    by_cases h1 : n < 256
    · have : n < 1024 := by omega
      by_cases h2 : m < 1024
      · have : m < 16384 := by omega
        simp [bst, hsel, hok, fx, fy, fz, fw, *]
      · simp [bst, hsel, hok, fx, fy, fz, fw, *]
    · by_cases h2 : n < 1024
      · have : n < 16384 := by omega
        by_cases h3 : m < 1024
        · have : m < 16384 := by omega
          simp [bst, hsel, hok, fx, fy, fz, fw, *]
        · by_cases h4 : m < 16384
          · simp [bst, hsel, hok, fx, fy, fz, fw, *]
          · simp [bst, hsel, hok, fx, fy, fz, fw, *]
      · by_cases h3 : n < 16384
        · by_cases h4 : m < 16384
          · simp [bst, hsel, hok, fx, fy, fz, fw, *]
          · simp [bst, hsel, hok, fx, fy, fz, fw, *]
        · simp [bst, hsel, hok, fx, fy, fz, fw, *]

/-- The reference's way: the place of the first format that may be. -/
theorem hsel_first {k n m : Nat} (hk : k < 4) (hn : n ≤ 131072) (hm : m ≤ 131072) (h : k < 2 → m = 0) : ∃ j, j ≤ rlen k ∧ (∀ x, x < j → ¬ hok k (rnum k x) n m) ∧
    (match hsel k n m with | none => j = rlen k | some i => j < rlen k ∧ rnum k j = i ∧ hok k i n m) := by
  have e : (2 : Nat) ^ 5 = 32 ∧ (2 : Nat) ^ 12 = 4096 ∧ (2 : Nat) ^ 20 = 1048576 ∧ (2 : Nat) ^ 0 = 1 ∧ (2 : Nat) ^ 10 = 1024 ∧ (2 : Nat) ^ 14 = 16384 ∧ (2 : Nat) ^ 18 = 262144 := by decide
  obtain ⟨e1, e2, e3, e4, e5, e6, e7⟩ := e
  have c0 : ∀ P : Nat → Prop, ∀ x, x < 0 → ¬ P x := fun _ x hx => absurd hx (by omega)
  have c1 : ∀ P : Nat → Prop, ¬ P 0 → ∀ x, x < 1 → ¬ P x := fun P h x hx => by
    obtain rfl : x = 0 := by omega
    exact h
  have c2 : ∀ P : Nat → Prop, ¬ P 0 → ¬ P 1 → ∀ x, x < 2 → ¬ P x := fun P h0 h1 x hx => by
    obtain rfl | rfl : x = 0 ∨ x = 1 := by omega
    · exact h0
    · exact h1
  have c3 : ∀ P : Nat → Prop, ¬ P 0 → ¬ P 1 → ¬ P 2 → ∀ x, x < 3 → ¬ P x := fun P h0 h1 h2 x hx => by
    obtain rfl | rfl | rfl : x = 0 ∨ x = 1 ∨ x = 2 := by omega
    · exact h0
    · exact h1
    · exact h2
  have c4 : ∀ P : Nat → Prop, ¬ P 0 → ¬ P 1 → ¬ P 2 → ¬ P 3 → ∀ x, x < 4 → ¬ P x := fun P h0 h1 h2 h3 x hx => by
    obtain rfl | rfl | rfl | rfl : x = 0 ∨ x = 1 ∨ x = 2 ∨ x = 3 := by omega
    · exact h0
    · exact h1
    · exact h2
    · exact h3
  by_cases hk2 : k < 2
  · have hm0 := h hk2
    subst hm0
    have hk3 : ¬ 2 ≤ k := by omega
    by_cases h1 : n < 32
    · exact ⟨0, by omega, c0 _, by simp [hsel, hok, rlen, rnum, fx, fy, fz, *]⟩
    · by_cases h2 : n < 4096
      · exact ⟨1, by simp [rlen, *], c1 _ (by simp [hok, rnum, fx, fy, fz, *]), by simp [hsel, hok, rlen, rnum, fx, fy, fz, *]⟩
      · have : n < 1048576 := by omega
        exact ⟨2, by simp [rlen, *], c2 _ (by simp [hok, rnum, fx, fy, fz, *]) (by simp [hok, rnum, fx, fy, fz, *]), by simp [hsel, hok, rlen, rnum, fx, fy, fz, *]⟩
  · have hk3 : 2 ≤ k := by omega
    have : n < 262144 := by omega
    have : m < 262144 := by omega
    by_cases h1 : n < 256
    · have : n < 1024 := by omega
      by_cases h2 : m < 1024
      · exact ⟨0, by omega, c0 _, by simp [hsel, hok, rlen, rnum, fx, fy, fz, *]⟩
      · exact ⟨4, by simp [rlen, *], c4 _ (by simp [hok, rnum, fx, fy, fz, *]) (by simp [hok, rnum, fx, fy, fz, *]) (by simp [hok, rnum, fx, fy, fz, *]) (by simp [hok, rnum, fx, fy, fz, *]), by simp [hsel, hok, rlen, rnum, fx, fy, fz, *]⟩
    · by_cases h2 : n < 1024 ∧ m < 1024
      · have := h2.1
        have := h2.2
        exact ⟨1, by simp [rlen, *], c1 _ (by simp [hok, rnum, fx, fy, fz, *]), by simp [hsel, hok, rlen, rnum, fx, fy, fz, *]⟩
      · have h2' : n < 1024 → ¬ m < 1024 := fun a b => h2 ⟨a, b⟩
        by_cases h3 : n < 16384 ∧ m < 16384
        · have := h3.1
          have := h3.2
          exact ⟨2, by simp [rlen, *], c2 _ (by simp [hok, rnum, fx, fy, fz, *]) (fun q => h2 (by have := q.1; have := q.2.1; simp [rnum, fx, fy, hk2, e5] at *; omega)), by simp [hsel, hok, rlen, rnum, fx, fy, fz, *]⟩
        · exact ⟨3, by simp [rlen, *], c3 _ (by simp [hok, rnum, fx, fy, fz, *]) (fun q => h2 (by have := q.1; have := q.2.1; simp [rnum, fx, fy, hk2, e5] at *; omega)) (fun q => h3 (by have := q.1; have := q.2.1; simp [rnum, fx, fy, hk2, e6] at *; omega)), by simp [hsel, hok, rlen, rnum, fx, fy, fz, *]⟩

end Go.Proofs.YtamddelaigcnkaaGreat

namespace Go.Proofs.YtamddelaigcnkaaGreat
open Go.Sim

theorem fmt_facts : ∀ k, k < 4 → ∀ i, i < 4 → ff k i + fx k i + fy k i = 8 * fw k i ∧ (k < 2 ∧ i = 2 ∨ k + 4 * i < 2 ^ ff k i) ∧ (ff k i = 3 → k < 2 ∧ (i = 0 ∨ i = 2)) ∧ 3 ≤ ff k i := by decide

theorem sum_lt {c n m a b d : Nat} (hc : c < 2 ^ a) (hn : n < 2 ^ b) (hm : m < 2 ^ d) : c + n * 2 ^ a + m * 2 ^ (a + b) < 2 ^ (a + b + d) := by
  have h1 : (n + 1) * 2 ^ a ≤ 2 ^ b * 2 ^ a := Nat.mul_le_mul_right _ hn
  have h2 : (m + 1) * 2 ^ (a + b) ≤ 2 ^ d * 2 ^ (a + b) := Nat.mul_le_mul_right _ hm
  rw [Nat.add_mul, Nat.one_mul] at h1 h2
  rw [← Nat.pow_add, Nat.add_comm b a] at h1
  rw [← Nat.pow_add, Nat.add_comm d (a + b)] at h2
  omega

/-- The header's number, and that it fits. -/
theorem hval_eq {k i n m : Nat} (hk : k < 4) (hi : i < 4) (h2 : k < 2 → m = 0) (hne : ¬ (k < 2 ∧ i = 2)) (ho : hok k i n m) : hval k i n m = k + 4 * i + n * 2 ^ ff k i + m * 2 ^ (ff k i + fx k i) ∧ hval k i n m < 256 ^ fw k i := by
  obtain ⟨a1, a2, a3, a4⟩ := fmt_facts k hk i hi
  have hc : k + 4 * i < 2 ^ ff k i := a2.resolve_left hne
  have hs := sum_lt hc ho.1 ho.2.1
  rw [a1, pow8] at hs
  have he : hval k i n m = k + 4 * i + n * 2 ^ ff k i + m * 2 ^ (ff k i + fx k i) := by
    unfold hval
    split
    · rename_i h3
      obtain ⟨hk2, hi2⟩ := a3 h3
      have : m = 0 := h2 hk2
      have : i = 0 := by omega
      subst i
      rw [h3, show m = 0 by omega]
      omega
    · rfl
  exact ⟨he, by rw [he]; exact hs⟩

/-- The sum, as the reference makes it. -/
theorem wrapSum {k i n m a b : Nat} (hk : k < 4) (hi : i < 4) (hn : n ≤ 131072) (hm : m ≤ 131072) (ha : a ≤ 4) (hb : b ≤ 20) :
    wrapF .u64 ((wrapF .u64 ((wrapF .u64 ((wrapF .u64 (k : Int)) + ((i * 2 ^ 2 : Nat) : Int))) + ((n * 2 ^ a : Nat) : Int))) + ((m * 2 ^ (a + b) : Nat) : Int)) = ((k + 4 * i + n * 2 ^ a + m * 2 ^ (a + b) : Nat) : Int) := by
  have h1 : n * 2 ^ a ≤ 131072 * 2 ^ 4 := Nat.mul_le_mul hn (Nat.pow_le_pow_right (by decide) ha)
  have h2 : m * 2 ^ (a + b) ≤ 131072 * 2 ^ 24 := Nat.mul_le_mul hm (Nat.pow_le_pow_right (by decide) (by omega))
  have e1 : ((k : Nat) : Int) + ((i * 2 ^ 2 : Nat) : Int) = ((k + 4 * i : Nat) : Int) := by omega
  rw [wrapN_u64 (n := k) (by omega), e1, wrapN_u64 (by omega), ← Int.natCast_add, wrapN_u64 (by omega), ← Int.natCast_add, wrapN_u64 (by omega)]

set_option maxRecDepth 100000 in
set_option maxHeartbeats 1000000 in
theorem headLoopR_ok {k n m j : Nat} {v : V} {tm : Tm} {h : H} {Q : V → H → Prop} (hk : k < 4) (hn : n ≤ 131072) (hm : m ≤ 131072) (h2 : k < 2 → m = 0) (hj : j ≤ rlen k) (hno : ∀ x, x < j → ¬ hok k (rnum k x) n m)
    (hnx : h.next + 10 ≤ T.top) (hv : Sl h v 6 (rlen k) (rl k))
    (t9 : getV tm 9 = .int .i64 0) (t8 : getV tm 8 = v) (t1 : getV tm 1 = .int .i64 n) (t2 : getV tm 2 = .int .i64 m) (t0 : getV tm 0 = .int .i64 k)
    (hq1 : j = rlen k → ∀ h', Q (.tuple [.str [], .int .i64 2]) h') (hq2 : j < rlen k → hok k (rnum k j) n m ∧ ∀ h', Q (.tuple [.str (le (hval k (rnum k j) n m) (fw k (rnum k j))), .int .i64 0]) h') :
    wpC Tryz.prog ctx false (.loop l7_0) ⟨114, tm, [], h⟩ (fun e s1 => (thenC (fun s1 => wpC Tryz.prog ctx false r7_1 s1 (endW ctx ⟨114, [.tmp 6, .tmp 7], b7⟩ Q)) (endW ctx ⟨114, [.tmp 6, .tmp 7], b7⟩ Q)) (exitB 0 e) s1) := by
  have hr4 : rlen k ≤ 4 := by unfold rlen; split <;> omega
  refine loop_wp (fun z tm h' => ∃ x : Nat, x ≤ j ∧ z = j - x ∧ Ext h h' x ∧ getV tm 9 = .int .i64 x ∧ getV tm 8 = v ∧ getV tm 1 = .int .i64 n ∧ getV tm 2 = .int .i64 m ∧ getV tm 0 = .int .i64 k) j ?_ ?_
  · exact ⟨0, by omega, by omega, Ext.refl _, t9, t8, t1, t2, t0⟩
  clear t9 t8 t1 t2 t0
  rintro z tm h' ⟨x, x1, rfl, ex, t9, t8, t1, t2, t0⟩
  have et := ex.top
  have el := ex.le
  have elow := ex.low
  have hv' := hv.ext ex
  rw [tm5 rfl t9 t8 t1 t2 t0]
  refine wpC.seal _ (vl7_0 _ _ _ _ _ _ _ _ _) ⟨_, hv'.len ty42 rfl, fun c => ?_, fun c tmz q6 q7 q9 q8 q1 q2 q0 => ?_⟩
  rotate_left
  · have hxj : x = rlen k := by omega
    refine exit_wp ?_
    show wpC P ctx false r7_1 ⟨114, tmz, [], h'⟩ _
    refine wpC.seal _ (vr7_1 _ _ _ _) fun tm3 p6 p7 _ _ _ _ _ => ?_
    show Q (.tuple [getV tm3 6, getV tm3 7]) h'
    rw [p6, p7]
    exact hq1 (by omega) h'
  have hxl : x < rlen k := by omega
  obtain ⟨b, o, e1, cs, kk, w, op, hg, hc⟩ := hv'.at hxl ty42 rfl ty45 rfl
  have hal : ald ctx 45 h' (.ptr b o) = some (.agg (rf k x)) := ald_agg ty45 rfl hg (Cs.range_is (k := 6) (by decide) rfl fun i hi => (hc i hi).trans (rl_at hxl hi))
  refine ⟨b, o, e1, _, _, _, _, _, _, hal, by omega, ?_⟩
  rintro p9 h10 rfl e10
  have n10 : h10.next = h'.next + 1 := by rw [e10, new_next]
  have x10 : Ext h' h10 1 := by rw [e10]; exact Ext.new _ (by omega)
  have g10 : h10.get h'.next = some (.cells (.ls (f6 0 0 0 0 0 0)) ⟨0, 46, 0⟩ true false) := by rw [e10]; exact get_new_self _ (by omega)
  clear e10
  obtain ⟨h11, e11, g11, x11, n11⟩ : ∃ h11, ast ctx 45 h10 (.ptr h'.next 0) (.agg (rf k x)) = some h11 ∧ h11.get h'.next = some (.cells (.ls (rf k x)) ⟨0, 46, 0⟩ true false) ∧ Ext h' h11 1 ∧ h11.next = h10.next :=
    ⟨_, ast_at ty45 g10 rfl (Nat.zero_le _) rfl rfl, get_upd_self _ (by omega), x10.upd _ (by omega) (Nat.le_refl _), rfl⟩
  have hN : rnum k x < 4 := by unfold rnum; unfold rlen at hxl; split at hxl <;> split <;> (try split) <;> omega
  have hne2 : ¬ (k < 2 ∧ rnum k x = 2) := by
    rintro ⟨a1, a2⟩
    unfold rnum rlen at *
    rw [if_pos a1] at hxl
    rw [if_pos a1] at a2
    split at a2 <;> omega
  have next : ¬ hok k (rnum k x) n m → ∀ tmn, getV tmn 9 = .int .i64 (w64 ((x : Int) + 1)) → getV tmn 8 = v → getV tmn 1 = .int .i64 n → getV tmn 2 = .int .i64 m → getV tmn 0 = .int .i64 k →
      ∃ z, z < j - x ∧ ∃ x : Nat, x ≤ j ∧ z = j - x ∧ Ext h h11 x ∧ getV tmn 9 = .int .i64 x ∧ getV tmn 8 = v ∧ getV tmn 1 = .int .i64 n ∧ getV tmn 2 = .int .i64 m ∧ getV tmn 0 = .int .i64 k := by
    intro hno2 tmn q9 q8 q1 q2 q0
    have hxj : x < j := by
      rcases Nat.lt_or_ge x j with g | g
      · exact g
      · obtain rfl : x = j := by omega
        exact absurd (hq2 hxl).1 hno2
    refine ⟨j - (x + 1), by omega, x + 1, by omega, rfl, ex.trans x11, ?_, q8, q1, q2, q0⟩
    rw [q9, w64_id (by omega) (by omega)]; rfl
  have act : hok k (rnum k x) n m → ∀ h', Q (.tuple [.str (le (hval k (rnum k x) n m) (fw k (rnum k x))), .int .i64 0]) h' := by
    intro ho
    have hxj : x = j := by
      rcases Nat.lt_or_ge x j with g | g
      · exact absurd ho (hno x g)
      · omega
    rw [hxj]
    exact (hq2 (by omega)).2
  have hval := fun ho => hval_eq (n := n) (m := m) hk hN h2 hne2 ho
  have x21 := x11.top
  clear hq1 hq2 hno hal hv hv' hc hg
  obtain ⟨w1, w2⟩ := fw_b k (rnum k x)
  have f1 := ff_b k (rnum k x)
  have f2 := fx_b k (rnum k x)
  have f3 := fy_b k (rnum k x)
  have hok1 : hok k (rnum k x) n m ↔ n < 2 ^ fx k (rnum k x) ∧ m < 2 ^ fy k (rnum k x) ∧ (2 ≤ k → (fz k (rnum k x) = 1 ↔ n < 256)) := Iff.rfl
  rw [hok1] at next act hval
  unfold rf at g11
  revert hN next act hval g11 w1 w2 f1 f2 f3
  unfold rf at e11
  revert e11
  clear hok1 hne2
  generalize rnum k x = i
  generalize hval k i n m = X
  generalize fw k i = w
  generalize ff k i = fr
  generalize fx k i = a
  generalize fy k i = b'
  generalize fz k i = st
  intro e11 g11 hN next act hval w1 w2 f1 f2 f3
  have sh : ∀ p q : Nat, q ≤ 20 → intB .shl .i64 (1 : Int) (wrapF .u64 (w64 (((p + q : Nat) : Int) - (p : Int)))) = some (.int .i64 ((1 * 2 ^ q : Nat) : Int)) ∨ 9000 < p := by
    intro p q hq
    rcases Nat.lt_or_ge 9000 p with g | g
    · exact .inr g
    · have b1 : 2 ^ q ≤ 2 ^ 20 := Nat.pow_le_pow_right (by decide) hq
      have e : w64 (((p + q : Nat) : Int) - (p : Int)) = (q : Int) := by rw [w64_id (by omega) (by omega)]; omega
      rw [e, wrapN_u64 (by omega)]
      exact .inl (shlN_i64 (a := 1) (by omega) (by omega))
  have sh1 := (sh fr a f2).resolve_right (by omega)
  have sh2 := (sh (fr + a) b' (by omega)).resolve_right (by omega)
  have ep : ∀ q : Nat, ((1 * 2 ^ q : Nat) : Int) = ((2 ^ q : Nat) : Int) := fun q => by rw [Nat.one_mul]
  rw [ep] at sh1 sh2
  have b1 : n * 2 ^ fr ≤ 131072 * 2 ^ 4 := Nat.mul_le_mul hn (Nat.pow_le_pow_right (by decide) f1)
  have b2 : m * 2 ^ (fr + a) ≤ 131072 * 2 ^ 24 := Nat.mul_le_mul hm (Nat.pow_le_pow_right (by decide) (by omega))
  have s1 : intB .shl .u64 (wrapF .u64 (i : Int)) (2 : Int) = some (.int .u64 ((i * 2 ^ 2 : Nat) : Int)) := by rw [wrapN_u64 (by omega)]; exact shlN_u64 (n := 2) (by decide) (by omega)
  have s2 : intB .shl .u64 (wrapF .u64 (n : Int)) (wrapF .u64 (fr : Int)) = some (.int .u64 ((n * 2 ^ fr : Nat) : Int)) := by rw [wrapN_u64 (by omega), wrapN_u64 (by omega)]; exact shlN_u64 (by omega) (by omega)
  have s3 : intB .shl .u64 (wrapF .u64 (m : Int)) (wrapF .u64 ((fr + a : Nat) : Int)) = some (.int .u64 ((m * 2 ^ (fr + a) : Nat) : Int)) := by rw [wrapN_u64 (by omega), wrapN_u64 (by omega)]; exact shlN_u64 (by omega) (by omega)
  refine ⟨h11, e11, ((fr + a : Nat) : Int), ald_one ty3 rfl g11 rfl, fr, ald_one ty3 rfl g11 rfl, _, sh1, fun c1 => ⟨((fr + a + b' : Nat) : Int), ald_one ty3 rfl g11 rfl, ((fr + a : Nat) : Int), ald_one ty3 rfl g11 rfl, _, sh2, fun c2 => ⟨fun c3 => ⟨st, ald_one ty3 rfl g11 rfl, fun c4 => ⟨fun c5 => ⟨true, rfl, fun _ => ?_, fun g => (by cases g)⟩, fun c5 => ⟨false, rfl, fun g => (by cases g), fun _ => ?_⟩⟩, fun c4 => ⟨fun c5 => ⟨false, rfl, fun g => (by cases g), fun _ => ?_⟩, fun c5 => ⟨true, rfl, fun _ => ?_, fun g => (by cases g)⟩⟩⟩, fun c3 => ?_⟩, fun c2 => ⟨fun _ tmn _ _ q9 q8 q1 q2 q0 => ⟨rfl, rfl, next (fun q => c2 (by have := q.2.1; omega)) tmn q9 q8 q1 q2 q0⟩, fun _ tmn _ _ q9 q8 q1 q2 q0 => ⟨rfl, rfl, next (fun q => c2 (by have := q.2.1; omega)) tmn q9 q8 q1 q2 q0⟩⟩⟩,
    fun c1 => ⟨fun _ tmn _ _ q9 q8 q1 q2 q0 => ⟨rfl, rfl, next (fun q => c1 (by have := q.1; omega)) tmn q9 q8 q1 q2 q0⟩, fun _ tmn _ _ q9 q8 q1 q2 q0 => ⟨rfl, rfl, next (fun q => c1 (by have := q.1; omega)) tmn q9 q8 q1 q2 q0⟩⟩⟩
  rotate_left
  · exact fun tmn _ _ q9 q8 q1 q2 q0 => ⟨rfl, rfl, next (fun q => c5 (by have := (q.2.2 (by omega)).1 (by omega); omega)) tmn q9 q8 q1 q2 q0⟩
  · exact fun tmn _ _ q9 q8 q1 q2 q0 => ⟨rfl, rfl, next (fun q => c4 (by have := (q.2.2 (by omega)).2 (by omega); omega)) tmn q9 q8 q1 q2 q0⟩
  all_goals
    have ho : n < 2 ^ a ∧ m < 2 ^ b' ∧ (2 ≤ k → (st = 1 ↔ n < 256)) := ⟨by omega, by omega, fun _ => by omega⟩
    obtain ⟨hX, hb⟩ := hval ho
    refine ⟨i, ald_one ty3 rfl g11 rfl, _, s1, fr, ald_one ty3 rfl g11 rfl, _, s2, ((fr + a : Nat) : Int), ald_one ty3 rfl g11 rfl, _, s3, w, ald_one ty3 rfl g11 rfl, ?_⟩
    rw [wrapSum hk hN hn hm f1 f2, ← hX]
    refine littleR_ok ⟨w1, w2⟩ hb ⟨_, _, rfl, fun tmn q6 q7 _ _ _ _ _ => ?_⟩
    show Q (.tuple [getV tmn 6, getV tmn 7]) h11
    rw [q6, q7]
    exact act ho h11

end Go.Proofs.YtamddelaigcnkaaGreat

namespace Go.Proofs.YtamddelaigcnkaaGreat
open Go.Sim

theorem hd_bad {k n m : Int} (h : k < 0 ∨ 3 < k ∨ n < 0 ∨ 131072 < n ∨ m < 0 ∨ 131072 < m ∨ k < 2 ∧ m ≠ 0) : hd k n m = .tuple [.str [], .int .i64 2] := by unfold hd; rw [if_pos h]
theorem hd_nat {k n m : Nat} (hk : k < 4) (hn : n ≤ 131072) (hm : m ≤ 131072) (h : k < 2 → m = 0) : hd k n m = hdN k n m := by
  unfold hd
  rw [if_neg (by omega)]
  rfl

set_option maxRecDepth 100000 in
theorem headR_ok {k n m : Int} {h : H} {Q : V → H → Prop} (hq : Q (hd k n m) h) : RF P ctx 7 [.int .i64 k, .int .i64 n, .int .i64 m] h Q := by
  refine RF.plain ?_ (all3 (plain_int _ _) (plain_int _ _) (plain_int _ _))
  have hq : ∀ h' : H, Plain (hd k n m) ∧ Q (hd k n m) h := fun _ => ⟨plain_hd _ _ _, hq⟩
  have zt : 1000 < T.top := by decide
  have bad : (k < 0 ∨ 3 < k ∨ n < 0 ∨ 131072 < n ∨ m < 0 ∨ 131072 < m ∨ k < 2 ∧ m ≠ 0) → Plain (.tuple [.str [], .int .i64 2]) ∧ Q (.tuple [.str [], .int .i64 2]) h := fun c => by have := hq H0; rwa [hd_bad c] at this
  refine RF.enterE ctx_ok fn7 (ble _ _ rfl) (ble _ _ rfl) (vb7 k n m H0 _) ⟨fun c => bad (by omega), fun c1 => ⟨fun c => bad (by omega), fun c2 => ⟨fun c => bad (by omega), fun c3 => ⟨fun c => bad (by omega), fun c4 => ⟨fun c => bad (by omega), fun c5 => ⟨fun c => bad (by omega), fun c6 => ⟨fun c7 => ⟨fun c => bad (by omega), fun c8 => ?_⟩, fun c7 => ?_⟩⟩⟩⟩⟩⟩⟩
  all_goals
    obtain ⟨k, rfl⟩ : ∃ a : Nat, k = a := ⟨k.toNat, by omega⟩
    obtain ⟨n, rfl⟩ : ∃ a : Nat, n = a := ⟨n.toNat, by omega⟩
    obtain ⟨m, rfl⟩ : ∃ a : Nat, m = a := ⟨m.toNat, by omega⟩
    have hk : k < 4 := by omega
    have hn : n ≤ 131072 := by omega
    have hm : m ≤ 131072 := by omega
    have h2 : k < 2 → m = 0 := by omega
    rw [hd_nat hk hn hm h2] at hq
    obtain ⟨j, hj, hno, hs⟩ := hsel_first hk hn hm h2
    unfold hdN at hq
    refine formatsR_ok hk (by decide) fun v h1 x1 hv => ⟨v, rfl, ?_⟩
    have z0 : H0.next = 0 := rfl
    have t1 := x1.top
    refine headLoopR_ok (j := j) hk hn hm h2 hj hno (by omega) hv (by kernel_rfl) (by kernel_rfl) (by kernel_rfl) (by kernel_rfl) (by kernel_rfl) ?_ ?_
    · intro e h'
      cases hh : hsel k n m with
      | none => rw [hh] at hq; exact hq h'
      | some i => rw [hh] at hs; exact absurd hs.1 (by omega)
    · intro e
      cases hh : hsel k n m with
      | none => rw [hh] at hs; exact absurd hs (by simp only; omega)
      | some i =>
        rw [hh] at hs hq
        obtain ⟨_, rfl, ho⟩ := hs
        exact ⟨ho, hq⟩

end Go.Proofs.YtamddelaigcnkaaGreat

namespace Go.Proofs.YtamddelaigcnkaaGreat
open Go.Sim

def bstS (k n m i : Nat) : List UInt8 := match bst k n m i with
  | none => []
  | some j => le (hval k j n m) (fw k j)
def bstN (k n m i : Nat) : Nat := match bst k n m i with
  | none => 0
  | some j => fw k j

def oFm (l : List V) : O := .cells (.ls l) ⟨0, 56, 0⟩ true false

/-- What the temporaries hold where a format is looked at. -/
structure HS (tm : Tm) (k n m x p b : Nat) (s : List UInt8) (l : List V) : Prop where
  t0 : getV tm 0 = .int .i64 k
  t1 : getV tm 1 = .int .i64 n
  t2 : getV tm 2 = .int .i64 m
  t8 : getV tm 8 = .str s
  t9 : getV tm 9 = .int .i64 b
  t10 : getV tm 10 = .int .i64 x
  t11 : getV tm 11 = .ptr p 0
  t14 : getV tm 14 = .agg l
  t15 : getV tm 15 = .int .i64 x

set_option maxRecDepth 100000 in
/-- As many streams as there have to be? -/
theorem streams_ok {tb : Bool} {k n m x p b : Nat} {s : List UInt8} {l : List V} {tm : Tm} {h : H} {Q : AX → St → Prop} (hs : HS tm k n m x p b s l) (t24 : getV tm 24 = .bool tb) (htb : tb = true ↔ 2 ≤ k) (hg : h.get p = some (oFm (fmt k x)))
    (hn : ¬ (2 ≤ k → (fz k x = 1 ↔ n < 256)) → ∀ tm', HS tm' k n m x p b s l → Q (.exit 1) ⟨98, tm', [], h⟩)
    (hy : (2 ≤ k → (fz k x = 1 ↔ n < 256)) → ∀ tm', HS tm' k n m x p b s l → Q .normal ⟨98, tm', [], h⟩) : W16 false r16_0 ⟨98, tm, [], h⟩ Q := by
  rw [tm3 rfl t24 hs.t11 hs.t1]
  refine wpS.seal (vr16_0 _ _ _ _ _ _ _) ?_
  cases tb with
  | false =>
    have hk2 : ¬ 2 ≤ k := fun c => by have := htb.2 c; cases this
    exact fun tmz _ _ _ q11 q1 _ q0 q10 q2 q9 q15 q14 q8 => hy (fun c => absurd c hk2) tmz ⟨q0.trans hs.t0, q1, q2.trans hs.t2, q8.trans hs.t8, q9.trans hs.t9, q10.trans hs.t10, q11, q14.trans hs.t14, q15.trans hs.t15⟩
  | true =>
    have hk2 : 2 ≤ k := htb.1 rfl
    show ∃ x2, ald ctx 3 h (.ptr p (0 + 4)) = some (.int .i64 x2) ∧ _
    exact ⟨fz k x, ald_one ty3 rfl hg rfl, fun c1 => ⟨fun c2 => ⟨false, rfl, fun g => (by cases g), fun _ tmz _ _ _ q11 q1 _ q0 q10 q2 q9 q15 q14 q8 => hy (fun _ => by omega) tmz ⟨q0.trans hs.t0, q1, q2.trans hs.t2, q8.trans hs.t8, q9.trans hs.t9, q10.trans hs.t10, q11, q14.trans hs.t14, q15.trans hs.t15⟩⟩,
      fun c2 => ⟨true, rfl, fun _ tmz _ _ _ q11 q1 _ q0 q10 q2 q9 q15 q14 q8 => hn (fun g => by have := g hk2; omega) tmz ⟨q0.trans hs.t0, q1, q2.trans hs.t2, q8.trans hs.t8, q9.trans hs.t9, q10.trans hs.t10, q11, q14.trans hs.t14, q15.trans hs.t15⟩, fun g => (by cases g)⟩⟩,
      fun c1 => ⟨fun c2 => ⟨true, rfl, fun _ tmz _ _ _ q11 q1 _ q0 q10 q2 q9 q15 q14 q8 => hn (fun g => by have := g hk2; omega) tmz ⟨q0.trans hs.t0, q1, q2.trans hs.t2, q8.trans hs.t8, q9.trans hs.t9, q10.trans hs.t10, q11, q14.trans hs.t14, q15.trans hs.t15⟩, fun g => (by cases g)⟩,
      fun c2 => ⟨false, rfl, fun g => (by cases g), fun _ tmz _ _ _ q11 q1 _ q0 q10 q2 q9 q15 q14 q8 => hy (fun _ => by omega) tmz ⟨q0.trans hs.t0, q1, q2.trans hs.t2, q8.trans hs.t8, q9.trans hs.t9, q10.trans hs.t10, q11, q14.trans hs.t14, q15.trans hs.t15⟩⟩⟩⟩

theorem shr_zero {n a : Nat} : ((n / 2 ^ a : Nat) : Int) ≠ 0 ↔ ¬ n < 2 ^ a := by
  have h : 0 < 2 ^ a := Nat.pow_pos (by decide)
  constructor
  · intro h1 h2
    rw [Nat.div_eq_of_lt h2] at h1
    exact h1 rfl
  · intro h1 h2
    have h3 : n / 2 ^ a = 0 := by omega
    rcases Nat.div_eq_zero_iff.1 h3 with h4 | h4 <;> omega

theorem seal_HS {k n m x p b : Nat} {s : List UInt8} {l : List V} {h : H} {e : AX} {Q : AX → St → Prop} (hq : ∀ tm', HS tm' k n m x p b s l → Q e ⟨98, tm', [], h⟩) : ∀ tm', HS tm' k n m x p b s l → sealQ L16 Q e ⟨98, tm', [], h⟩ :=
  fun _ hs tm' _ _ _ q11 q1 _ q0 q10 q2 q9 q15 q14 q8 => hq tm' ⟨q0.trans hs.t0, q1.trans hs.t1, q2.trans hs.t2, q8.trans hs.t8, q9.trans hs.t9, q10.trans hs.t10, q11.trans hs.t11, q14.trans hs.t14, q15.trans hs.t15⟩

set_option maxRecDepth 100000 in
/-- Do the numbers fit, and is the format shorter than the best one? -/
theorem fits_ok {k n m x p b : Nat} {s : List UInt8} {l : List V} {tm : Tm} {h : H} {Q : AX → St → Prop} (hs : HS tm k n m x p b s l) (hg : h.get p = some (oFm (fmt k x)))
    (hn : ¬ (n < 2 ^ fx k x ∧ m < 2 ^ fy k x ∧ (b = 0 ∨ fw k x < b)) → ∀ tm', HS tm' k n m x p b s l → Q (.exit 1) ⟨98, tm', [], h⟩)
    (hy : (n < 2 ^ fx k x ∧ m < 2 ^ fy k x ∧ (b = 0 ∨ fw k x < b)) → ∀ tm', HS tm' k n m x p b s l → W16 false r16_2 ⟨98, tm', [], h⟩ (sealQ L16 Q)) : W16 false r16_3 ⟨98, tm, [], h⟩ Q := by
  rw [tm4 rfl hs.t1 hs.t11 hs.t2 hs.t9]
  refine wpS.seal (vr16_3 _ _ _ _ _ _ _ _) ?_
  show ∃ x2, ald ctx 3 h (.ptr p (0 + 2)) = some (.int .i64 x2) ∧ _
  have f2 := fx_b k x
  have f3 := fy_b k x
  refine ⟨fx k x, ald_one ty3 rfl hg rfl, ((n / 2 ^ fx k x : Nat) : Int), shrN_i64 (by omega), fun c1 tmz _ _ _ q11 q1 _ q0 q10 q2 q9 q15 q14 q8 => hn (fun g => shr_zero.1 c1 g.1) tmz ⟨q0.trans hs.t0, q1, q2, q8.trans hs.t8, q9, q10.trans hs.t10, q11, q14.trans hs.t14, q15.trans hs.t15⟩, fun c1 => ?_⟩
  have c1' : n < 2 ^ fx k x := Classical.not_not.1 fun g => c1 (shr_zero.2 g)
  show ∃ x2, ald ctx 3 h (.ptr p (0 + 3)) = some (.int .i64 x2) ∧ _
  refine ⟨fy k x, ald_one ty3 rfl hg rfl, ((m / 2 ^ fy k x : Nat) : Int), shrN_i64 (by omega), fun c1 tmz _ _ _ q11 q1 _ q0 q10 q2 q9 q15 q14 q8 => hn (fun g => shr_zero.1 c1 g.2.1) tmz ⟨q0.trans hs.t0, q1, q2, q8.trans hs.t8, q9, q10.trans hs.t10, q11, q14.trans hs.t14, q15.trans hs.t15⟩, fun c2 => ?_⟩
  have c2' : m < 2 ^ fy k x := Classical.not_not.1 fun g => c2 (shr_zero.2 g)
  refine ⟨fun c3 => ?_, fun c3 tmz _ _ _ q11 q1 _ q0 q10 q2 q9 q15 q14 q8 => hy ⟨c1', c2', .inl (by omega)⟩ tmz ⟨q0.trans hs.t0, q1, q2, q8.trans hs.t8, q9, q10.trans hs.t10, q11, q14.trans hs.t14, q15.trans hs.t15⟩⟩
  show ∃ x2, ald ctx 3 h (.ptr p (0 + 0)) = some (.int .i64 x2) ∧ _
  exact ⟨fw k x, ald_one ty3 rfl hg rfl, fun c4 tmz _ _ _ q11 q1 _ q0 q10 q2 q9 q15 q14 q8 => hn (fun g => by have := g.2.2; omega) tmz ⟨q0.trans hs.t0, q1, q2, q8.trans hs.t8, q9, q10.trans hs.t10, q11, q14.trans hs.t14, q15.trans hs.t15⟩,
    fun c4 tmz _ _ _ q11 q1 _ q0 q10 q2 q9 q15 q14 q8 => hy ⟨c1', c2', .inr (by omega)⟩ tmz ⟨q0.trans hs.t0, q1, q2, q8.trans hs.t8, q9, q10.trans hs.t10, q11, q14.trans hs.t14, q15.trans hs.t15⟩⟩

end Go.Proofs.YtamddelaigcnkaaGreat

namespace Go.Proofs.YtamddelaigcnkaaGreat
open Go.Sim

theorem hval_or {k i n m : Nat} (hk : k < 4) (hi : i < 4) (hn : n < 2 ^ fx k i) (hf : ff k i ≠ 3) : ((k ||| i * 2 ^ 2) ||| n * 2 ^ ff k i) ||| m * 2 ^ (ff k i + fx k i) = hval k i n m := by
  have h4 : ff k i = 3 ∨ ff k i = 4 := by
    unfold ff
    repeat' split
    all_goals simp
  have h4 : ff k i = 4 := h4.resolve_left hf
  have e1 : k ||| i * 2 ^ 2 = k + i * 2 ^ 2 := or_add (by omega)
  have e2 : (k + i * 2 ^ 2) ||| n * 2 ^ ff k i = (k + i * 2 ^ 2) + n * 2 ^ ff k i := or_add (by rw [h4]; omega)
  have e3 : ((k + i * 2 ^ 2) + n * 2 ^ ff k i) ||| m * 2 ^ (ff k i + fx k i) = ((k + i * 2 ^ 2) + n * 2 ^ ff k i) + m * 2 ^ (ff k i + fx k i) := by
    refine or_add ?_
    have h1 : (n + 1) * 2 ^ ff k i ≤ 2 ^ fx k i * 2 ^ ff k i := Nat.mul_le_mul_right _ hn
    rw [Nat.add_mul, Nat.one_mul, ← Nat.pow_add, Nat.add_comm (fx k i)] at h1
    rw [h4] at h1 ⊢
    omega
  rw [e1, e2, e3]
  unfold hval
  rw [if_neg hf]
  omega

theorem hval_3 {k i n m : Nat} (hk : k < 4) (hf : ff k i = 3) : k ||| n * 2 ^ 3 = hval k i n m := by
  unfold hval
  rw [if_pos hf, or_add (by omega)]

theorem hval_lt {k i n m : Nat} (hk : k < 4) (hi : i < 4) (h2 : k < 2 → m = 0) (ho : hok k i n m) : hval k i n m < 256 ^ fw k i := by
  by_cases hf : k < 2 ∧ i = 2
  · obtain ⟨h1, rfl⟩ := hf
    have e1 : ff k 2 = 3 := by simp [ff, h1]
    have e2 : fx k 2 = 5 := by simp [fx, h1]
    have e3 : fw k 2 = 1 := by simp [fw, h1]
    have := ho.1
    unfold hval
    rw [if_pos e1, e3]
    rw [e2] at this
    omega
  · exact (hval_eq hk hi h2 hf ho).2

set_option maxRecDepth 100000 in
/-- The best header so far is this one. -/
theorem value_ok {k n m x p b : Nat} {s : List UInt8} {l : List V} {tm : Tm} {h : H} {Q : AX → St → Prop} (hs : HS tm k n m x p b s l) (hg : h.get p = some (oFm (fmt k x))) (hk : k < 4) (hx : x < 4) (hn : n ≤ 131072) (hm : m ≤ 131072)
    (h2 : k < 2 → m = 0) (ho : hok k x n m) (hnx : h.next ≤ T.top) (hlow : h.low ≤ T.top)
    (hq : ∀ tm', HS tm' k n m x p (fw k x) (le (hval k x n m) (fw k x)) l → Q .normal ⟨98, tm', [], h⟩) : W16 false r16_2 ⟨98, tm, [], h⟩ Q := by
  rw [tm5 rfl hs.t0 hs.t10 hs.t1 hs.t11 hs.t2]
  have f1 := ff_b k x
  have f2 := fx_b k x
  have f3 := fy_b k x
  have b1 : n * 2 ^ ff k x ≤ 131072 * 2 ^ 4 := Nat.mul_le_mul hn (Nat.pow_le_pow_right (by decide) f1)
  have b2 : m * 2 ^ (ff k x + fx k x) ≤ 131072 * 2 ^ 24 := Nat.mul_le_mul hm (Nat.pow_le_pow_right (by decide) (by omega))
  have o1 : k ||| x * 2 ^ 2 < 2 ^ 60 := Nat.or_lt_two_pow (by omega) (by omega)
  have o2 : (k ||| x * 2 ^ 2) ||| n * 2 ^ ff k x < 2 ^ 60 := Nat.or_lt_two_pow o1 (by omega)
  have w1 := hval_lt hk hx h2 ho
  have fin : ∀ tm', getV tm' 12 = .int .u64 (hval k x n m : Nat) → HS tm' k n m x p b s l → W16 false r16_1 ⟨98, tm', [], h⟩ (sealQ L16 Q) := by
    intro tm' t12 hs
    rw [tm2 rfl t12 hs.t11]
    refine wpS.seal (vr16_1 _ _ _ _ _ _) ?_
    show ∃ x2, ald ctx 3 h (.ptr p (0 + 0)) = some (.int .i64 x2) ∧ _
    refine ⟨fw k x, ald_one ty3 rfl hg rfl, littleP_ok (fw_b k x) w1 ⟨_, _, rfl, ?_⟩⟩
    show ∃ x2, ald ctx 3 h (.ptr p (0 + 0)) = some (.int .i64 x2) ∧ _
    exact ⟨fw k x, ald_one ty3 rfl hg rfl, fun tmz _ _ _ q11 q1 _ q0 q10 q2 q9 q15 q14 q8 => seal_HS hq tmz ⟨q0.trans hs.t0, q1.trans hs.t1, q2.trans hs.t2, q8, q9, q10.trans hs.t10, q11, q14.trans hs.t14, q15.trans hs.t15⟩⟩
  refine wpS.seal (vr16_2 _ _ _ _ _ _ _ _ _) ⟨⟨hnx, hlow⟩, ((x * 2 ^ 2 : Nat) : Int), ?_, ((k ||| x * 2 ^ 2 : Nat) : Int), ?_, ?_⟩
  · rw [wrapN_u64 (by omega)]; exact shlN_u64 (n := 2) (by decide) (by omega)
  · rw [wrapN_u64 (by omega)]; exact orN_u64 (by omega) (by omega)
  show ∃ x2, ald ctx 3 h (.ptr p (0 + 1)) = some (.int .i64 x2) ∧ _
  refine ⟨ff k x, ald_one ty3 rfl hg rfl, ((n * 2 ^ ff k x : Nat) : Int), ?_, (((k ||| x * 2 ^ 2) ||| n * 2 ^ ff k x : Nat) : Int), orN_u64 (by omega) (by omega), ?_⟩
  · rw [wrapN_u64 (by omega)]; exact shlN_u64 (by omega) (by omega)
  show ∃ x2, ald ctx 3 h (.ptr p (0 + 1)) = some (.int .i64 x2) ∧ _
  refine ⟨ff k x, ald_one ty3 rfl hg rfl, ?_⟩
  show ∃ x2, ald ctx 3 h (.ptr p (0 + 2)) = some (.int .i64 x2) ∧ _
  refine ⟨fx k x, ald_one ty3 rfl hg rfl, ((m * 2 ^ (ff k x + fx k x) : Nat) : Int), ?_, ((((k ||| x * 2 ^ 2) ||| n * 2 ^ ff k x) ||| m * 2 ^ (ff k x + fx k x) : Nat) : Int), orN_u64 (by omega) (by omega), ?_⟩
  · rw [wrapN_u64 (by omega), w64_id (by omega) (by omega)]; exact shlN_u64 (n := ff k x + fx k x) (by omega) (by omega)
  show ∃ x2, ald ctx 3 h (.ptr p (0 + 1)) = some (.int .i64 x2) ∧ _
  refine ⟨ff k x, ald_one ty3 rfl hg rfl, fun c => ?_, fun c tmz _ _ _ q11 q1 q12 q0 q10 q2 q9 q15 q14 q8 => fin tmz ?_ ⟨q0, q1, q2, q8.trans hs.t8, q9.trans hs.t9, q10, q11, q14.trans hs.t14, q15.trans hs.t15⟩⟩
  · have c' : ff k x = 3 := by omega
    show ∃ x2, ald ctx 3 h (.ptr p (0 + 1)) = some (.int .i64 x2) ∧ _
    refine ⟨ff k x, ald_one ty3 rfl hg rfl, ((n * 2 ^ ff k x : Nat) : Int), ?_, (hval k x n m : Nat), ?_, fun tmz _ _ _ q11 q1 q12 q0 q10 q2 q9 q15 q14 q8 => fin tmz q12 ⟨q0, q1, q2, q8.trans hs.t8, q9.trans hs.t9, q10, q11, q14.trans hs.t14, q15.trans hs.t15⟩⟩
    · rw [wrapN_u64 (by omega)]; exact shlN_u64 (by omega) (by omega)
    · rw [wrapN_u64 (by omega), orN_u64 (by omega) (by omega), c', hval_3 (m := m) hk c']
  · rw [q12, hval_or hk hx ho.1 (fun g => c (by omega))]

end Go.Proofs.YtamddelaigcnkaaGreat

namespace Go.Proofs.YtamddelaigcnkaaGreat
open Go.Sim

theorem bst_some {k n m j : Nat} : ∀ {i}, bst k n m i = some j → j < i
  | 0, h => by cases h
  | i + 1, h => by
    unfold bst at h
    cases e : bst k n m i with
    | none => rw [e] at h; simp only at h; split at h <;> cases h; omega
    | some z =>
      rw [e] at h
      simp only at h
      have := bst_some e
      split at h <;> cases h <;> omega

theorem bstN_zero {k n m i : Nat} : bstN k n m i = 0 ↔ bst k n m i = none := by
  unfold bstN
  cases bst k n m i with
  | none => simp
  | some j => have := fw_b k j; simp; omega

/-- A format more: it is the best, or the best stays. -/
theorem bst_yes {k n m x : Nat} (ho : hok k x n m) (hb : bstN k n m x = 0 ∨ fw k x < bstN k n m x) : bst k n m (x + 1) = some x := by
  show (match bst k n m x with | none => if hok k x n m then some x else none | some j => if hok k x n m ∧ fw k x < fw k j then some x else some j) = some x
  unfold bstN at hb
  cases e : bst k n m x with
  | none => simp only; rw [if_pos ho]
  | some j =>
    rw [e] at hb
    simp only at hb ⊢
    have := fw_b k j
    rw [if_pos ⟨ho, by omega⟩]
theorem bst_no {k n m x : Nat} (h : ¬ (hok k x n m ∧ (bstN k n m x = 0 ∨ fw k x < bstN k n m x))) : bst k n m (x + 1) = bst k n m x := by
  show (match bst k n m x with | none => if hok k x n m then some x else none | some j => if hok k x n m ∧ fw k x < fw k j then some x else some j) = bst k n m x
  unfold bstN at h
  cases e : bst k n m x with
  | none => rw [e] at h; simp only at h ⊢; rw [if_neg (fun g => h ⟨g, .inl trivial⟩)]
  | some j =>
    rw [e] at h
    simp only at h ⊢
    rw [if_neg (fun g => h ⟨g.1, .inr g.2⟩)]

theorem bstS_some {k n m i j : Nat} (h : bst k n m i = some j) : bstS k n m i = le (hval k j n m) (fw k j) ∧ bstN k n m i = fw k j := by
  unfold bstS bstN; rw [h]; exact ⟨rfl, rfl⟩
theorem bst_same {k n m i j : Nat} (h : bst k n m i = bst k n m j) : bstS k n m i = bstS k n m j ∧ bstN k n m i = bstN k n m j := by
  unfold bstS bstN; rw [h]; exact ⟨rfl, rfl⟩

theorem exitC_wp {i : Nat} {K : St → Prop} {R : AX → St → Prop} {s : St} (h : K s) : thenC K R (exitB i (.exit i)) s := by
  rw [exitB_same]
  exact h

theorem hsb {tm tm' : Tm} {k n m x p b : Nat} {s : List UInt8} {l : List V} (hs : HS tm k n m x p b s l) (r0 : kp tm' tm 0) (r1 : kp tm' tm 1) (r2 : kp tm' tm 2) (r8 : kp tm' tm 8) (r9 : kp tm' tm 9) (r10 : kp tm' tm 10) (r11 : kp tm' tm 11) (r14 : kp tm' tm 14) (r15 : kp tm' tm 15) : HS tm' k n m x p b s l :=
  ⟨r0.trans hs.t0, r1.trans hs.t1, r2.trans hs.t2, r8.trans hs.t8, r9.trans hs.t9, r10.trans hs.t10, r11.trans hs.t11, r14.trans hs.t14, r15.trans hs.t15⟩

/-- One format: the header is this one's, or it stays. -/
theorem body16_ok {tb : Bool} {k n m x p : Nat} {l : List V} {tm : Tm} {h : H} {R : AX → St → Prop} (hs : HS tm k n m x p (bstN k n m x) (bstS k n m x) l) (t24 : getV tm 24 = .bool tb) (htb : tb = true ↔ 2 ≤ k) (hg : h.get p = some (oFm (fmt k x)))
    (hk : k < 4) (hx : x < 4) (hn : n ≤ 131072) (hm : m ≤ 131072) (h2 : k < 2 → m = 0) (hnx : h.next ≤ T.top) (hlow : h.low ≤ T.top)
    (hq : ∀ e, e = .normal ∨ e = .exit 1 → ∀ tm', HS tm' k n m x p (bstN k n m (x + 1)) (bstS k n m (x + 1)) l → R e ⟨98, tm', [], h⟩) :
    W16 false r16_0 ⟨98, tm, [], h⟩ (thenC (sealK L16 fun s1 => W16 false r16_3 s1 R) R) := by
  have no : ¬ (hok k x n m ∧ (bstN k n m x = 0 ∨ fw k x < bstN k n m x)) → ∀ tm', HS tm' k n m x p (bstN k n m x) (bstS k n m x) l → R (.exit 1) ⟨98, tm', [], h⟩ := fun c tm' hs' => by
    obtain ⟨e1, e2⟩ := bst_same (bst_no c)
    rw [← e1, ← e2] at hs'
    exact hq _ (.inr rfl) tm' hs'
  have yes : hok k x n m ∧ (bstN k n m x = 0 ∨ fw k x < bstN k n m x) → ∀ tm', HS tm' k n m x p (fw k x) (le (hval k x n m) (fw k x)) l → R .normal ⟨98, tm', [], h⟩ := fun c tm' hs' => by
    obtain ⟨e1, e2⟩ := bstS_some (bst_yes c.1 c.2)
    rw [← e1, ← e2] at hs'
    exact hq _ (.inl rfl) tm' hs'
  refine streams_ok hs t24 htb hg (fun c tm' hs' => no (fun g => c g.1.2.2) tm' hs') (fun c tm' hs' tm2 _ _ _ r11 r1 _ r0 r10 r2 r9 r15 r14 r8 => ?_)
  exact fits_ok (hsb hs' r0 r1 r2 r8 r9 r10 r11 r14 r15) hg (fun c2 tm3 hs3 => no (fun g => c2 ⟨g.1.1, g.1.2.1, g.2⟩) tm3 hs3) fun c2 tm3 hs3 => value_ok hs3 hg hk hx hn hm h2 ⟨c2.1, c2.2.1, c⟩ hnx hlow (seal_HS (yes ⟨⟨c2.1, c2.2.1, c⟩, c2.2.2⟩))

set_option maxRecDepth 100000 in
set_option maxHeartbeats 1000000 in
theorem headLoop_ok {k n m : Nat} {tm : Tm} {h : H} {Q : V → H → Prop} (hk : k < 4) (hn : n ≤ 131072) (hm : m ≤ 131072) (h2 : k < 2 → m = 0) (hnx : h.next + 4 ≤ T.top) (hlow : h.low ≤ T.top)
    (t15 : getV tm 15 = .int .i64 0) (t14 : getV tm 14 = .agg (if k < 2 then fmA else fmB)) (t0 : getV tm 0 = .int .i64 k) (t1 : getV tm 1 = .int .i64 n) (t2 : getV tm 2 = .int .i64 m) (t8 : getV tm 8 = .str []) (t9 : getV tm 9 = .int .i64 0)
    (hq : ∀ h', Q (.tuple [.str (bstS k n m 4), .bool (decide (0 < bstN k n m 4))]) h') :
    wpC Tryz.prog ctx false (.loop l16_5) ⟨98, tm, [], h⟩ (fun e s1 => (thenC (fun s1 => W16 false r16_6 s1 (endW ctx ⟨98, [.tmp 6, .tmp 7], b16⟩ Q)) (endW ctx ⟨98, [.tmp 6, .tmp 7], b16⟩ Q)) (exitB 0 e) s1) := by
  refine loop_wp (fun z tm h' => ∃ x : Nat, x ≤ 4 ∧ z = 4 - x ∧ Ext h h' x ∧ getV tm 15 = .int .i64 x ∧ getV tm 14 = .agg (if k < 2 then fmA else fmB) ∧ getV tm 0 = .int .i64 k ∧ getV tm 1 = .int .i64 n ∧ getV tm 2 = .int .i64 m ∧ getV tm 8 = .str (bstS k n m x) ∧ getV tm 9 = .int .i64 (bstN k n m x)) 4 ?_ ?_
  · exact ⟨0, by omega, by omega, Ext.refl _, t15, t14, t0, t1, t2, t8, t9⟩
  clear t15 t14 t0 t1 t2 t8 t9
  rintro z tm h' ⟨x, x1, rfl, ex, t15, t14, t0, t1, t2, t8, t9⟩
  have et := ex.top
  have el := ex.le
  have elow := ex.low
  obtain ⟨y0, y1, y2, y3, y4, y5, y6, y7, y8, y9, y10, y11, y12, y13, y14, y15, y16, y17, y18, y19, ef⟩ := fm_list k
  rw [ef] at t14
  rw [tm3 rfl t15 t14 t0]
  refine wpC.sealS (vl16_5 _ _ _ _ _ _ _ _ _ _ _ _ _ _ _ _ _ _ _ _ _ _ _ _ _ _) ⟨fun c => ?_, fun c tmz q6 q7 q24 q11 q1 q12 q0 q10 q2 q9 q15 q14 q8 => ?_⟩
  rotate_left
  · have hx : x = 4 := by omega
    subst hx
    refine exit_wp ?_
    show W16 false r16_6 ⟨98, tmz, [], h'⟩ _
    rw [tm2 rfl (q8.trans t8) (q9.trans t9)]
    refine wpS.seal (vr16_6 _ _ _ _ _ _) ⟨fun c tm3 p6 p7 _ _ _ _ _ _ _ _ _ _ _ => ?_, fun c tm3 p6 p7 _ _ _ _ _ _ _ _ _ _ _ => ?_⟩
    · show Q (.tuple [getV tm3 6, getV tm3 7]) h'
      rw [p6, p7]
      have := hq h'
      rwa [decide_eq_true (by omega)] at this
    · show Q (.tuple [getV tm3 6, getV tm3 7]) h'
      rw [p6, p7]
      have := hq h'
      rwa [decide_eq_false (by omega)] at this
  have hx : x < 4 := by omega
  have ea := fm_at (k := k) hx
  rw [ef] at ea
  refine ⟨_, _, _, _, _, ea, by omega, ?_⟩
  rintro p h6 rfl e6
  have n6 : h6.next = h'.next + 1 := by rw [e6, new_next]
  have x6 : Ext h' h6 1 := by rw [e6]; exact Ext.new _ (by omega)
  have g6 : h6.get h'.next = some (oFm (fm 0 0 0 0 0)) := by rw [e6]; exact get_new_self _ (by omega)
  clear e6
  obtain ⟨h7, e7, g7, x7, n7⟩ : ∃ h7, ast ctx 55 h6 (.ptr h'.next 0) (.agg (fmt k x)) = some h7 ∧ h7.get h'.next = some (oFm (fmt k x)) ∧ Ext h' h7 1 ∧ h7.next = h6.next :=
    ⟨_, ast_at ty55 g6 rfl (Nat.zero_le _) rfl rfl, get_upd_self _ (by omega), x6.upd _ (by omega) (Nat.le_refl _), rfl⟩
  have l7 := x7.low
  -- behind the body
  have out : ∀ tmn, getV tmn 15 = .int .i64 x → getV tmn 14 = .agg [.int .i64 y0, .int .i64 y1, .int .i64 y2, .int .i64 y3, .int .i64 y4, .int .i64 y5, .int .i64 y6, .int .i64 y7, .int .i64 y8, .int .i64 y9, .int .i64 y10, .int .i64 y11, .int .i64 y12, .int .i64 y13, .int .i64 y14, .int .i64 y15, .int .i64 y16, .int .i64 y17, .int .i64 y18, .int .i64 y19] → getV tmn 0 = .int .i64 k → getV tmn 1 = .int .i64 n → getV tmn 2 = .int .i64 m → getV tmn 8 = .str (bstS k n m (x + 1)) → getV tmn 9 = .int .i64 (bstN k n m (x + 1)) →
      W16 false r16_4 ⟨98, tmn, [], h7⟩ (sealQ L16 (thenC (fun s1 => s1.n = 98 ∧ s1.dfr = [] ∧ ∃ j, j < 4 - x ∧ ∃ x : Nat, x ≤ 4 ∧ j = 4 - x ∧ Ext h s1.heap x ∧ getV s1.tm 15 = .int .i64 x ∧ getV s1.tm 14 = .agg (if k < 2 then fmA else fmB) ∧ getV s1.tm 0 = .int .i64 k ∧ getV s1.tm 1 = .int .i64 n ∧ getV s1.tm 2 = .int .i64 m ∧ getV s1.tm 8 = .str (bstS k n m x) ∧ getV s1.tm 9 = .int .i64 (bstN k n m x)) (fun e s1 => (thenC (fun s1 => W16 false r16_6 s1 (endW ctx ⟨98, [.tmp 6, .tmp 7], b16⟩ Q)) (endW ctx ⟨98, [.tmp 6, .tmp 7], b16⟩ Q)) (exitB 0 e) s1))) := by
    intro tmn t15 t14 t0 t1 t2 t8 t9
    rw [tm1 rfl t15]
    refine wpS.seal (vr16_4 _ _ _ _ _) fun tmz q6 q7 q24 q11 q1 q12 q0 q10 q2 q9 q15 q14 q8 tmy r6 r7 r24 r11 r1 r12 r0 r10 r2 r9 r15 r14 r8 => ⟨rfl, rfl, 4 - (x + 1), by omega, x + 1, by omega, rfl, ex.trans x7, ?_, ?_, r0.trans (q0.trans t0), r1.trans (q1.trans t1), r2.trans (q2.trans t2), r8.trans (q8.trans t8), r9.trans (q9.trans t9)⟩
    · rw [r15, q15, w64_id (by omega) (by omega)]; rfl
    · rw [ef]; exact r14.trans (q14.trans t14)
  have hsz : ∀ tmz, getV tmz 11 = .ptr h'.next 0 → kp tmz tm 1 → getV tmz 0 = .int .i64 k → getV tmz 10 = .int .i64 x → kp tmz tm 2 → kp tmz tm 9 → getV tmz 15 = .int .i64 x → getV tmz 14 = .agg [.int .i64 y0, .int .i64 y1, .int .i64 y2, .int .i64 y3, .int .i64 y4, .int .i64 y5, .int .i64 y6, .int .i64 y7, .int .i64 y8, .int .i64 y9, .int .i64 y10, .int .i64 y11, .int .i64 y12, .int .i64 y13, .int .i64 y14, .int .i64 y15, .int .i64 y16, .int .i64 y17, .int .i64 y18, .int .i64 y19] → kp tmz tm 8 →
      HS tmz k n m x h'.next (bstN k n m x) (bstS k n m x) [.int .i64 y0, .int .i64 y1, .int .i64 y2, .int .i64 y3, .int .i64 y4, .int .i64 y5, .int .i64 y6, .int .i64 y7, .int .i64 y8, .int .i64 y9, .int .i64 y10, .int .i64 y11, .int .i64 y12, .int .i64 y13, .int .i64 y14, .int .i64 y15, .int .i64 y16, .int .i64 y17, .int .i64 y18, .int .i64 y19] :=
    fun tmz q11 q1 q0 q10 q2 q9 q15 q14 q8 => ⟨q0, q1.trans t1, q2.trans t2, q8.trans t8, q9.trans t9, q10, q11, q14, q15⟩
  have ntop : h7.next ≤ T.top := by omega
  have nlow : h7.low ≤ T.top := by omega
  refine ⟨h7, e7, fun c2 tmz _ _ q24 q11 q1 _ q0 q10 q2 q9 q15 q14 q8 => ?_, fun c2 => ⟨fun c3 tmz _ _ q24 q11 q1 _ q0 q10 q2 q9 q15 q14 q8 => ?_, fun c3 tmz _ _ q24 q11 q1 _ q0 q10 q2 q9 q15 q14 q8 => ?_⟩⟩
  all_goals
    refine body16_ok (hsz tmz q11 q1 q0 q10 q2 q9 q15 q14 q8) q24 (by simp; omega) g7 hk hx hn hm h2 ntop nlow ?_
    rintro e (rfl | rfl) tm' hs
    · exact out tm' hs.t15 hs.t14 hs.t0 hs.t1 hs.t2 hs.t8 hs.t9
    · refine exitC_wp ?_
      exact out tm' hs.t15 hs.t14 hs.t0 hs.t1 hs.t2 hs.t8 hs.t9

set_option maxRecDepth 100000 in
/-- The program's Head. -/
theorem head_ok {k n m : Int} {h : H} {Q : V → H → Prop} (hq : Q (hd k n m) h) : RF P ctx 6 [.int .i64 k, .int .i64 n, .int .i64 m] h Q := by
  refine RF.plain ?_ (all3 (plain_int _ _) (plain_int _ _) (plain_int _ _))
  have hq : ∀ h' : H, Plain (hd k n m) ∧ Q (hd k n m) h := fun _ => ⟨plain_hd _ _ _, hq⟩
  have bad : (k < 0 ∨ 3 < k ∨ n < 0 ∨ 131072 < n ∨ m < 0 ∨ 131072 < m ∨ k < 2 ∧ m ≠ 0) → Plain (.tuple [.str [], .int .i64 2]) ∧ Q (.tuple [.str [], .int .i64 2]) h := fun c => by have := hq H0; rwa [hd_bad c] at this
  refine RF.enterE ctx_ok fn6 (ble _ _ rfl) (ble _ _ rfl) (vb6 k n m H0 _) ⟨fun c => bad (by omega), fun c1 => ⟨fun c => bad (by omega), fun c2 => ⟨fun c => bad (by omega), fun c3 => ⟨fun c => bad (by omega), fun c4 => ⟨fun c => bad (by omega), fun c5 => ⟨fun c => bad (by omega), fun c6 => ⟨fun c7 => ⟨fun c => bad (by omega), fun c8 => ?_⟩, fun c7 => ?_⟩⟩⟩⟩⟩⟩⟩
  all_goals
    obtain ⟨k, rfl⟩ : ∃ a : Nat, k = a := ⟨k.toNat, by omega⟩
    obtain ⟨n, rfl⟩ : ∃ a : Nat, n = a := ⟨n.toNat, by omega⟩
    obtain ⟨m, rfl⟩ : ∃ a : Nat, m = a := ⟨m.toNat, by omega⟩
    have hk : k < 4 := by omega
    have hn : n ≤ 131072 := by omega
    have hm : m ≤ 131072 := by omega
    have h2 : k < 2 → m = 0 := by omega
    rw [hd_nat hk hn hm h2] at hq
    have hb := bst_hsel hk hn hm h2
    have z0 : H0.next = 0 := rfl
    have zl : H0.low ≤ T.top := Nat.le_refl _
    have zt : 1000 < T.top := by decide
    obtain ⟨y0, y1, y2, y3, y4, y5, y6, y7, y8, y9, y10, y11, y12, y13, y14, y15, y16, y17, y18, y19, ef⟩ := fm_list k
    refine RF.enterS ctx_ok fn16 (ble _ _ rfl) (ble _ _ rfl) (vb16 k n m H0 _) (formats_ok hk ⟨y0, y1, y2, y3, y4, y5, y6, y7, y8, y9, y10, y11, y12, y13, y14, y15, y16, y17, y18, y19, by rw [ef], fun tm q6 q7 q24 q11 q1 q12 q0 q10 q2 q9 q15 q14 q8 => ?_⟩)
    refine headLoop_ok hk hn hm h2 (by omega) zl q15 (by rw [ef]; exact q14) q0 q1 q2 q8 q9 fun h' => ⟨bstS k n m 4, _, rfl, fun c => ?_, fun c => ?_⟩
    · have c' : 0 < bstN k n m 4 := of_decide_eq_true c
      unfold hdN at hq
      unfold bstS
      unfold bstN at c'
      rw [hb] at c' ⊢
      cases hh : hsel k n m with
      | none => rw [hh] at c'; exact absurd c' (Nat.lt_irrefl 0)
      | some i => rw [hh] at hq; exact hq h'
    · have c' : ¬ 0 < bstN k n m 4 := of_decide_eq_false c
      unfold hdN at hq
      unfold bstN at c'
      rw [hb] at c'
      cases hh : hsel k n m with
      | none => rw [hh] at hq; exact hq h'
      | some i => rw [hh] at c'; have := fw_b k i; exact absurd this.1 (by simp only at c'; omega)

end Go.Proofs.YtamddelaigcnkaaGreat

namespace Go.Proofs.YtamddelaigcnkaaGreat
open Go.Sim

theorem hd_is (k n m : Int) : ∃ l x, hd k n m = .tuple [.str l, .int .i64 x] := by
  unfold hd hdN
  repeat' split
  all_goals exact ⟨_, _, rfl⟩
theorem rh_is (s : List UInt8) (x : Int) : ∃ a b c d e f g, rh s x = rhN a b c d e f g := by
  unfold rh rhA
  repeat' split
  all_goals exact ⟨_, _, _, _, _, _, _, rfl⟩

theorem eqF_self (a : Int) : eqF a a = true := by cases a <;> simp [eqF]

set_option maxRecDepth 100000 in
theorem fault_eq (x y : Operand) (a b c d : Int) : abin ctx .eql 27 x y (.agg [.int .i64 a, .int .i64 b]) (.agg [.int .i64 c, .int .i64 d]) = some (.bool (cond (eqF a c) (eqF b d) false)) := by
  have e : abin ctx .eql 27 x y (.agg [.int .i64 a, .int .i64 b]) (.agg [.int .i64 c, .int .i64 d]) = (match (match some (eqF a c) with | some true => (match some (eqF b d) with | some true => some true | r => r) | r => r) with | some r => some (.bool r) | none => none) := by kernel_rfl
  rw [e]
  cases eqF a c <;> cases eqF b d <;> rfl

set_option maxRecDepth 100000 in
theorem heads_all {k n m a : Int} {s : List UInt8} {h : H} {Q : V → H → Prop} (haw : ∀ (h : H) (Q : V → H → Prop), Q (.bool true) h → RF P ctx 5 [] h Q) (hn : h.next + 10 ≤ T.top) (hq : ∀ h', Q (.bool true) h') : RF P ctx 3 [.int .i64 k, .int .i64 n, .int .i64 m, .str s, .int .i64 a] h Q := by
  refine RF.enterE ctx_ok fn3 (ble _ _ rfl) (ble _ _ rfl) (vb3 k n m s a h Q) ⟨fun _ => haw _ _ ⟨_, rfl, fun _ => hq _, fun g => (by cases g)⟩, fun c => ?_⟩
  have hs : s.length < 4611686018427387904 := by
    have : ¬ (60 : Int) < (s.length : Int) := c
    omega
  obtain ⟨l, x, e⟩ := hd_is k n m
  obtain ⟨p1, p2, p3, p4, p5, p6, p7, er⟩ := rh_is s a
  refine head_ok ⟨l, x, e, headR_ok ⟨l, x, e, readHead_ok hs ⟨_, _, _, _, _, _, _, er, by omega, ?_⟩⟩⟩
  rintro p20 h21 rfl e21
  have n21 : h21.next = h.next + 1 := by rw [e21, new_next]
  have g21 : h21.get h.next = some (oF 0 0) := by rw [e21]; exact get_new_self _ (by omega)
  clear e21
  obtain ⟨h22, e22, g22, n22⟩ : ∃ h22, ast ctx 27 h21 (.ptr h.next 0) (.agg [.int .i64 p6, .int .i64 p7]) = some h22 ∧ h22.get h.next = some (oF p6 p7) ∧ h22.next = h21.next :=
    ⟨_, ast_at ty27 g21 rfl (Nat.zero_le _) rfl rfl, get_upd_self _ (by omega), rfl⟩
  refine ⟨h22, e22, readHeadR_ok hs ⟨_, _, _, _, _, _, _, er, by omega, ?_⟩⟩
  rintro p32 h33 rfl e33
  have n33 : h33.next = h22.next + 1 := by rw [e33, new_next]
  have g33 : h33.get h22.next = some (oF 0 0) := by rw [e33]; exact get_new_self _ (by omega)
  have k33 : h33.get h.next = some (oF p6 p7) := by rw [e33, get_new_old _ (by omega) (by omega)]; exact g22
  clear e33
  obtain ⟨h34, e34, g34, k34⟩ : ∃ h34, ast ctx 27 h33 (.ptr h22.next 0) (.agg [.int .i64 p6, .int .i64 p7]) = some h34 ∧ h34.get h22.next = some (oF p6 p7) ∧ h34.get h.next = some (oF p6 p7) :=
    ⟨_, ast_at ty27 g33 rfl (Nat.zero_le _) rfl rfl, get_upd_self _ (by omega), by rw [get_upd_ne _ (by omega) (by omega)]; exact k33⟩
  exact ⟨h34, e34, fun _ => ⟨fun _ => ⟨fun _ => ⟨fun _ => ⟨fun _ => ⟨fun _ => ⟨fun _ => ⟨p6, p7, ald_agg ty27 rfl k34 rfl, p6, p7, ald_agg ty27 rfl g34 rfl, true, by rw [fault_eq, eqF_self, eqF_self]; rfl, fun _ => haw _ _ ⟨_, rfl, fun _ => hq _, fun g => (by cases g)⟩, fun g => (by cases g)⟩, fun g => absurd rfl g⟩, fun g => absurd rfl g⟩, fun g => absurd rfl g⟩, fun g => absurd rfl g⟩, fun g => absurd rfl g⟩, fun g => absurd rfl g⟩, fun g => absurd rfl g⟩

end Go.Proofs.YtamddelaigcnkaaGreat

namespace Go.Proofs.YtamddelaigcnkaaGreat
open Go.Sim

theorem hval_mod {k i n m : Nat} (hk : k < 4) (hi : i < 4) (h2 : k < 2 → m = 0) (hne : ¬ (k < 2 ∧ i = 2)) (ho : hok k i n m) :
    hval k i n m / 2 ^ ff k i % 2 ^ fx k i = n ∧ hval k i n m / 2 ^ ff k i / 2 ^ fx k i % 2 ^ fy k i = m ∧ hval k i n m % 4 = k ∧ (∃ j, j < 4 ∧ hval k i n m / 4 % 4 = j ∧ fw k j = fw k i ∧ ff k j = ff k i ∧ fx k j = fx k i ∧ fy k j = fy k i ∧ fz k j = fz k i) := by
  obtain ⟨e, _⟩ := hval_eq hk hi h2 hne ho
  obtain ⟨a1, a2, a3, a4⟩ := fmt_facts k hk i hi
  have hc : k + 4 * i < 2 ^ ff k i := a2.resolve_left hne
  have hp : 0 < 2 ^ ff k i := Nat.pow_pos (by decide)
  have hn := ho.1
  have hm := ho.2.1
  have d1 : hval k i n m / 2 ^ ff k i = n + m * 2 ^ fx k i := by
    rw [e, Nat.pow_add, show k + 4 * i + n * 2 ^ ff k i + m * (2 ^ ff k i * 2 ^ fx k i) = (k + 4 * i) + 2 ^ ff k i * (n + m * 2 ^ fx k i) by rw [Nat.mul_add, Nat.mul_comm n, Nat.mul_left_comm m, Nat.add_assoc], Nat.add_mul_div_left _ _ hp, Nat.div_eq_of_lt hc, Nat.zero_add]
  have d2 : (n + m * 2 ^ fx k i) % 2 ^ fx k i = n := by rw [Nat.add_mul_mod_self_right, Nat.mod_eq_of_lt hn]
  have d3 : (n + m * 2 ^ fx k i) / 2 ^ fx k i = m := by rw [Nat.add_mul_div_right _ _ (Nat.pow_pos (by decide)), Nat.div_eq_of_lt hn, Nat.zero_add]
  refine ⟨by rw [d1, d2], by rw [d1, d3, Nat.mod_eq_of_lt hm], ?_, ?_⟩
  · unfold hval
    split
    · omega
    · have : ff k i = 4 := by
        have : ff k i = 3 ∨ ff k i = 4 := by
          unfold ff
          repeat' split
          all_goals simp
        omega
      rw [this, Nat.pow_add, Nat.mul_left_comm m, show (2 : Nat) ^ 4 = 16 from rfl]
      generalize m * 2 ^ fx k i = z
      omega
  · unfold hval
    split
    · rename_i h3
      obtain ⟨k2, i2⟩ := a3 h3
      refine ⟨(k + n * 8) / 4 % 4, Nat.mod_lt _ (by decide), rfl, ?_⟩
      have : (k + n * 8) / 4 % 4 = 0 ∨ (k + n * 8) / 4 % 4 = 2 := by omega
      have i0 : i = 0 := by omega
      subst i0
      rcases this with g | g <;> rw [g] <;> simp [fw, ff, fx, fy, fz, k2]
    · have : ff k i = 4 := by
        have : ff k i = 3 ∨ ff k i = 4 := by
          unfold ff
          repeat' split
          all_goals simp
        omega
      refine ⟨i, hi, ?_, rfl, rfl, rfl, rfl, rfl⟩
      rw [this, Nat.pow_add, Nat.mul_left_comm m, show (2 : Nat) ^ 4 = 16 from rfl]
      generalize m * 2 ^ fx k i = z
      omega

theorem hb_le {x k : Nat} (h : 0 < k) : hb (le x k) 0 = x % 256 := by
  obtain ⟨k, rfl⟩ : ∃ j, k = j + 1 := ⟨k - 1, by omega⟩
  simp [hb, le]

theorem rh_back {k i n m : Nat} (hk : k < 4) (hi : i < 4) (h2 : k < 2 → m = 0) (hne : ¬ (k < 2 ∧ i = 2)) (ho : hok k i n m) :
    rh (le (hval k i n m) (fw k i)) 0 = rhN k (fz k i) n m ((le (hval k i n m) (fw k i)).length : Nat) 0 0 := by
  obtain ⟨w1, w2⟩ := fw_b k i
  obtain ⟨m1, m2, m3, j, hj, m4, j1, j2, j3, j4, j5⟩ := hval_mod hk hi h2 hne ho
  have hl := (hval_eq hk hi h2 hne ho).2
  have ll := le_len (hval k i n m) (fw k i)
  unfold rh
  rw [if_neg (by omega)]
  show rhA _ 0 _ _ = _
  rw [show Int.toNat 0 = 0 from rfl, hb_le (by omega)]
  rw [show hval k i n m % 256 % 4 = k by omega, show hval k i n m % 256 / 4 % 4 = j by omega]
  unfold rhA
  rw [j1, j2, j3, j4, j5, if_pos (by omega), show sliceS (le (hval k i n m) (fw k i)) 0 (0 + fw k i) = le (hval k i n m) (fw k i) from by unfold sliceS; rw [List.drop_zero, List.take_of_length_le (by omega)], unle_le, Nat.mod_eq_of_lt hl, m1, m2, ll, Nat.zero_add]

/-- How many bytes a header has. -/
def want (st n m : Nat) : Nat := if st = 0 then (if 4096 ≤ n then 3 else if 32 ≤ n then 2 else 1) else (if 16384 ≤ max n m then 5 else if 1024 ≤ max n m then 4 else 3)
def strm (k n : Nat) : Nat := if k < 2 then 0 else if n < 256 then 1 else 4

theorem short_plain {k n m : Nat} (hk : k < 4) (hn : n ≤ 131072) (hm : m ≤ 131072) (h2 : k < 2 → m = 0) (hx : ¬ (strm k n = 1 ∧ 1024 ≤ m)) : ∃ b : List UInt8, hd k n m = .tuple [.str b, .int .i64 0] ∧ b.length = want (strm k n) n m ∧ rh b 0 = rhN k (strm k n) n m (b.length : Nat) 0 0 := by
  have key : ∀ i, hsel k n m = some i → i < 4 → ¬ (k < 2 ∧ i = 2) → hok k i n m → fz k i = strm k n → fw k i = want (strm k n) n m → ∃ b : List UInt8, hd k n m = .tuple [.str b, .int .i64 0] ∧ b.length = want (strm k n) n m ∧ rh b 0 = rhN k (strm k n) n m (b.length : Nat) 0 0 := by
    intro i e hi hne ho hz hw
    refine ⟨le (hval k i n m) (fw k i), ?_, by rw [le_len, hw], by rw [rh_back hk hi h2 hne ho, hz]⟩
    rw [hd_nat hk hn hm h2]
    unfold hdN
    rw [e]
  have e : (2 : Nat) ^ 5 = 32 ∧ (2 : Nat) ^ 12 = 4096 ∧ (2 : Nat) ^ 20 = 1048576 ∧ (2 : Nat) ^ 0 = 1 ∧ (2 : Nat) ^ 10 = 1024 ∧ (2 : Nat) ^ 14 = 16384 ∧ (2 : Nat) ^ 18 = 262144 := by decide
  obtain ⟨e1, e2, e3, e4, e5, e6, e7⟩ := e
  by_cases hk2 : k < 2
  · have hm0 := h2 hk2
    subst hm0
    have hk3 : ¬ 2 ≤ k := by omega
    by_cases h1 : n < 32
    · exact key 0 (by simp [hsel, *]) (by omega) (by omega) (by simp [hok, fx, fy, *]) (by simp [fz, strm, *]) (by simp [fw, want, strm, *] <;> (repeat' split) <;> omega)
    · by_cases h3 : n < 4096
      · exact key 1 (by simp [hsel, *]) (by omega) (by omega) (by simp [hok, fx, fy, *]) (by simp [fz, strm, *]) (by simp [fw, want, strm, *] <;> (repeat' split) <;> omega)
      · have : n < 1048576 := by omega
        exact key 3 (by simp [hsel, *]) (by omega) (by omega) (by simp [hok, fx, fy, *]) (by simp [fz, strm, *]) (by simp [fw, want, strm, *] <;> (repeat' split) <;> omega)
  · have hk3 : 2 ≤ k := by omega
    have : n < 262144 := by omega
    have : m < 262144 := by omega
    by_cases h1 : n < 256
    · have h3 : m < 1024 := by
        have : strm k n = 1 := by simp [strm, *]
        omega
      have : n < 1024 := by omega
      have hmx : max n m < 1024 := by omega
      exact key 0 (by simp [hsel, *]) (by omega) (by omega) (by simp [hok, fx, fy, fz, *]) (by simp [fz, strm, *]) (by simp [fw, want, strm, *] <;> (repeat' split) <;> omega)
    · by_cases h3 : n < 1024 ∧ m < 1024
      · have := h3.1
        have := h3.2
        have hmx : max n m < 1024 := by omega
        exact key 1 (by simp [hsel, *]) (by omega) (by omega) (by simp [hok, fx, fy, fz, *]) (by simp [fz, strm, *]) (by simp [fw, want, strm, *] <;> (repeat' split) <;> omega)
      · have h3' : n < 1024 → ¬ m < 1024 := fun a b => h3 ⟨a, b⟩
        by_cases h4 : n < 16384 ∧ m < 16384
        · have := h4.1
          have := h4.2
          have hmx : max n m < 16384 := by omega
          have hmy : ¬ max n m < 1024 := by omega
          exact key 2 (by simp [hsel, *]) (by omega) (by omega) (by simp [hok, fx, fy, fz, *]) (by simp [fz, strm, *]) (by simp [fw, want, strm, *] <;> (repeat' split) <;> omega)
        · have h4' : n < 16384 → ¬ m < 16384 := fun a b => h4 ⟨a, b⟩
          have hmy : ¬ max n m < 16384 := by omega
          exact key 3 (by simp [hsel, *]) (by omega) (by omega) (by simp [hok, fx, fy, fz, *]) (by simp [fz, strm, *]) (by simp [fw, want, strm, *] <;> (repeat' split) <;> omega)

end Go.Proofs.YtamddelaigcnkaaGreat

namespace Go.Proofs.YtamddelaigcnkaaGreat
open Go.Sim

theorem mod_ok {n m : Int} {h : H} {Q : V → H → Prop} (h1 : 0 < m) (h2 : m ≤ 4611686018427387904) (hq : Q (.int .i64 (n % m)) h) : RF P ctx 11 [.int .i64 n, .int .i64 m] h Q := by
  refine RF.enterE ctx_ok fn11 (ble _ _ rfl) (ble _ _ rfl) (vb11 n m h Q) ?_
  have hb := Int.tmod_lt_of_pos n h1
  have hb2 := Int.lt_tmod_of_pos n h1
  refine ⟨fun h => by omega, fun _ => ⟨by omega, fun h3 => ?_, fun h3 => ?_⟩⟩
  all_goals
    have h4 : n % m = n.tmod m % m := by
      have := Int.tmod_add_mul_tdiv n m
      calc n % m = (n.tmod m + m * n.tdiv m) % m := by rw [this]
        _ = n.tmod m % m := Int.add_mul_emod_self_left _ _ _
  · rw [w64_id (by omega) (by omega)]
    have : n.tmod m + m = n % m := by
      rw [h4, ← Int.emod_eq_of_lt (a := n.tmod m + m) (b := m) (by omega) (by omega), Int.add_emod_right]
    rwa [this]
  · have : n.tmod m = n % m := by rw [h4, Int.emod_eq_of_lt (by omega) hb]
    rwa [this]

/-- What the temporaries hold where the lengths are compared. -/
structure SS (tm : Tm) (k st n m p w : Nat) (b : List UInt8) : Prop where
  t0 : getV tm 0 = .int .i64 k
  t1 : getV tm 1 = .int .i64 n
  t2 : getV tm 2 = .int .i64 m
  t7 : getV tm 7 = .bool true
  t8 : getV tm 8 = .int .i64 st
  t9 : getV tm 9 = .str b
  t10 : getV tm 10 = .int .i64 0
  t11 : getV tm 11 = .int .i64 k
  t12 : getV tm 12 = .int .i64 st
  t13 : getV tm 13 = .int .i64 n
  t14 : getV tm 14 = .int .i64 m
  t15 : getV tm 15 = .int .i64 b.length
  t16 : getV tm 16 = .ptr p 0
  t17 : getV tm 17 = .int .i64 w

theorem seal_SS {k st n m p w : Nat} {b : List UInt8} {h : H} {e : AX} {Q : AX → St → Prop} (hq : ∀ tm', SS tm' k st n m p w b → Q e ⟨133, tm', [], h⟩) : ∀ tm', SS tm' k st n m p w b → sealQ L4 Q e ⟨133, tm', [], h⟩ :=
  fun _ hs tm' _ _ q7 q10 _ q8 _ q1 q2 _ _ q9 q17 q16 q11 q0 q12 q13 q14 q15 => hq tm' ⟨q0.trans hs.t0, q1.trans hs.t1, q2.trans hs.t2, q7.trans hs.t7, q8.trans hs.t8, q9.trans hs.t9, q10.trans hs.t10, q11.trans hs.t11, q12.trans hs.t12, q13.trans hs.t13, q14.trans hs.t14, q15.trans hs.t15, q16.trans hs.t16, q17.trans hs.t17⟩

set_option maxRecDepth 100000 in
/-- The last two cases. -/
theorem w1_ok {u : Bool} {k st n m p w : Nat} {b : List UInt8} {tm : Tm} {h : H} {Q : AX → St → Prop} (hs : SS tm k st n m p w b) (t79 : getV tm 79 = .bool u) (hu : u = true ↔ 0 < st ∧ 1024 ≤ max n m) (hq : ∀ tm', SS tm' k st n m p (if 0 < st then (if 1024 ≤ max n m then 4 else 3) else w) b → Q .normal ⟨133, tm', [], h⟩) : W4 false r4_1 ⟨133, tm, [], h⟩ Q := by
  rw [tm2 rfl t79 hs.t8]
  refine wpS.seal (vr4_1 _ _ _ _ _ _) ?_
  cases u with
  | true =>
    have g := hu.1 rfl
    rw [if_pos g.1, if_pos g.2] at hq
    exact fun tmz _ _ q7 q10 _ q8 _ q1 q2 _ _ q9 q17 q16 q11 q0 q12 q13 q14 q15 => hq tmz ⟨q0.trans hs.t0, q1.trans hs.t1, q2.trans hs.t2, q7.trans hs.t7, q8, q9.trans hs.t9, q10.trans hs.t10, q11.trans hs.t11, q12.trans hs.t12, q13.trans hs.t13, q14.trans hs.t14, q15.trans hs.t15, q16.trans hs.t16, q17⟩
  | false =>
    have g : ¬ (0 < st ∧ 1024 ≤ max n m) := fun c => by have := hu.2 c; cases this
    refine ⟨fun c tmz _ _ q7 q10 _ q8 _ q1 q2 _ _ q9 q17 q16 q11 q0 q12 q13 q14 q15 => ?_, fun c tmz _ _ q7 q10 _ q8 _ q1 q2 _ _ q9 q17 q16 q11 q0 q12 q13 q14 q15 => ?_⟩
    · rw [if_pos (by omega), if_neg (by omega)] at hq
      exact hq tmz ⟨q0.trans hs.t0, q1.trans hs.t1, q2.trans hs.t2, q7.trans hs.t7, q8, q9.trans hs.t9, q10.trans hs.t10, q11.trans hs.t11, q12.trans hs.t12, q13.trans hs.t13, q14.trans hs.t14, q15.trans hs.t15, q16.trans hs.t16, q17⟩
    · rw [if_neg (by omega)] at hq
      exact hq tmz ⟨q0.trans hs.t0, q1.trans hs.t1, q2.trans hs.t2, q7.trans hs.t7, q8, q9.trans hs.t9, q10.trans hs.t10, q11.trans hs.t11, q12.trans hs.t12, q13.trans hs.t13, q14.trans hs.t14, q15.trans hs.t15, q16.trans hs.t16, q17.trans hs.t17⟩

set_option maxRecDepth 100000 in
/-- The third case. -/
theorem w2_ok {u : Bool} {k st n m p w : Nat} {b : List UInt8} {tm : Tm} {h : H} {Q : AX → St → Prop} (hs : SS tm k st n m p w b) (t70 : getV tm 70 = .bool u) (hu : u = true ↔ 0 < st ∧ 16384 ≤ max n m) (hq : ∀ tm', SS tm' k st n m p (if 0 < st then (if 16384 ≤ max n m then 5 else if 1024 ≤ max n m then 4 else 3) else w) b → Q .normal ⟨133, tm', [], h⟩) : W4 false r4_2 ⟨133, tm, [], h⟩ Q := by
  rw [tm4 rfl t70 hs.t8 hs.t1 hs.t2]
  refine wpS.seal (vr4_2 _ _ _ _ _ _ _ _) ?_
  cases u with
  | true =>
    have g := hu.1 rfl
    rw [if_pos g.1, if_pos g.2] at hq
    exact fun tmz _ _ q7 q10 _ q8 _ q1 q2 _ _ q9 q17 q16 q11 q0 q12 q13 q14 q15 => hq tmz ⟨q0.trans hs.t0, q1, q2, q7.trans hs.t7, q8, q9.trans hs.t9, q10.trans hs.t10, q11.trans hs.t11, q12.trans hs.t12, q13.trans hs.t13, q14.trans hs.t14, q15.trans hs.t15, q16.trans hs.t16, q17⟩
  | false =>
    have g : ¬ (0 < st ∧ 16384 ≤ max n m) := fun c => by have := hu.2 c; cases this
    have hq' : ∀ tm', SS tm' k st n m p (if 0 < st then (if 1024 ≤ max n m then 4 else 3) else w) b → Q .normal ⟨133, tm', [], h⟩ := by
      by_cases c : 0 < st
      · rw [if_pos c, if_neg (fun d => g ⟨c, d⟩)] at hq
        rw [if_pos c]; exact hq
      · rw [if_neg c] at hq
        rw [if_neg c]; exact hq
    refine ⟨fun c => ⟨fun c2 tmz _ _ q7 q10 q79 q8 _ q1 q2 _ _ q9 q17 q16 q11 q0 q12 q13 q14 q15 => ?_, fun c2 tmz _ _ q7 q10 q79 q8 _ q1 q2 _ _ q9 q17 q16 q11 q0 q12 q13 q14 q15 => ?_⟩, fun c tmz _ _ q7 q10 q79 q8 _ q1 q2 _ _ q9 q17 q16 q11 q0 q12 q13 q14 q15 => ?_⟩
    all_goals exact w1_ok ⟨q0.trans hs.t0, q1, q2, q7.trans hs.t7, q8, q9.trans hs.t9, q10.trans hs.t10, q11.trans hs.t11, q12.trans hs.t12, q13.trans hs.t13, q14.trans hs.t14, q15.trans hs.t15, q16.trans hs.t16, q17.trans hs.t17⟩ q79 (by simp; omega) (seal_SS hq')

set_option maxRecDepth 100000 in
/-- The second case. -/
theorem w3_ok {u : Bool} {k st n m p w : Nat} {b : List UInt8} {tm : Tm} {h : H} {Q : AX → St → Prop} (hs : SS tm k st n m p w b) (t63 : getV tm 63 = .bool u) (hu : u = true ↔ st = 0 ∧ 32 ≤ n) (hq : ∀ tm', SS tm' k st n m p (if st = 0 then (if 32 ≤ n then 2 else w) else if 16384 ≤ max n m then 5 else if 1024 ≤ max n m then 4 else 3) b → Q .normal ⟨133, tm', [], h⟩) : W4 false r4_3 ⟨133, tm, [], h⟩ Q := by
  rw [tm4 rfl t63 hs.t8 hs.t1 hs.t2]
  refine wpS.seal (vr4_3 _ _ _ _ _ _ _ _) ?_
  cases u with
  | true =>
    have g := hu.1 rfl
    rw [if_pos g.1, if_pos g.2] at hq
    exact fun tmz _ _ q7 q10 _ q8 _ q1 q2 _ _ q9 q17 q16 q11 q0 q12 q13 q14 q15 => hq tmz ⟨q0.trans hs.t0, q1, q2, q7.trans hs.t7, q8, q9.trans hs.t9, q10.trans hs.t10, q11.trans hs.t11, q12.trans hs.t12, q13.trans hs.t13, q14.trans hs.t14, q15.trans hs.t15, q16.trans hs.t16, q17⟩
  | false =>
    have g : ¬ (st = 0 ∧ 32 ≤ n) := fun c => by have := hu.2 c; cases this
    have hq' : ∀ tm', SS tm' k st n m p (if 0 < st then (if 16384 ≤ max n m then 5 else if 1024 ≤ max n m then 4 else 3) else w) b → Q .normal ⟨133, tm', [], h⟩ := by
      by_cases c : st = 0
      · rw [if_pos c, if_neg (fun d => g ⟨c, d⟩)] at hq
        rw [if_neg (by omega)]; exact hq
      · rw [if_neg c] at hq
        rw [if_pos (by omega)]; exact hq
    refine ⟨fun c => ⟨fun c2 tmz _ _ q7 q10 _ q8 q70 q1 q2 _ _ q9 q17 q16 q11 q0 q12 q13 q14 q15 => ?_, fun c2 tmz _ _ q7 q10 _ q8 q70 q1 q2 _ _ q9 q17 q16 q11 q0 q12 q13 q14 q15 => ?_⟩, fun c tmz _ _ q7 q10 _ q8 q70 q1 q2 _ _ q9 q17 q16 q11 q0 q12 q13 q14 q15 => ?_⟩
    all_goals exact w2_ok ⟨q0.trans hs.t0, q1, q2, q7.trans hs.t7, q8, q9.trans hs.t9, q10.trans hs.t10, q11.trans hs.t11, q12.trans hs.t12, q13.trans hs.t13, q14.trans hs.t14, q15.trans hs.t15, q16.trans hs.t16, q17.trans hs.t17⟩ q70 (by simp; omega) (seal_SS hq')

set_option maxRecDepth 100000 in
/-- The first case. -/
theorem w4_ok {u : Bool} {k st n m p : Nat} {b : List UInt8} {tm : Tm} {h : H} {Q : AX → St → Prop} (hs : SS tm k st n m p 1 b) (t56 : getV tm 56 = .bool u) (hu : u = true ↔ st = 0 ∧ 4096 ≤ n) (hq : ∀ tm', SS tm' k st n m p (want st n m) b → Q .normal ⟨133, tm', [], h⟩) : W4 false r4_4 ⟨133, tm, [], h⟩ Q := by
  rw [tm3 rfl t56 hs.t8 hs.t1]
  refine wpS.seal (vr4_4 _ _ _ _ _ _ _) ?_
  unfold want at hq
  cases u with
  | true =>
    have g := hu.1 rfl
    rw [if_pos g.1, if_pos g.2] at hq
    exact fun tmz _ _ q7 q10 _ q8 _ q1 q2 _ _ q9 q17 q16 q11 q0 q12 q13 q14 q15 => hq tmz ⟨q0.trans hs.t0, q1, q2.trans hs.t2, q7.trans hs.t7, q8, q9.trans hs.t9, q10.trans hs.t10, q11.trans hs.t11, q12.trans hs.t12, q13.trans hs.t13, q14.trans hs.t14, q15.trans hs.t15, q16.trans hs.t16, q17⟩
  | false =>
    have g : ¬ (st = 0 ∧ 4096 ≤ n) := fun c => by have := hu.2 c; cases this
    have hq' : ∀ tm', SS tm' k st n m p (if st = 0 then (if 32 ≤ n then 2 else 1) else if 16384 ≤ max n m then 5 else if 1024 ≤ max n m then 4 else 3) b → Q .normal ⟨133, tm', [], h⟩ := by
      by_cases c : st = 0
      · rw [if_pos c, if_neg (fun d => g ⟨c, d⟩)] at hq
        rw [if_pos c]; exact hq
      · rw [if_neg c] at hq
        rw [if_neg c]; exact hq
    refine ⟨fun c => ⟨fun c2 tmz _ _ q7 q10 _ q8 _ q1 q2 q63 _ q9 q17 q16 q11 q0 q12 q13 q14 q15 => ?_, fun c2 tmz _ _ q7 q10 _ q8 _ q1 q2 q63 _ q9 q17 q16 q11 q0 q12 q13 q14 q15 => ?_⟩, fun c tmz _ _ q7 q10 _ q8 _ q1 q2 q63 _ q9 q17 q16 q11 q0 q12 q13 q14 q15 => ?_⟩
    all_goals exact w3_ok ⟨q0.trans hs.t0, q1, q2.trans hs.t2, q7.trans hs.t7, q8, q9.trans hs.t9, q10.trans hs.t10, q11.trans hs.t11, q12.trans hs.t12, q13.trans hs.t13, q14.trans hs.t14, q15.trans hs.t15, q16.trans hs.t16, q17.trans hs.t17⟩ q63 (by simp; omega) (seal_SS hq')

theorem tm14 {tm : Tm} {t1 t2 t3 t4 t5 t6 t7 t8 t9 t10 t11 t12 t13 t14 : Nat} {v1 v2 v3 v4 v5 v6 v7 v8 v9 v10 v11 v12 v13 v14 : V} (hb : ([t1, t2, t3, t4, t5, t6, t7, t8, t9, t10, t11, t12, t13, t14].all fun t => Nat.blt t 511) = true) (h1 : getV tm t1 = v1) (h2 : getV tm t2 = v2) (h3 : getV tm t3 = v3) (h4 : getV tm t4 = v4) (h5 : getV tm t5 = v5) (h6 : getV tm t6 = v6) (h7 : getV tm t7 = v7) (h8 : getV tm t8 = v8) (h9 : getV tm t9 = v9) (h10 : getV tm t10 = v10) (h11 : getV tm t11 = v11) (h12 : getV tm t12 = v12) (h13 : getV tm t13 = v13) (h14 : getV tm t14 = v14) : tm = (Tb.set (Tb.set (Tb.set (Tb.set (Tb.set (Tb.set (Tb.set (Tb.set (Tb.set (Tb.set (Tb.set (Tb.set (Tb.set (Tb.set tm t1 v1) t2 v2) t3 v3) t4 v4) t5 v5) t6 v6) t7 v7) t8 v8) t9 v9) t10 v10) t11 v11) t12 v12) t13 v13) t14 v14) := by
  simp only [List.all_cons, List.all_nil, Bool.and_true, Bool.and_eq_true] at hb
  rw [tm_set ((blt_iff _ _).1 hb.1) h1, tm_set ((blt_iff _ _).1 hb.2.1) h2, tm_set ((blt_iff _ _).1 hb.2.2.1) h3, tm_set ((blt_iff _ _).1 hb.2.2.2.1) h4, tm_set ((blt_iff _ _).1 hb.2.2.2.2.1) h5, tm_set ((blt_iff _ _).1 hb.2.2.2.2.2.1) h6, tm_set ((blt_iff _ _).1 hb.2.2.2.2.2.2.1) h7, tm_set ((blt_iff _ _).1 hb.2.2.2.2.2.2.2.1) h8, tm_set ((blt_iff _ _).1 hb.2.2.2.2.2.2.2.2.1) h9, tm_set ((blt_iff _ _).1 hb.2.2.2.2.2.2.2.2.2.1) h10, tm_set ((blt_iff _ _).1 hb.2.2.2.2.2.2.2.2.2.2.1) h11, tm_set ((blt_iff _ _).1 hb.2.2.2.2.2.2.2.2.2.2.2.1) h12, tm_set ((blt_iff _ _).1 hb.2.2.2.2.2.2.2.2.2.2.2.2.1) h13, tm_set ((blt_iff _ _).1 hb.2.2.2.2.2.2.2.2.2.2.2.2.2) h14]

set_option maxRecDepth 100000 in
set_option maxHeartbeats 1000000 in
/-- LitsShort's function, where the closed law holds. -/
theorem short_all {k n m : Int} {h : H} {Q : V → H → Prop} (haw : ∀ (h : H) (Q : V → H → Prop), Q (.bool true) h → RF P ctx 10 [] h Q) (hn : h.next + 10 ≤ T.top) (hq : ∀ h', Q (.bool true) h') : RF P ctx 4 [.int .i64 k, .int .i64 n, .int .i64 m] h Q := by
  have a1 := Int.emod_nonneg k (show (4 : Int) ≠ 0 by decide)
  have a2 := Int.emod_lt_of_pos k (show (0 : Int) < 4 by decide)
  have b1 := Int.emod_nonneg n (show (131073 : Int) ≠ 0 by decide)
  have b2 := Int.emod_lt_of_pos n (show (0 : Int) < 131073 by decide)
  have c1 := Int.emod_nonneg m (show (131073 : Int) ≠ 0 by decide)
  have c2 := Int.emod_lt_of_pos m (show (0 : Int) < 131073 by decide)
  refine RF.enterS ctx_ok fn4 (ble _ _ rfl) (ble _ _ rfl) (vb4 k n m h Q) (haw _ _ ⟨true, rfl, fun _ => mod_ok (by decide) (by decide) ⟨_, rfl, mod_ok (by decide) (by decide) ⟨_, rfl, mod_ok (by decide) (by decide) ⟨_, rfl, ?_⟩⟩⟩, fun g => (by cases g)⟩)
  generalize k % 4 = k at a1 a2
  generalize n % 131073 = n at b1 b2
  generalize m % 131073 = m at c1 c2
  obtain ⟨k, rfl⟩ : ∃ a : Nat, k = a := ⟨k.toNat, by omega⟩
  obtain ⟨n, rfl⟩ : ∃ a : Nat, n = a := ⟨n.toNat, by omega⟩
  obtain ⟨m, rfl⟩ : ∃ a : Nat, m = a := ⟨m.toNat, by omega⟩
  -- the numbers, as they are used
  have key : ∀ m' : Nat, m' ≤ 131072 → (k < 2 → m' = 0) → ∀ tm, getV tm 0 = .int .i64 k → getV tm 1 = .int .i64 n → getV tm 2 = .int .i64 m' → getV tm 8 = .int .i64 (strm k n) → getV tm 7 = .bool true → W4 false r4_7 ⟨133, tm, [], h⟩ (endW ctx ⟨133, [.tmp 6], b4⟩ Q) := by
    intro m hm h2 tm t0 t1 t2 t8 t7
    rw [tm4 rfl t0 t1 t2 t8]
    have fin : ∀ tm', getV tm' 6 = .bool true → ∀ h', endW ctx ⟨133, [.tmp 6], b4⟩ Q .ret ⟨133, tm', [], h'⟩ := by
      intro tm' t6 h'
      show Q (getV tm' 6) h'
      rw [t6]
      exact hq h'
    by_cases hx : strm k n = 1 ∧ 1024 ≤ m
    · -- an error is asked
      have e : hd k n m = .tuple [.str [], .int .i64 2] := by
        rw [hd_nat (by omega) (by omega) hm h2]
        unfold hdN hsel
        have g : ¬ k < 2 ∧ n < 256 := by
          unfold strm at hx
          have := hx.1
          split at this
          · cases this
          · split at this
            · exact ⟨‹_›, ‹_›⟩
            · cases this
        rw [if_neg g.1, if_pos g.2, if_neg (by omega)]
      refine wpS.seal (vr4_7 _ _ _ _ _ _ _ _) (head_ok ⟨[], 2, e, fun c => ⟨fun c2 tmz q6 q41 q7 q10 q79 q8 q70 q1 q2 q63 q56 q9 q17 q16 q11 q0 q12 q13 q14 q15 => ?_, fun c2 => absurd (show (1024 : Int) ≤ (m : Int) by omega) c2⟩, fun c => absurd (show ((strm k n : Nat) : Int) = 1 by omega) c⟩)
      rw [tm3 rfl q41 (q7.trans t7) q10]
      exact wpS.seal (vr4_0tt _ _ _ _ _) ⟨fun _ tmy r6 _ _ _ _ _ _ _ _ _ _ _ _ _ _ _ _ _ _ _ tmw s6 _ _ _ _ _ _ _ _ _ _ _ _ _ _ _ _ _ _ _ => fin tmw (s6.trans r6) h, fun g => absurd rfl g⟩
    · obtain ⟨b, e1, e2, e3⟩ := short_plain (by omega) (by omega) hm h2 hx
      refine wpS.seal (vr4_7 _ _ _ _ _ _ _ _) (head_ok ⟨b, 0, e1, ?_⟩)
      have go : ∀ tmz, getV tmz 41 = .bool false → getV tmz 7 = .bool true → getV tmz 10 = .int .i64 0 → getV tmz 8 = .int .i64 (strm k n) → getV tmz 1 = .int .i64 n → getV tmz 2 = .int .i64 m → getV tmz 9 = .str b → getV tmz 0 = .int .i64 k →
          W4 false r4_0 ⟨133, tmz, [], h⟩ (thenC (sealK L4 fun s1 => W4 false r4_6 s1 (sealQ L4 (endW ctx ⟨133, [.tmp 6], b4⟩ Q))) (sealQ L4 (endW ctx ⟨133, [.tmp 6], b4⟩ Q))) := by
        intro tmz q41 q7 q10 q8 q1 q2 q9 q0
        rw [tm2 rfl q41 q7]
        refine wpS.seal (vr4_0ft _ _ _ _) fun tmy r6 r41 r7 r10 r79 r8 r70 r1 r2 r63 r56 r9 r17 r16 r11 r0 r12 r13 r14 r15 tmx s6 s41 s7 s10 s79 s8 s70 s1 s2 s63 s56 s9 s17 s16 s11 s0 s12 s13 s14 s15 => ?_
        show W4 false r4_6 ⟨133, tmx, [], h⟩ _
        rw [tm3 rfl (s9.trans (r9.trans q9)) (s8.trans (r8.trans q8)) (s1.trans (r1.trans q1))]
        have x0 := s0.trans (r0.trans q0)
        have x2 := s2.trans (r2.trans q2)
        have x7 := s7.trans r7
        have x10 := s10.trans (r10.trans q10)
        have hbl : b.length < 4611686018427387904 := by
          have : want (strm k n) n m ≤ 5 := by
            unfold want
            (repeat' split) <;> omega
          omega
        refine wpS.seal (vr4_6 _ _ _ _ _ _ _) (readHead_ok hbl ⟨_, _, _, _, _, _, _, e3, by omega, ?_⟩)
        rintro p9 h10 rfl e10
        have g10 : h10.get h.next = some (oF 0 0) := by rw [e10]; exact get_new_self _ (by omega)
        clear e10
        obtain ⟨h11, e11, g11⟩ : ∃ h11, ast ctx 27 h10 (.ptr h.next 0) (.agg [.int .i64 0, .int .i64 0]) = some h11 ∧ h11.get h.next = some (oF 0 0) := ⟨_, ast_at ty27 g10 rfl (Nat.zero_le _) rfl rfl, get_upd_self _ (by omega)⟩
        have last : ∀ tmw, SS tmw k (strm k n) n m h.next (want (strm k n) n m) b → W4 false r4_5 ⟨133, tmw, [], h11⟩ (sealQ L4 (sealQ L4 (endW ctx ⟨133, [.tmp 6], b4⟩ Q))) := by
          intro tmw hs
          rw [tm14 rfl hs.t7 hs.t10 hs.t9 hs.t17 hs.t16 hs.t11 hs.t0 hs.t12 hs.t8 hs.t13 hs.t1 hs.t14 hs.t2 hs.t15]
          exact wpS.seal (vr4_5t _ _ _ _ _ _ _ _ _ _ _ _ _ _ _ _ _) ⟨fun _ => ⟨fun _ => ⟨0, 0, ald_agg ty27 rfl g11 rfl, true, by rw [fault_eq]; rfl, fun _ => ⟨fun _ => ⟨fun _ => ⟨fun _ => ⟨fun _ => ⟨fun _ tmy r6 _ _ _ _ _ _ _ _ _ _ _ _ _ _ _ _ _ _ _ tmx s6 _ _ _ _ _ _ _ _ _ _ _ _ _ _ _ _ _ _ _ tmv v6 _ _ _ _ _ _ _ _ _ _ _ _ _ _ _ _ _ _ _ => fin tmv (v6.trans (s6.trans r6)) h11, fun g => absurd rfl g⟩, fun g => absurd rfl g⟩, fun g => absurd rfl g⟩, fun g => absurd rfl g⟩, fun g => absurd rfl g⟩, fun g => (by cases g)⟩, fun g => absurd (show Int.ofNat b.length = ((want (strm k n) n m : Nat) : Int) by rw [e2]; rfl) g⟩, fun g => absurd rfl g⟩
        have fork : ∀ (u : Bool) tmw, (u = true ↔ strm k n = 0 ∧ 4096 ≤ n) → getV tmw 56 = .bool u → SS tmw k (strm k n) n m h.next 1 b → W4 false r4_4 ⟨133, tmw, [], h11⟩ (fun e s1 => (thenC (sealK L4 fun s1 => W4 false r4_5 s1 (sealQ L4 (sealQ L4 (endW ctx ⟨133, [.tmp 6], b4⟩ Q)))) (sealQ L4 (sealQ L4 (endW ctx ⟨133, [.tmp 6], b4⟩ Q)))) (exitB 0 e) s1) :=
          fun u tmw hu t56 hs => w4_ok hs t56 hu fun tmv hs tmu _ _ u7 u10 _ u8 _ u1 u2 _ _ u9 u17 u16 u11 u0 u12 u13 u14 u15 => last tmu ⟨u0.trans hs.t0, u1.trans hs.t1, u2.trans hs.t2, u7.trans hs.t7, u8.trans hs.t8, u9.trans hs.t9, u10.trans hs.t10, u11.trans hs.t11, u12.trans hs.t12, u13.trans hs.t13, u14.trans hs.t14, u15.trans hs.t15, u16.trans hs.t16, u17.trans hs.t17⟩
        refine ⟨h11, e11, fun c => ⟨fun c2 tmw _ _ w7 w10 _ w8 _ w1 w2 _ w56 w9 w17 w16 w11 w0 w12 w13 w14 w15 => ?_, fun c2 tmw _ _ w7 w10 _ w8 _ w1 w2 _ w56 w9 w17 w16 w11 w0 w12 w13 w14 w15 => ?_⟩, fun c tmw _ _ w7 w10 _ w8 _ w1 w2 _ w56 w9 w17 w16 w11 w0 w12 w13 w14 w15 => ?_⟩
        all_goals exact fork _ tmw (by simp; omega) w56 ⟨w0.trans x0, w1, w2.trans x2, w7.trans x7, w8, w9, w10.trans x10, w11, w12, w13, w14, w15, w16, w17⟩
      refine ⟨fun c => ⟨fun c2 => absurd ⟨by omega, by omega⟩ hx, fun c2 tmz q6 q41 q7 q10 q79 q8 q70 q1 q2 q63 q56 q9 q17 q16 q11 q0 q12 q13 q14 q15 => go tmz q41 (q7.trans t7) q10 q8 q1 q2 q9 q0⟩, fun c tmz q6 q41 q7 q10 q79 q8 q70 q1 q2 q63 q56 q9 q17 q16 q11 q0 q12 q13 q14 q15 => go tmz q41 (q7.trans t7) q10 q8 q1 q2 q9 q0⟩
  refine ⟨fun c tm q6 q41 q7 q10 q79 q8 q70 q1 q2 q63 q56 q9 q17 q16 q11 q0 q12 q13 q14 q15 => ?_, fun c => ⟨fun c2 tm q6 q41 q7 q10 q79 q8 q70 q1 q2 q63 q56 q9 q17 q16 q11 q0 q12 q13 q14 q15 => ?_, fun c2 tm q6 q41 q7 q10 q79 q8 q70 q1 q2 q63 q56 q9 q17 q16 q11 q0 q12 q13 q14 q15 => ?_⟩⟩
  · exact key 0 (by omega) (fun _ => rfl) tm q0 q1 q2 (by rw [q8]; simp [strm, show k < 2 by omega]) q7
  · exact key m (by omega) (fun g => by omega) tm q0 q1 q2 (by rw [q8]; simp [strm, show ¬ k < 2 by omega, show n < 256 by omega]) q7
  · exact key m (by omega) (fun g => by omega) tm q0 q1 q2 (by rw [q8]; simp [strm, show ¬ k < 2 by omega, show ¬ n < 256 by omega]) q7

end Go.Proofs.YtamddelaigcnkaaGreat

namespace Go.Proofs.YtamddelaigcnkaaGreat
open Go.Sim Go.ChangeShapes Go.WideShapes Go.ChangeAt Go.RowKit

set_option maxRecDepth 100000 in
theorem Short.laidOut : laidOutB Tryz.prog = true := by kernel_rfl
theorem fn10_some : (ctx.fn.get 10).isSome = true := by kernel_rfl

theorem known_ok {h : H} {Q : V → H → Prop} (hq : Q (.bool true) h) : RF P ctx 10 [] h Q := by
  obtain ⟨h', e⟩ := saysTrue_iff litsShort_run
  have s : SimF P 10 [] H0 (.ret (.bool true) h') := X.sound ctx_ok orc_ok e
  exact ⟨_, h, ⟨Option.isSome_iff_exists.1 fn10_some, s.frame⟩, hq⟩

theorem trodAll_vals3 {H : Type} {enc : TypeId × Value → H} {P : Program} {w : World} {base : Nat} {spare : Nat → Bool} {held : Bool} {t0 t1 t2 : TypeId} {args : Array Value} {ds : List (DataW H)} {ps : List MemPlace} (h : DataW.TrodAll enc P w base spare held [t0, t1, t2] args.toList ds ps) :
    ∃ v0 v1 v2 d0 d1 d2, args = #[v0, v1, v2] ∧ ds = [d0, d1, d2] := by
  obtain ⟨v0, vs0, d0, ds0, p0, q0, hargs, rfl, rfl, hd0, hrest0⟩ := trodAll_cons h
  obtain ⟨v1, vs1, d1, ds1, p1, q1, rfl, rfl, rfl, hd1, hrest1⟩ := trodAll_cons hrest0
  obtain ⟨v2, vs2, d2, ds2, p2, q2, rfl, rfl, rfl, hd2, hrest2⟩ := trodAll_cons hrest1
  obtain ⟨rfl, rfl, rfl⟩ := trodAll_nil hrest2
  exact ⟨v0, v1, v2, d0, d1, d2, by cases args; simp_all, rfl⟩

set_option maxRecDepth 100000 in
theorem litsShort_any {W : World} {base : Nat} {v0 v1 v2 : Value} (w0 : Value.okWide Tryz.prog W .any base 3 v0) (w1 : Value.okWide Tryz.prog W .any base 3 v1) (w2 : Value.okWide Tryz.prog W .any base 3 v2) :
    Calls Tryz.prog 4 #[v0, v1, v2] W fun e W' => e = .returned (.bool true) ∧ Below W.heap.size W W' := by
  obtain ⟨a, rfl⟩ := okWide_int Tryz.underlying3 w0
  obtain ⟨b, rfl⟩ := okWide_int Tryz.underlying3 w1
  obtain ⟨c, rfl⟩ := okWide_int Tryz.underlying3 w2
  obtain ⟨r, h', ⟨_, sf⟩, rfl⟩ := short_all (k := a) (n := b) (m := c) (h := H0) (Q := fun r _ => r = .bool true) (fun _ _ hq => known_ok hq) (of_decide_eq_true (by kernel_rfl)) fun _ => rfl
  have k := sf.says (fun q hq => by
    simp only [List.mem_cons, List.not_mem_nil, or_false] at hq
    rcases hq with rfl | rfl | rfl
    · exact (plain_int _ _).2 _
    · exact (plain_int _ _).2 _
    · exact (plain_int _ _).2 _) W
  simpa [V.conc] using k

set_option maxRecDepth 100000 in
theorem litsShort_lifted (os : Os) (started : os.Started) (H : Type) (enc : TypeId × Value → H) :
    ReturnsInHanded {} Tryz.checked os 4 .any (Rows.litsShortSpec.pre6 enc Tryz.prog Tryz.f4 Rows.litsShortRow.domain false) (Rows.litsShortSpec.post enc Tryz.prog Tryz.f4 false true false false) := by
  refine returnsInHanded_of_change (C := Tryz.checked) own started (by kernel_rfl) Tryz.func4
    (ChangeSpec.witness6 (enc := enc) (C := Tryz.checked) false ⟨#[], #[.int .i64 0, .int .i64 0, .int .i64 0], []⟩ 8 (by kernel_rfl) (by kernel_rfl) (by kernel_rfl) (by kernel_rfl)) ?_
  intro W base args ds gs before hval0 hW _ _
  have hval : ∀ (j : Nat) t v, Tryz.f4.params[j]? = some t → args[j]? = some v → Value.okWide Tryz.prog W .any base t v := hval0
  have hW' := hW
  obtain ⟨p, q, hA0, hV, rfl, _, _⟩ := hW
  have hA : DataW.TrodAll enc Tryz.prog W 0 (fun _ => true) true Tryz.f4.params.toList args.toList ds p := hA0
  rw [Tryz.params4] at hA hval
  obtain ⟨v0, v1, v2, d0, d1, d2, rfl, rfl⟩ := trodAll_vals3 hA
  obtain ⟨rfl, rfl⟩ := trodVars_none hV
  refine (litsShort_any (hval 0 3 v0 rfl rfl) (hval 1 3 v1 rfl rfl) (hval 2 3 v2 rfl rfl)).mono fun e W' ⟨he, hb⟩ => ⟨_, he, ?_⟩
  exact post_same Short.laidOut (by rw [Tryz.params4]; kernel_rfl) hW' hb rfl Tryz.underlying4 rfl rfl (by exact (rfl : ([] : List MemPlace) = []))

theorem litsShort_holds : Rows.LitsShortSaid :=
  OpenClaim.holds_of_wide 4 Tryz.f4 rfl rfl rfl rfl rfl rfl rfl ⟨rfl, rfl, rfl, rfl, rfl⟩ rfl rfl rfl rfl rfl (by kernel_rfl) Tryz.func4 (by kernel_rfl)
    (of_decide_eq_true (by kernel_rfl)) (by unfold Func.isWrapper; first | (rw [if_pos (by decide +kernel)]; kernel_rfl) | (rw [if_neg (by decide +kernel)]; exact ⟨rfl, rfl⟩))
    (fun os started H enc _ => litsShort_lifted os started H enc)

end Go.Proofs.YtamddelaigcnkaaGreat
