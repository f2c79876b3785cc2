/- Two slices that are read alone: from the world to an abstract heap of two blocks that nobody writes. -/
import Derived.Test.YtamddelaigcnkaaGreatSimLaw
import Derived.Test.YtamddelaigcnkaaGreatSimFrame
import Derived.Carry
import Derived.ChangeOld
namespace Go.Sim
open Go.RowKit Go.ChangeShapes Go.WideShapes Go.ChangeAt

/-- What the world holds of a slice. -/
def Rd (W : World) (v : Value) (esz n : Nat) (xs : List V) : Prop :=
  xs.length = n * esz ∧ ((v = .slice none 0 0 ∧ n = 0) ∨ ∃ b off cap cs e fz, v = .slice (some ⟨b, off, none⟩) n cap ∧ n ≤ cap ∧ W.heap[b]? = some (.cells cs e fz) ∧ ∀ i x, xs[i]? = some x → cs[off + i]? = some (x.conc env0))

/-- A slice of the world, at a block of the abstract heap. -/
def ab (i n : Nat) : Value → V
  | .slice (some _) _ cap => .slice i 0 n (.exact cap)
  | _ => .nilslice
def pb : Value → Bool
  | .slice (some _) _ _ => true
  | _ => false
def ablk : Value → Nat
  | .slice (some a) _ _ => a.block
  | _ => 0
def aoff : Value → Nat
  | .slice (some a) _ _ => a.off
  | _ => 0

def heap2 (xs ys : List V) : H := (hRO xs).new (.cells (.ls ys) ⟨0, 0, 0⟩ false false)
def env2 (v w : Value) : Env := { blk := fun i => cond (Nat.beq i 0) (ablk v) (ablk w), off := fun i => cond (Nat.beq i 0) (aoff v) (aoff w), cap := fun _ => 0 }
def D2 (v w : Value) (i : Nat) : Prop := (i = 0 ∧ pb v = true) ∨ (i = 1 ∧ pb w = true)

theorem heap2_next (xs ys : List V) : (heap2 xs ys).next = 2 := by unfold heap2; rw [new_next, hRO_next]
theorem heap2_get0 (xs ys : List V) : (heap2 xs ys).get 0 = some (.cells (.ls xs) ⟨0, 0, 0⟩ false false) := by
  unfold heap2
  rw [get_new_old _ (by rw [hRO_next]; decide) (by rw [hRO_next]; decide), hRO_get]
theorem heap2_get1 (xs ys : List V) : (heap2 xs ys).get 1 = some (.cells (.ls ys) ⟨0, 0, 0⟩ false false) := by
  unfold heap2
  have := get_new_self (h := hRO xs) (.cells (.ls ys) ⟨0, 0, 0⟩ false false) (by rw [hRO_next]; decide)
  rwa [hRO_next] at this
theorem heap2_low (xs ys : List V) : (heap2 xs ys).low = T.top := rfl

theorem HR_two {W : World} {v w : Value} {e1 n1 e2 n2 : Nat} {xs ys : List V} (r1 : Rd W v e1 n1 xs) (r2 : Rd W w e2 n2 ys) (px : ∀ x ∈ xs, Plain x) (py : ∀ x ∈ ys, Plain x) : HR (env2 v w) (D2 v w) (heap2 xs ys) W := by
  refine ⟨by rw [heap2_next]; decide, fun i hi => by rw [heap2_next]; rcases hi with ⟨rfl, _⟩ | ⟨rfl, _⟩ <;> decide, fun i o hi hg => ?_, fun i j oi oj hi hj hgi _ hw => ?_⟩
  · rcases hi with ⟨rfl, hp⟩ | ⟨rfl, hp⟩
    · rw [heap2_get0] at hg
      cases hg
      obtain ⟨_, ⟨rfl, _⟩ | ⟨b, off, cap, cs, e, fz, rfl, _, hb, hc⟩⟩ := r1
      · cases hp
      · refine ⟨cs, e, fz, hb, fun i x h => ?_, fun i x h => (px x (List.mem_of_getElem? ((Cs.getL_eq xs i).symm.trans h))).2 _, fun h => by cases h⟩
        have h' : xs[i]? = some x := (Cs.getL_eq xs i).symm.trans h
        rw [(px x (List.mem_of_getElem? h')).1]
        exact hc i x h'
    · rw [heap2_get1] at hg
      cases hg
      obtain ⟨_, ⟨rfl, _⟩ | ⟨b, off, cap, cs, e, fz, rfl, _, hb, hc⟩⟩ := r2
      · cases hp
      · refine ⟨cs, e, fz, hb, fun i x h => ?_, fun i x h => (py x (List.mem_of_getElem? ((Cs.getL_eq ys i).symm.trans h))).2 _, fun h => by cases h⟩
        have h' : ys[i]? = some x := (Cs.getL_eq ys i).symm.trans h
        rw [(py x (List.mem_of_getElem? h')).1]
        exact hc i x h'
  · rcases hi with ⟨rfl, hp⟩ | ⟨rfl, hp⟩
    · rw [heap2_get0] at hgi
      cases hgi; cases hw
    · rw [heap2_get1] at hgi
      cases hgi; cases hw

theorem ab_conc0 {W : World} {v w : Value} {e1 n1 : Nat} {xs : List V} (r1 : Rd W v e1 n1 xs) : (ab 0 n1 v).conc (env2 v w) = v := by
  obtain ⟨_, ⟨rfl, rfl⟩ | ⟨b, off, cap, cs, e, fz, rfl, _, hb, hc⟩⟩ := r1
  · simp [ab, V.conc]
  · simp [ab, V.conc, env2, ablk, aoff, Cap.val]
theorem ab_conc1 {W : World} {v w : Value} {e1 n1 : Nat} {xs : List V} (r1 : Rd W w e1 n1 xs) : (ab 1 n1 w).conc (env2 v w) = w := by
  obtain ⟨_, ⟨rfl, rfl⟩ | ⟨b, off, cap, cs, e, fz, rfl, _, hb, hc⟩⟩ := r1
  · simp [ab, V.conc]
  · simp [ab, V.conc, env2, ablk, aoff, Cap.val]
    exact ⟨rfl, rfl⟩
theorem ab_in0 {W : World} {v w : Value} {e1 n1 : Nat} {xs : List V} (r1 : Rd W v e1 n1 xs) : (ab 0 n1 v).In (D2 v w) := by
  obtain ⟨_, ⟨rfl, rfl⟩ | ⟨b, off, cap, cs, e, fz, rfl, _, hb, hc⟩⟩ := r1
  · simp [ab, V.In]
  · simp [ab, V.In, D2, pb]
theorem ab_in1 {W : World} {v w : Value} {e1 n1 : Nat} {xs : List V} (r1 : Rd W w e1 n1 xs) : (ab 1 n1 w).In (D2 v w) := by
  obtain ⟨_, ⟨rfl, rfl⟩ | ⟨b, off, cap, cs, e, fz, rfl, _, hb, hc⟩⟩ := r1
  · simp [ab, V.In]
  · simp [ab, V.In, D2, pb]
/-- The forms that such a slice has. -/
theorem ab_is {W : World} {v : Value} {i e1 n1 : Nat} {xs : List V} (r1 : Rd W v e1 n1 xs) : (ab i n1 v = .nilslice ∧ n1 = 0) ∨ ∃ cap, n1 ≤ cap ∧ ab i n1 v = .slice i 0 n1 (.exact cap) := by
  obtain ⟨_, ⟨rfl, rfl⟩ | ⟨b, off, cap, cs, e, fz, rfl, hl, hb, hc⟩⟩ := r1
  · exact .inl ⟨rfl, rfl⟩
  · exact .inr ⟨cap, hl, rfl⟩
theorem ab_sl0 {W : World} {v : Value} {e1 n1 : Nat} {xs : List V} (r1 : Rd W v e1 n1 xs) (ys : List V) : Sl (heap2 xs ys) (ab 0 n1 v) e1 n1 xs := by
  refine ⟨r1.1, ?_⟩
  rcases ab_is (i := 0) r1 with ⟨h1, h2⟩ | ⟨cap, _, h1⟩
  · exact .inl ⟨h1, h2⟩
  · exact .inr ⟨0, 0, _, _, _, _, _, h1, by rw [heap2_next]; decide, heap2_get0 _ _, fun i _ => by rw [Nat.zero_add]; exact Cs.getL_eq xs i⟩
theorem ab_sl1 {W : World} {v : Value} {e1 n1 : Nat} {ys : List V} (r1 : Rd W v e1 n1 ys) (xs : List V) : Sl (heap2 xs ys) (ab 1 n1 v) e1 n1 ys := by
  refine ⟨r1.1, ?_⟩
  rcases ab_is (i := 1) r1 with ⟨h1, h2⟩ | ⟨cap, _, h1⟩
  · exact .inl ⟨h1, h2⟩
  · exact .inr ⟨1, 0, _, _, _, _, _, h1, by rw [heap2_next]; decide, heap2_get1 _ _, fun i _ => by rw [Nat.zero_add]; exact Cs.getL_eq ys i⟩

theorem SimF.calls2 {P : Program} {f : Nat} {args : List V} {h : H} {xs ys : List V} {v w : Value} {W : World} (s : SimF P f args (heap2 xs ys) (.ret (.bool true) h)) (hr : HR (env2 v w) (D2 v w) (heap2 xs ys) W) (hin : ∀ x ∈ args, x.In (D2 v w)) :
    Calls P f (args.map (V.conc (env2 v w))).toArray W fun e W' => e = .returned (.bool true) ∧ Below W.heap.size W W' := by
  have h1 := s _ _ W hr hin
  refine CallsIn.calls (F := Fx none) (CallsIn.mono h1 ?_) (Fx_room none)
  rintro e W' ⟨ρ, rfl, m, _, _⟩
  refine ⟨rfl, m.os, m.tape, m.output, m.size, fun k hk => m.frame k hk fun j o hj hg hw => ?_⟩
  rcases hj with ⟨rfl, hp⟩ | ⟨rfl, hp⟩
  · rw [heap2_get0] at hg
    cases hg; cases hw
  · rw [heap2_get1] at hg
    cases hg; cases hw

/-- Below the heap's old size nothing has turned: so all arguments read as they did. -/
theorem below_trodAll {H : Type} {enc : TypeId × Value → H} {P : Program} (hl : laidOutB P = true) {W W' : World} (hb : Below W.heap.size W W') :
    ∀ {ts : List TypeId} {vs : List Value} {ds : List (DataW H)} {ps : List MemPlace}, (ts.all fun t => P.readableRec t && decide (t < P.types.size)) = true → DataW.TrodAll enc P W 0 (fun _ => true) true ts vs ds ps → (∀ x ∈ ps, x.block < W.heap.size) →
      DataW.TrodAll enc P W' 0 (fun b => decide (b < W.heap.size)) true ts vs ds ps
  | [], [], [], _, _, h, _ => h
  | _ :: _, _ :: _, _ :: _, _, ht, ⟨p, q, h1, h2, e⟩, hp => by
    simp only [List.all_cons, Bool.and_eq_true] at ht
    exact ⟨p, q, Below.trod hl ht.1.1 (of_decide_eq_true ht.1.2) h1 hb (fun x hx => hp x (by rw [e]; exact List.mem_append_left _ hx)), below_trodAll hl hb ht.2 h2 (fun x hx => hp x (by rw [e]; exact List.mem_append_right _ hx)), e⟩

/-- What a row asks behind a call that answers true and turns nothing. -/
theorem post_same {H : Type} {enc : TypeId × Value → H} {P : Program} {f : Func} {s : ChangeSpec} {W W' : World} {args : Array Value} {ds gs : List (DataW H)} {before : List MemPlace} {bt : TypeId} (hl : laidOutB P = true)
    (hts : (f.params.toList.all fun t => P.readableRec t && decide (t < P.types.size)) = true) (hW : DataW.Whole enc P f.params.toList s.vars false W args.toList ds gs before) (hb : Below W.heap.size W W') (hr : f.resultTypes = #[bt]) (ht : P.underlying bt = some .bool)
    (er : (s.fn H (ds ++ gs)).results = [.lit (.bool true)]) (ea : (s.fn H (ds ++ gs)).args = ds) (hv : DataW.TrodVars enc P W' (fun b => decide (b < W.heap.size)) s.vars (s.fn H (ds ++ gs)).vars []) :
    s.post enc P f false true false false W args (.bool true) W' := by
  have hlt := hW.lt
  have hW' := hW
  obtain ⟨p, q, hA, _, rfl, _, _⟩ := hW
  exact post_true (pa := p) (pv := []) hW' hb hr ht er (by rw [ea]; exact below_trodAll hl hb hts hA fun x hx => hlt x (List.mem_append_left _ hx)) hv

/-! ### Reading the arguments -/

section
variable {H : Type} {enc : TypeId × Value → H} {P : Program} {W : World} {base : Nat}

theorem slice_block {t e : TypeId} {a : Addr} {len cap : Nat} (ht : P.underlying t = some (.slice e)) (hv : Value.okWide P W .any base t (.slice (some a) len cap)) : a.spot = none ∧ ∃ cs e fz, W.heap[a.block]? = some (.cells cs e fz) := by
  simp only [Value.okWide, ht, Cell.okWide, Cell.ok] at hv
  obtain ⟨_, _, _, h2, row, cells, h3, _⟩ := hv
  refine ⟨h2, ?_⟩
  unfold World.shape? at h3
  split at h3
  · rename_i cs e fz h4; exact ⟨cs, e, fz, h4⟩
  · cases h3

theorem rd_ints {t e : TypeId} {v : Value} {d : DataW H} {p : List MemPlace} (ht : P.underlying t = some (.slice e)) (he : P.underlying e = some (.int .i64)) (hc : P.cellsOf e = 1) (hv : Value.okWide P W .any base t v) (h : DataW.Trod enc P W 0 (fun _ => true) true t v d p) :
    ∃ zs : List Int, Rd W v 1 zs.length (zs.map fun n => V.int .i64 n) ∧ zs.length < 9223372036854775808 := by
  obtain ⟨a0, l0, c0, rfl⟩ := okWide_slice ht hv
  obtain ⟨fuel, hx⟩ := h
  have hx' : DataW.trod enc P W 0 (fun _ => true) true fuel t [.slice a0 l0 c0] = some (d, p) := by simpa [Value.cells] using hx
  rcases open_ints ht he hc hx' with ⟨e1, e2⟩ | ⟨a, len, cap, zs, e1, _, hl, hm, hz, e2, hcell, hw⟩
  · cases e1
    exact ⟨[], ⟨rfl, .inl ⟨rfl, rfl⟩⟩, by decide⟩
  · cases e1
    have hz' : zs.length = c0 := by simpa using hz
    obtain ⟨hsp, cs, e, fz, hb⟩ := slice_block ht hv
    obtain ⟨b, off, sp⟩ := a
    cases hsp
    have hlen : (zs.take l0).length = l0 := by simp; omega
    have hml : c0 ≤ 2 ^ 63 - 1 := hm
    refine ⟨zs.take l0, ⟨by simp, .inr ⟨b, off, c0, cs, e, fz, by rw [hlen], by omega, hb, fun i x hi => ?_⟩⟩, by omega⟩
    rw [List.getElem?_map] at hi
    obtain ⟨z, h1, rfl⟩ := Option.map_eq_some_iff.1 hi
    have hil : i < l0 := by have := (List.getElem?_eq_some_iff.1 h1).1; omega
    have h2 : zs.getD i 0 = z := by
      rw [List.getElem?_take_of_lt hil] at h1
      simp [List.getD, h1]
    have := hcell i (by omega)
    rw [add_plain, h2] at this
    simpa [World.cell?, hb, V.conc] using this

/-- A value of a struct: its cells, each with its type's form. -/
theorem struct_cells {t : TypeId} {fs : Array Field} {v : Value} {ts : List TypeId} (ht : P.underlying t = some (.struct fs)) (hts : P.cellTypes P.depth t = some ts) (hc : P.cellsOf t = ts.length) (hv : Value.okWide P W .any base t v) :
    ∃ cs : List Value, v = .agg cs.toArray ∧ cs.length = ts.length ∧ ∀ (i : Nat) (x : Value) (u : TypeId), cs[i]? = some x → ts[i]? = some u → Cell.okWide P W .any base u x := by
  simp only [Value.okWide, ht] at hv
  obtain ⟨cs, rfl, hs, ts', h1, _, h3⟩ := hv
  rw [hts] at h1
  cases h1
  refine ⟨cs.toList, by simp, by simp [hs, hc], fun i x u hi hu => ?_⟩
  obtain ⟨u', h4, h5⟩ := h3 i x (by simpa using hi)
  have hil : i < ts.length := (List.getElem?_eq_some_iff.1 hu).1
  rw [Nat.mod_eq_of_lt hil, hu] at h4
  cases h4
  exact h5

theorem cell_int {u : TypeId} {k : IntKind} {x : Value} (hu : P.underlying u = some (.int k)) (h : Cell.okWide P W .any base u x) : ∃ n, x = .int k n := by
  simp only [hu, Cell.okWide] at h
  cases x <;> simp_all [Cell.ok]
theorem cell_bool {u : TypeId} {x : Value} (hu : P.underlying u = some .bool) (h : Cell.okWide P W .any base u x) : ∃ b, x = .bool b := by
  simp only [hu, Cell.okWide] at h
  cases x <;> simp_all [Cell.ok]
end

end Go.Sim
