/- A law of a slice of integers and an integer: if its function answers true at whatever slice and number, the row's terms hold. -/
import Derived.Test.YtamddelaigcnkaaGreatSimOpen
import Derived.ChangeSlices
namespace Go.Sim
open Go.RowKit Go.ChangeShapes Go.WideShapes Go.ChangeAt

/-- The law's function answers true at every slice of integers and every number. -/
def TrueInts (P : Program) (c : Ctx) (f : Nat) : Prop :=
  ∀ (v : V) (nums : List Int) (n : Int) (h : H), Sl h v 1 nums.length (nums.map fun n => V.int .i64 n) → nums.length < 9223372036854775808 → h.next ≤ 1 → h.low ≤ T.top → RF P c f [v, .int .i64 n] h fun r _ => r = .bool true

variable {P : Program} {c : Ctx} {f : Nat}

theorem ints_nil (hf : TrueInts P c f) (n : Int) (W : World) : Calls P f #[.slice none 0 0, .int .i64 n] W fun e W' => e = .returned (.bool true) ∧ Below W.heap.size W W' := by
  obtain ⟨r, h', ⟨_, s⟩, rfl⟩ := hf .nilslice [] n H0 ⟨rfl, Or.inl ⟨rfl, rfl⟩⟩ (by decide) (by decide) (Nat.le_refl _)
  exact s.says (fun v hv => by
    rcases List.mem_cons.1 hv with rfl | hv
    · simp [V.In]
    · rcases List.mem_cons.1 hv with rfl | hv
      · simp [V.In]
      · cases hv) W

theorem ints_some (hf : TrueInts P c f) (zs : List Int) (n : Int) {b off len cap : Nat} {cs : Array Value} {e : TypeId} {fz : Nat × Nat} {W : World} (hb : W.heap[b]? = some (.cells cs e fz)) (hl : len ≤ zs.length) (hm : len < 9223372036854775808)
    (hc : ∀ i, i < zs.length → cs[off + i]? = some (.int .i64 (zs.getD i 0))) : Calls P f #[.slice (some ⟨b, off, none⟩) len cap, .int .i64 n] W fun e W' => e = .returned (.bool true) ∧ Below W.heap.size W W' := by
  have hlen : (zs.take len).length = len := by simp; omega
  have get : ∀ i, i < len → (zs.take len)[i]? = some (zs.getD i 0) := fun i hi => by
    rw [List.getElem?_take_of_lt hi, List.getElem?_eq_getElem (by omega)]; simp [List.getD, show i < zs.length by omega]
  have hcell : ∀ i v, ((zs.take len).map fun n => V.int .i64 n)[i]? = some v → ∃ z, v = .int .i64 z ∧ cs[off + i]? = some (.int .i64 z) := fun i v h => by
    rw [List.getElem?_map] at h
    obtain ⟨z, h1, rfl⟩ := Option.map_eq_some_iff.1 h
    have hi : i < len := by have := (List.getElem?_eq_some_iff.1 h1).1; omega
    rw [get i hi] at h1
    cases h1
    exact ⟨_, rfl, hc i (by omega)⟩
  have hr : HR (envRO b off) (fun i => i = 0) (hRO ((zs.take len).map fun n => V.int .i64 n)) W := by
    refine HR_RO hb (fun i v h => ?_) (fun v hv => ?_) (fun v hv => ?_)
    · obtain ⟨z, rfl, h2⟩ := hcell i v h
      rw [h2]; simp [V.conc]
    · obtain ⟨z, _, rfl⟩ := List.mem_map.1 hv; simp [V.conc]
    · obtain ⟨z, _, rfl⟩ := List.mem_map.1 hv; simp [V.In]
  have hs : Sl (hRO ((zs.take len).map fun n => V.int .i64 n)) (.slice 0 0 len (.exact cap)) 1 (zs.take len).length ((zs.take len).map fun n => V.int .i64 n) := by
    refine ⟨by simp, Or.inr ⟨0, 0, .exact cap, _, _, false, false, by rw [hlen], by rw [hRO_next]; decide, hRO_get _, fun i _ => ?_⟩⟩
    rw [Nat.zero_add]; exact Cs.getL_eq _ i
  obtain ⟨r, h', ⟨_, s⟩, rfl⟩ := hf _ _ n _ hs (by rw [hlen]; exact hm) (by rw [hRO_next]; decide) (Nat.le_refl _)
  have k := s.callsRO hr (fun v hv => by
    rcases List.mem_cons.1 hv with rfl | hv
    · simp [V.In]
    · rcases List.mem_cons.1 hv with rfl | hv
      · simp [V.In]
      · cases hv)
  simpa [V.conc, envRO, Cap.val] using k

/-- The lifted terms of such a law. -/
theorem ints_law (hf : TrueInts P c f) {H : Type} {enc : TypeId × Value → H} {fn : Func} {s : ChangeSpec} {W : World} {base : Nat} {v0 v1 : Value} {d0 d1 : DataW H} {gs : List (DataW H)} {p0 p1 q : List MemPlace} {ts te ti bt : TypeId}
    (hts : P.underlying ts = some (.slice te)) (hte : P.underlying te = some (.int .i64)) (hce : P.cellsOf te = 1) (hti : P.underlying ti = some (.int .i64)) (hbt : P.underlying bt = some .bool) (hp : fn.params = #[ts, ti]) (hr : fn.resultTypes = #[bt])
    (er : ∀ d1 d2, (s.fn H [d1, d2]).results = [.lit (.bool true)]) (ea : ∀ d1 d2, (s.fn H [d1, d2]).args = [d1, d2]) (ev : ∀ W', DataW.TrodVars enc P W' (fun b => decide (b < W.heap.size)) s.vars (s.fn H ([d0, d1] ++ gs)).vars [])
    (hg : gs = []) (hval : ∀ (j : Nat) t v, fn.params[j]? = some t → #[v0, v1][j]? = some v → Value.okWide P W .any base t v)
    (hW : DataW.Whole enc P fn.params.toList s.vars false W [v0, v1] [d0, d1] gs q)
    (h0 : DataW.Trod enc P W 0 (fun _ => true) true ts v0 d0 p0) (h1 : DataW.Trod enc P W 0 (fun _ => true) true ti v1 d1 p1) :
    Calls P f #[v0, v1] W fun e W' => ∃ r, e = .returned r ∧ s.post enc P fn false true false false W #[v0, v1] r W' := by
  subst hg
  have hv0 := hval 0 ts v0 (by rw [hp]; rfl) rfl
  obtain ⟨n, rfl, rfl, rfl, wn⟩ := open_int hti (hval 1 ti v1 (by rw [hp]; rfl) rfl) h1
  obtain ⟨a0, l0, c0, rfl⟩ := okWide_slice hts hv0
  obtain ⟨fuel, hx⟩ := h0
  have hx' : DataW.trod enc P W 0 (fun _ => true) true fuel ts [.slice a0 l0 c0] = some (d0, p0) := by simpa [Value.cells] using hx
  rcases open_ints hts hte hce hx' with ⟨e1, e2⟩ | ⟨a, len, cap, zs, e1, _, hl, hm, hz, e2, hcell, hw⟩
  · cases e1; cases e2
    refine (ints_nil hf n W).mono fun e W' ⟨he, hb⟩ => ⟨_, he, ?_⟩
    refine post_true (pa := [] ++ []) (pv := []) hW hb hr hbt (er _ _) ?_ (ev W')
    show DataW.TrodAll enc P W' 0 (fun b => decide (b < W.heap.size)) true fn.params.toList _ (s.fn H [_, _]).args _
    rw [ea, hp]
    exact trodAll_mk2 (p := []) (p' := []) ⟨1, by simp [DataW.trod, Value.cells, hts]⟩ (shut_int hti wn)
  · cases e1; cases e2
    have hz' : zs.length = c0 := by simpa using hz
    -- the block
    have hcell0 : a.spot = none ∧ ∃ cs e fz, W.heap[a.block]? = some (.cells cs e fz) := by
      simp only [Value.okWide, hts, Cell.okWide, Cell.ok] at hv0
      obtain ⟨_, _, _, h2, row, cells, h3, _⟩ := hv0
      refine ⟨h2, ?_⟩
      unfold World.shape? at h3
      split at h3
      · rename_i cs e fz h4; exact ⟨cs, e, fz, h4⟩
      · cases h3
    obtain ⟨hsp, cs, e, fz, hb⟩ := hcell0
    obtain ⟨b, off, sp⟩ := a
    cases hsp
    have hc : ∀ i, i < zs.length → cs[off + i]? = some (.int .i64 (zs.getD i 0)) := fun i hi => by
      have := hcell i hi
      rw [add_plain] at this
      simpa [World.cell?, hb] using this
    have hml : c0 < 9223372036854775808 := by have : c0 ≤ 2 ^ 63 - 1 := hm; omega
    have hbs : b < W.heap.size := by
      rcases Nat.lt_or_ge b W.heap.size with h | h
      · exact h
      · rw [Array.getElem?_eq_none h] at hb; cases hb
    refine (ints_some hf zs n hb (by omega) (by omega) hc).mono fun e W' ⟨he, hbw⟩ => ⟨_, he, ?_⟩
    refine post_true (pa := MemPlace.row ⟨b, off, none⟩ zs.length ++ []) (pv := []) hW hbw hr hbt (er _ _) ?_ (ev W')
    show DataW.TrodAll enc P W' 0 (fun b => decide (b < W.heap.size)) true fn.params.toList _ (s.fn H [_, _]).args _
    rw [ea, hp]
    refine trodAll_mk2 (p' := []) ⟨0 + 2, ?_⟩ (shut_int hti wn)
    show DataW.trod enc P W' 0 (fun b => decide (b < W.heap.size)) true (0 + 2) ts [_] = _
    refine shut_ints' 0 hts hte hce (Nat.zero_le _) hl hm (by simp [hbs, hz']) (fun i hi => ?_) hw
    simp only [World.cell?, hbw.block b hbs, hb]
    simpa using hc i hi

end Go.Sim
