/- A closed run serves in every heap. -/
import Derived.Test.YtamddelaigcnkaaGreatSimWp
import Derived.Test.YtamddelaigcnkaaGreatSimEnd
namespace Go.Sim

theorem Dx_same (D : Nat → Prop) (h : H) : Dx D h h = D := by
  funext id
  exact propext ⟨fun e => e.elim (fun q => q) (fun q => by omega), .inl⟩

theorem SimF.frame {P : Program} {f : Nat} {b : Bool} {h0 h : H} (s : SimF P f [] H0 (.ret (.bool b) h0)) : SimF P f [] h (.ret (.bool b) h) := by
  intro ρ D w hr _
  have h1 := s env0 (fun _ => False) w (HR_none _ _) (by simp)
  refine CallsIn.mono h1 ?_
  rintro e w' ⟨ρ', rfl, m, _, _⟩
  have fr : ∀ r, r < w.heap.size → w'.heap[r]? = w.heap[r]? := fun k hk => m.frame k hk fun _ _ hj => hj.elim
  refine ⟨ρ, rfl, ⟨Nat.le_refl _, m.size, m.os, m.tape, m.output, fun _ _ => ⟨rfl, rfl, rfl⟩, fun id o' _ hg => ⟨o', hg, rfl⟩, fun id o' g1 g2 _ => by omega, fun r hr _ => fr r hr, Nat.le_refl _, fun _ _ _ => rfl⟩, ?_, trivial⟩
  rw [Dx_same]
  refine ⟨hr.cap, hr.lt, fun id o hd hg => ?_, hr.inj⟩
  have h2 := hr.rel id o hd hg
  rcases Nat.lt_or_ge (ρ.blk id) w.heap.size with q | q
  · rw [fr _ q]; exact h2
  · exfalso
    rw [Array.getElem?_eq_none q] at h2
    cases o <;> simp [ORel] at h2

/-- A value without references. -/
def Plain (x : V) : Prop := (∀ ρ, x.conc ρ = x.conc env0) ∧ ∀ D, x.In D

theorem plain_int (k : IntKind) (n : Int) : Plain (.int k n) := ⟨fun _ => by simp [V.conc], fun _ => by simp [V.In]⟩
theorem plain_bool (b : Bool) : Plain (.bool b) := ⟨fun _ => by simp [V.conc], fun _ => by simp [V.In]⟩
theorem plain_str (l : List UInt8) : Plain (.str l) := ⟨fun _ => by simp [V.conc], fun _ => by simp [V.In]⟩
theorem plain_agg {l : List V} (h : ∀ x ∈ l, Plain x) : Plain (.agg l) :=
  ⟨fun ρ => by
    simp only [V.conc, V.concL_eq]
    rw [List.map_congr_left fun x hx => (h x hx).1 ρ], fun D => by
    simp only [V.In]
    exact V.InL_iff.2 fun x hx => (h x hx).2 D⟩
theorem plain_tuple {l : List V} (h : ∀ x ∈ l, Plain x) : Plain (.tuple l) :=
  ⟨fun ρ => by
    simp only [V.conc, V.concL_eq]
    rw [List.map_congr_left fun x hx => (h x hx).1 ρ], fun D => by
    simp only [V.In]
    exact V.InL_iff.2 fun x hx => (h x hx).2 D⟩

/-- A call of values without references that hands back such a value serves in every heap, and leaves it as it is. -/
theorem SimF.plain {P : Program} {f : Nat} {args : List V} {v : V} {h0 h : H} (s : SimF P f args H0 (.ret v h0)) (ha : ∀ a ∈ args, Plain a) (hv : Plain v) : SimF P f args h (.ret v h) := by
  intro ρ D w hr _
  have h1 := s env0 (fun _ => False) w (HR_none _ _) (fun a q => (ha a q).2 _)
  have he : args.map (V.conc ρ) = args.map (V.conc env0) := List.map_congr_left fun a q => (ha a q).1 ρ
  rw [he]
  refine CallsIn.mono h1 ?_
  rintro e w' ⟨ρ', rfl, m, _, _⟩
  have fr : ∀ r, r < w.heap.size → w'.heap[r]? = w.heap[r]? := fun k hk => m.frame k hk fun _ _ hj => hj.elim
  refine ⟨ρ, by rw [hv.1 ρ', hv.1 ρ], ⟨Nat.le_refl _, m.size, m.os, m.tape, m.output, fun _ _ => ⟨rfl, rfl, rfl⟩, fun id o' _ hg => ⟨o', hg, rfl⟩, fun id o' g1 g2 _ => by omega, fun r hr _ => fr r hr, Nat.le_refl _, fun _ _ _ => rfl⟩, ?_, hv.2 _⟩
  rw [Dx_same]
  refine ⟨hr.cap, hr.lt, fun id o hd hg => ?_, hr.inj⟩
  have h2 := hr.rel id o hd hg
  rcases Nat.lt_or_ge (ρ.blk id) w.heap.size with q | q
  · rw [fr _ q]; exact h2
  · exfalso
    rw [Array.getElem?_eq_none q] at h2
    cases o <;> simp [ORel] at h2

theorem RF.plain {P : Program} {c : Ctx} {f : Nat} {args : List V} {h : H} {Q : V → H → Prop} (r : RF P c f args H0 fun v _ => Plain v ∧ Q v h) (ha : ∀ a ∈ args, Plain a) : RF P c f args h Q := by
  obtain ⟨v, h', ⟨hf, s⟩, hp, hq⟩ := r
  exact ⟨v, h, ⟨hf, s.plain ha hp⟩, hq⟩

end Go.Sim
