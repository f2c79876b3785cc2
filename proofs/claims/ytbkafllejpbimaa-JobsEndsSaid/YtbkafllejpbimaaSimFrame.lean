/- A closed run serves in every heap. -/
import Derived.Test.YtbkafllejpbimaaSimWp
import Derived.Test.YtbkafllejpbimaaSimEnd
namespace Go.Sim

theorem Dx_same (D : Nat → Prop) (h : H) : Dx D h h = D := by
  funext id
  exact propext ⟨fun e => e.elim (fun q => q) (fun q => by omega), .inl⟩

theorem SimF.frame {P : Program} {f : Nat} {b : Bool} {h0 h : H} (s : SimF P f [] H0 (.ret (.bool b) h0)) : SimF P f [] h (.ret (.bool b) h) := by
  intro ρ D w hr _
  have h1 := s env0 (fun _ => False) w (HR_none _ _) (by simp)
  refine CallsIn.mono h1 ?_
  rintro e w' ⟨ρ', rfl, m, _, _⟩
  have fr : ∀ r, r < w.heap.size → w'.heap[r]? = w.heap[r]? := fun k hk => m.frame k hk fun _ _ hj => hj.elim
  refine ⟨ρ, rfl, ⟨Nat.le_refl _, m.size, m.os, m.tape, m.output, fun _ _ => ⟨rfl, rfl, rfl⟩, fun id o' _ hg => ⟨o', hg, rfl⟩, fun id o' g1 g2 _ => by omega, fun r hr _ => fr r hr, Nat.le_refl _, fun _ _ _ => rfl⟩, ?_, trivial⟩
  rw [Dx_same]
  refine ⟨hr.cap, hr.lt, fun id o hd hg => ?_, hr.inj⟩
  have h2 := hr.rel id o hd hg
  rcases Nat.lt_or_ge (ρ.blk id) w.heap.size with q | q
  · rw [fr _ q]; exact h2
  · exfalso
    rw [Array.getElem?_eq_none q] at h2
    cases o <;> simp [ORel] at h2

end Go.Sim
