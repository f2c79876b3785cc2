/- The law LitsKnown: whatever the state, it returns true. No condition. -/
import Derived.Test.YticncafijledaaaGreatRun
namespace Go.Proofs.YticncafijledaaaGreat
open Go.ChangeShapes Go.WideShapes Go.ChangeAt Go.RowKit

theorem litsKnown_any (W : World) : Calls Tryz.prog 3 #[] W fun e W' => e = .returned (.bool true) ∧ Below W.heap.size W W' := by
  obtain ⟨h, e⟩ := Go.Sim.saysTrue_iff litsKnown_run
  exact (Go.Sim.X.sound ctx_ok orc_ok e).says (fun _ h => nomatch h) W

set_option maxRecDepth 100000 in
theorem litsKnown_lifted (os : Os) (started : os.Started) (H : Type) (enc : TypeId × Value → H) :
    ReturnsInHanded {} Tryz.checked os 3 .any (Rows.litsKnownSpec.pre6 enc Tryz.prog Tryz.f3 Rows.litsKnownRow.domain false) (Rows.litsKnownSpec.post enc Tryz.prog Tryz.f3 false true false false) := by
  refine returnsInHanded_of_change (C := Tryz.checked) own started (by kernel_rfl) Tryz.func3
    (ChangeSpec.witness6 (enc := enc) (C := Tryz.checked) false ⟨#[], #[], []⟩ 8 (by kernel_rfl) (by kernel_rfl) (by kernel_rfl) (by kernel_rfl)) ?_
  intro W base args ds gs before _ hW _ _
  have hW' := hW
  obtain ⟨p, q, hA0, hV, rfl, _, _⟩ := hW
  have hA : DataW.TrodAll enc Tryz.prog W 0 (fun _ => true) true Tryz.f3.params.toList args.toList ds p := hA0
  rw [Tryz.params3] at hA
  obtain ⟨ha, rfl, rfl⟩ := trodAll_nil hA
  obtain ⟨rfl, rfl⟩ := trodVars_none hV
  have h0 : args = #[] := by simpa using ha
  subst h0
  refine (litsKnown_any W).mono fun e W' ⟨he, hb⟩ => ⟨_, he, ?_⟩
  exact Go.Sim.post_true (pa := []) (pv := []) hW' hb rfl Tryz.underlying4 rfl rfl rfl

theorem litsKnown_holds : Rows.LitsKnownSaid :=
  OpenClaim.holds_of_wide 3 Tryz.f3 rfl rfl rfl rfl rfl rfl rfl ⟨rfl, rfl, rfl, rfl, rfl⟩ rfl rfl rfl rfl rfl (by kernel_rfl) Tryz.func3 (by kernel_rfl)
    (of_decide_eq_true (by kernel_rfl)) (by unfold Func.isWrapper; first | (rw [if_pos (by decide +kernel)]; kernel_rfl) | (rw [if_neg (by decide +kernel)]; exact ⟨rfl, rfl⟩))
    (fun os started H enc _ => litsKnown_lifted os started H enc)

end Go.Proofs.YticncafijledaaaGreat
