/- The law JobsKnown: whatever the state, it returns true. No condition. -/
import Derived.Test.YtifabdlnecohfaaRun
namespace Go.Proofs.Ytifabdlnecohfaa
open Go.ChangeShapes Go.WideShapes Go.ChangeAt Go.RowKit

theorem jobsKnown_any (W : World) : Calls Try.prog 6 #[] W fun e W' => e = .returned (.bool true) ∧ Below W.heap.size W W' := by
  obtain ⟨h, e⟩ := Go.Sim.saysTrue_iff jobsKnown_run
  exact (Go.Sim.run_sound ctx_ok (Go.Sim.noOrc_ok _ _) e).says (fun _ h => nomatch h) W

set_option maxRecDepth 100000 in
theorem jobsKnown_lifted (os : Os) (started : os.Started) (H : Type) (enc : TypeId × Value → H) :
    ReturnsInHanded {} Try.checked os 6 .any (Rows.jobsKnownSpec.pre6 enc Try.prog Try.f6 Rows.jobsKnownRow.domain false) (Rows.jobsKnownSpec.post enc Try.prog Try.f6 false true false false) := by
  refine returnsInHanded_of_change (C := Try.checked) Try.own started (by kernel_rfl) Try.func6
    (ChangeSpec.witness6 (enc := enc) (C := Try.checked) false ⟨#[], #[], []⟩ 8 (by kernel_rfl) (by kernel_rfl) (by kernel_rfl) (by kernel_rfl)) ?_
  intro W base args ds gs before _ hW _ _
  have hW' := hW
  obtain ⟨p, q, hA0, hV, rfl, _, _⟩ := hW
  have hA : DataW.TrodAll enc Try.prog W 0 (fun _ => true) true Try.f6.params.toList args.toList ds p := hA0
  rw [Try.params6] at hA
  obtain ⟨ha, rfl, rfl⟩ := trodAll_nil hA
  obtain ⟨rfl, rfl⟩ := trodVars_none hV
  have h0 : args = #[] := by simpa using ha
  subst h0
  refine (jobsKnown_any W).mono fun e W' ⟨he, hb⟩ => ⟨_, he, ?_⟩
  exact Go.Sim.post_true (pa := []) (pv := []) hW' hb rfl Try.underlying4 rfl rfl rfl

theorem jobsKnown_holds : Rows.JobsKnownSaid :=
  OpenClaim.holds_of_wide 6 Try.f6 rfl rfl rfl rfl rfl rfl rfl ⟨rfl, rfl, rfl, rfl, rfl⟩ rfl rfl rfl rfl rfl (by kernel_rfl) Try.func6 (by kernel_rfl)
    (of_decide_eq_true (by kernel_rfl)) (by unfold Func.isWrapper; first | (rw [if_pos (by decide +kernel)]; kernel_rfl) | (rw [if_neg (by decide +kernel)]; exact ⟨rfl, rfl⟩))
    (fun os started H enc _ => jobsKnown_lifted os started H enc)

end Go.Proofs.Ytifabdlnecohfaa
