/- The program's tables, as the evaluator reads them. No condition. -/
import Derived.Test.YticncafijledaaaGreatRows
import Derived.Test.YticncafijledaaaGreatSimChunk
import Derived.Test.YticncafijledaaaGreatSimEnd
import Derived.KernelRfl
namespace Go.Proofs.YticncafijledaaaGreat
open Go.Sim Go.RowKit

theorem own : ownKnob Tryz.prog.godebug = none := by kernel_rfl
noncomputable def ctx : Ctx := Ctx.of Tryz.prog (some 80) (some (81, 5))
theorem ctx_ok : CtxOK Tryz.prog ctx := ctxOK Tryz.prog (some 80) (some (81, 5)) (of_decide_eq_true (by kernel_rfl)) (of_decide_eq_true (by kernel_rfl)) (fun k h => by cases h; exact ⟨Tryz.f80, Tryz.func80, by kernel_rfl, by kernel_rfl, by kernel_rfl, by kernel_rfl⟩) (fun k el h => by cases h; exact ⟨Tryz.f81, Tryz.f81.params, Tryz.f81.resultTypes, 94, Tryz.func81, by kernel_rfl, by kernel_rfl, by kernel_rfl, by kernel_rfl, by kernel_rfl, by kernel_rfl⟩)

end Go.Proofs.YticncafijledaaaGreat
