/- The program's tables, as the evaluator reads them. No condition. -/
import Derived.Test.YtamddelaigcnkaaGreatRows
import Derived.Test.YtamddelaigcnkaaGreatSimChunk
import Derived.Test.YtamddelaigcnkaaGreatSimEnd
import Derived.KernelRfl
namespace Go.Proofs.YtamddelaigcnkaaGreat
open Go.Sim Go.RowKit

theorem own : ownKnob Tryz.prog.godebug = none := by kernel_rfl
noncomputable def ctx : Ctx := Ctx.of Tryz.prog (some 76) (some (77, 5))
theorem ctx_ok : CtxOK Tryz.prog ctx := ctxOK Tryz.prog (some 76) (some (77, 5)) (of_decide_eq_true (by kernel_rfl)) (of_decide_eq_true (by kernel_rfl)) (fun k h => by cases h; exact ⟨Tryz.f76, Tryz.func76, by kernel_rfl, by kernel_rfl, by kernel_rfl, by kernel_rfl⟩) (fun k el h => by cases h; exact ⟨Tryz.f77, Tryz.f77.params, Tryz.f77.resultTypes, 79, Tryz.func77, by kernel_rfl, by kernel_rfl, by kernel_rfl, by kernel_rfl, by kernel_rfl, by kernel_rfl⟩)

end Go.Proofs.YtamddelaigcnkaaGreat
