/- The program's tables, as the evaluator reads them. No condition. -/
import Derived.Test.YtjaofjfhgindjaaGreatRows
import Derived.Test.YtjaofjfhgindjaaGreatSimChunk
import Derived.Test.YtjaofjfhgindjaaGreatSimEnd
import Derived.KernelRfl
namespace Go.Proofs.YtjaofjfhgindjaaGreat
open Go.Sim Go.RowKit

theorem own : ownKnob Tryz.prog.godebug = none := by kernel_rfl
noncomputable def ctx : Ctx := Ctx.of Tryz.prog none
theorem ctx_ok : CtxOK Tryz.prog ctx := ctxOK Tryz.prog none (of_decide_eq_true (by kernel_rfl)) (of_decide_eq_true (by kernel_rfl)) (fun _ h => nomatch h)

end Go.Proofs.YtjaofjfhgindjaaGreat
