/- The program's tables, as the evaluator reads them. No condition. -/
import Derived.Test.YtbkafllejpbimaaRows
import Derived.Test.YtbkafllejpbimaaSimChunk
import Derived.Test.YtbkafllejpbimaaSimEnd
import Derived.KernelRfl
namespace Go.Proofs.Ytbkafllejpbimaa
open Go.Sim Go.RowKit

theorem own : ownKnob Try.prog.godebug = none := by kernel_rfl
noncomputable def ctx : Ctx := Ctx.of Try.prog none none
theorem ctx_ok : CtxOK Try.prog ctx := ctxOK Try.prog none none (of_decide_eq_true (by kernel_rfl)) (of_decide_eq_true (by kernel_rfl)) (fun _ h => nomatch h) (fun _ _ h => nomatch h)

end Go.Proofs.Ytbkafllejpbimaa
