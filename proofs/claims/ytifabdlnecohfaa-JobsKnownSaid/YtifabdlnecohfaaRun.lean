/- A run of the law JobsKnown by the evaluator: it answers true. No condition. -/
import Derived.Test.YtifabdlnecohfaaRows
import Derived.Test.YtifabdlnecohfaaSimEnd
import Derived.KernelRfl
namespace Go.Proofs.Ytifabdlnecohfaa
open Go.ChangeShapes Go.WideShapes Go.ChangeAt Go.RowKit

theorem Try.own : ownKnob Try.prog.godebug = none := by kernel_rfl
noncomputable def ctx : Go.Sim.Ctx := Go.Sim.Ctx.of Try.prog
theorem ctx_ok : Go.Sim.CtxOK Try.prog ctx := Go.Sim.ctxOK Try.prog (of_decide_eq_true (by kernel_rfl)) (of_decide_eq_true (by kernel_rfl))

theorem jobsKnown_run : Go.Sim.saysTrue (Go.Sim.run ctx Go.Sim.noOrc 500 6 [] Go.Sim.H0) = true := by kernel_rfl

end Go.Proofs.Ytifabdlnecohfaa
