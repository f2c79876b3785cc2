/- Ctx. No condition. -/
import Derived.Test.YtnpeieeomokomaaGreatRows
import Derived.Test.YtnpeieeomokomaaGreatZS
import Derived.KernelRfl
namespace Go.Proofs.YtnpeieeomokomaaGreat
open Go.Sim Go.RowKit

theorem own : ownKnob Tryz.prog.godebug = none := by kernel_rfl
noncomputable def zB : Ctx := Ctx.of Tryz.prog (some 261) (some (262, 5))
theorem yA : CtxOK Tryz.prog zB := zYl Tryz.prog (some 261) (some (262, 5)) (of_decide_eq_true da) (of_decide_eq_true da) (λk h => by cases h;exact⟨Tryz.f261, Tryz.func261, by kernel_rfl, by kernel_rfl, by kernel_rfl, by kernel_rfl⟩) (λk el h => by cases h;exact⟨Tryz.f262, Tryz.f262.params, Tryz.f262.resultTypes, 71, Tryz.func262, by kernel_rfl, by kernel_rfl, by kernel_rfl, by kernel_rfl, by kernel_rfl, by kernel_rfl⟩)

end Go.Proofs.YtnpeieeomokomaaGreat
