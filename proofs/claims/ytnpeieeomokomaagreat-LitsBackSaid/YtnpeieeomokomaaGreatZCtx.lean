/- Ctx. No condition. -/
import Derived.Test.YtnpeieeomokomaaGreatProg
import Derived.Test.YtnpeieeomokomaaGreatZS
import Derived.KernelRfl
namespace Go.Proofs.YtnpeieeomokomaaGreat
section
open Go.Sim Go.RowKit
theorem own:ownKnob Tryz.prog.godebug=none:=de
noncomputable def zB:Ctx:=Ctx.of Tryz.prog (some 261) (some (262,5))
theorem xf:CtxOK Tryz.prog zB:=zDB Tryz.prog (some 261) (some (262,5)) (of_decide_eq_true de) (of_decide_eq_true de) (λk h=>by cases h;exact⟨Tryz.f261,Tryz.func261,de,de,de,de⟩) (λk el h=>by cases h;exact⟨Tryz.f262,Tryz.f262.params,Tryz.f262.resultTypes,71,Tryz.func262,de,de,de,de,de,de⟩)
end
end Go.Proofs.YtnpeieeomokomaaGreat
