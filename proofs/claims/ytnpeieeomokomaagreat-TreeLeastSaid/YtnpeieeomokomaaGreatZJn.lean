/- Jn. No condition. -/
import Derived.Test.YtnpeieeomokomaaGreatZCtx
import Derived.ProofKit
namespace Go.Proofs.YtnpeieeomokomaaGreat
open Go.Sim Go.ChangeShapes Go.WideShapes Go.ChangeAt Go.RowKit
set_option maxRecDepth 100000
theorem Jz:joinedFacts Tryz.prog 6 Tryz.f6 Rows.treeLeastSpec Rows.treeLeastRow=true:=by kernel_rfl
theorem Kp:Tryz.prog.funcNamed Rows.treeLeastRow.func=some 6:=by kernel_rfl
theorem zAj:Tryz.f6.isInstance Tryz.prog Rows.treeLeastRow.origin Rows.treeLeastRow.targs:=of_decide_eq_true (by kernel_rfl)
theorem zAk:Tryz.f6.isWrapper Tryz.prog Rows.treeLeastRow.wrapper Rows.treeLeastRow.mainSum:=by unfold Func.isWrapper;first|(rw[if_pos (by decide +kernel)];kernel_rfl)|(rw[if_neg (by decide +kernel)];exact⟨rfl,rfl⟩)
end Go.Proofs.YtnpeieeomokomaaGreat
