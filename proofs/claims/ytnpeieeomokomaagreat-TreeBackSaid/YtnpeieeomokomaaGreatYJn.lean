/- Jn. No condition. -/
import Derived.Test.YtnpeieeomokomaaGreatYCtx
import Derived.ProofKit
namespace Go.Proofs.YtnpeieeomokomaaGreat
open Go.Sim Go.ChangeShapes Go.WideShapes Go.ChangeAt Go.RowKit
set_option maxRecDepth 100000
theorem Ks:joinedFacts Tryz.prog 5 Tryz.f5 Rows.treeBackSpec Rows.treeBackRow=true:=by kernel_rfl
theorem zAs:Tryz.prog.funcNamed Rows.treeBackRow.func=some 5:=by kernel_rfl
theorem zB8:Tryz.f5.isInstance Tryz.prog Rows.treeBackRow.origin Rows.treeBackRow.targs:=of_decide_eq_true (by kernel_rfl)
theorem zB9:Tryz.f5.isWrapper Tryz.prog Rows.treeBackRow.wrapper Rows.treeBackRow.mainSum:=by unfold Func.isWrapper;first|(rw[if_pos (by decide +kernel)];kernel_rfl)|(rw[if_neg (by decide +kernel)];exact⟨rfl,rfl⟩)
end Go.Proofs.YtnpeieeomokomaaGreat
