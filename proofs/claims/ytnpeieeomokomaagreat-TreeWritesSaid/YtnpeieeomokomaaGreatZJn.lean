/- Jn. No condition. -/
import Derived.Test.YtnpeieeomokomaaGreatZCtx
import Derived.ProofKit
set_option maxRecDepth 100000
namespace Go.Proofs.YtnpeieeomokomaaGreat
open Go.Sim Go.ChangeShapes Go.WideShapes Go.ChangeAt Go.RowKit
theorem XX:joinedFacts Tryz.prog 4 Tryz.f4 Rows.treeWritesSpec Rows.treeWritesRow=true:=by kernel_rfl
theorem JU:Tryz.prog.funcNamed Rows.treeWritesRow.func=some 4:=by kernel_rfl
theorem KA:Tryz.f4.isInstance Tryz.prog Rows.treeWritesRow.origin Rows.treeWritesRow.targs:=of_decide_eq_true (by kernel_rfl)
theorem KB:Tryz.f4.isWrapper Tryz.prog Rows.treeWritesRow.wrapper Rows.treeWritesRow.mainSum:=by unfold Func.isWrapper;first|(rw[if_pos (by decide +kernel)];kernel_rfl)|(rw[if_neg (by decide +kernel)];exact⟨rfl,rfl⟩)
end Go.Proofs.YtnpeieeomokomaaGreat
