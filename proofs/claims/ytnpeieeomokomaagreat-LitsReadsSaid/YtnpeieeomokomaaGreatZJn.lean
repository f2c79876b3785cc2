/- Jn. No condition. -/
import Derived.Test.YtnpeieeomokomaaGreatZCtx
import Derived.ProofKit
namespace Go.Proofs.YtnpeieeomokomaaGreat
open Go.Sim Go.ChangeShapes Go.WideShapes Go.ChangeAt Go.RowKit
set_option maxRecDepth 100000
theorem zZ7:(Rows.litsReadsRow.inPlace == Program.inPlace Tryz.prog 7)=true:=da
theorem zZ8:(Rows.litsReadsRow.unfollowed == Program.unfollowed Tryz.prog 7)=true:=da
theorem zZ9:(Rows.litsReadsRow.recurses == Program.recurses Tryz.prog 7)=true:=da
theorem zZa:(Rows.litsReadsRow.named == Program.varsNamed Tryz.prog 7)=true:=da
theorem Jo:joinedFacts Tryz.prog 7 Tryz.f7 Rows.litsReadsSpec Rows.litsReadsRow=true:=by unfold joinedFacts;rw[zZ7,zZ8,zZ9,zZa];kernel_rfl
theorem Kt:Tryz.prog.funcNamed Rows.litsReadsRow.func=some 7:=da
theorem zAD:Tryz.f7.isInstance Tryz.prog Rows.litsReadsRow.origin Rows.litsReadsRow.targs:=of_decide_eq_true da
theorem zAE:Tryz.f7.isWrapper Tryz.prog Rows.litsReadsRow.wrapper Rows.litsReadsRow.mainSum:=by unfold Func.isWrapper;first|(rw[if_pos (by decide +kernel)];kernel_rfl)|(rw[if_neg (by decide +kernel)];exact⟨rfl,rfl⟩)
end Go.Proofs.YtnpeieeomokomaaGreat
