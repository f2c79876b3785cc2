/- Jn. No condition. -/
import Derived.Test.YtnpeieeomokomaaGreatRows
import Derived.Test.YtnpeieeomokomaaGreatZCtx
import Derived.ProofKit
set_option maxRecDepth 100000
namespace Go.Proofs.YtnpeieeomokomaaGreat
section
open Go.Sim Go.ChangeShapes Go.WideShapes Go.ChangeAt Go.RowKit
theorem zFu:(Rows.litsBackRow.inPlace == Program.inPlace Tryz.prog 8)=true:=de
theorem zFv:(Rows.litsBackRow.unfollowed == Program.unfollowed Tryz.prog 8)=true:=de
theorem zFw:(Rows.litsBackRow.recurses == Program.recurses Tryz.prog 8)=true:=de
theorem zFx:(Rows.litsBackRow.named == Program.varsNamed Tryz.prog 8)=true:=de
theorem nM:joinedFacts Tryz.prog 8 Tryz.f8 Rows.litsBackSpec Rows.litsBackRow=true:=by unfold joinedFacts;rw[zFu,zFv,zFw,zFx];kernel_rfl
theorem vB:Tryz.prog.funcNamed Rows.litsBackRow.func=some 8:=de
theorem uy:Tryz.f8.isInstance Tryz.prog Rows.litsBackRow.origin Rows.litsBackRow.targs:=of_decide_eq_true de
theorem uz:Tryz.f8.isWrapper Tryz.prog Rows.litsBackRow.wrapper Rows.litsBackRow.mainSum:=by unfold Func.isWrapper;first|(rw[if_pos (by decide +kernel)];kernel_rfl)|(rw[if_neg (by decide +kernel)];exact⟨rfl,rfl⟩)
end
end Go.Proofs.YtnpeieeomokomaaGreat
