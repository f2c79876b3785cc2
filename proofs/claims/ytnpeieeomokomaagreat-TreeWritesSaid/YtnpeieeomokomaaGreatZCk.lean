/- Ck. No condition. -/
import Derived.Test.YtnpeieeomokomaaGreatZCtx
import Derived.KernelRfl
namespace Go.Proofs.YtnpeieeomokomaaGreat
open Go.Sim

def ck0 : Chunk := ⟨13, [(sb [128, 16]), (ip 0)], [], 0, (.tuple [(.slice 0 0 2 (.exact 2)), (ip 2), (.agg [(ip 0), (ip 0)])]), [], [⟨(il [1, 1, 0, 0, 0, 0, 0, 0, 0, 0, 0, 0, 0, 0, 0, 0, 0, 0, 0, 0, 0, 0, 0, 0, 0, 0, 0, 0, 0, 0, 0, 0, 0, 0, 0, 0, 0, 0, 0, 0, 0, 0, 0, 0, 0, 0, 0, 0, 0, 0, 0, 0, 0, 0, 0, 0, 0, 0, 0, 0, 0, 0, 0, 0, 0, 0, 0, 0, 0, 0, 0, 0, 0, 0, 0, 0, 0, 0, 0, 0, 0, 0, 0, 0, 0, 0, 0, 0, 0, 0, 0, 0, 0, 0, 0, 0, 0, 0, 0, 0, 0, 0, 0, 0, 0, 0, 0, 0, 0, 0, 0, 0, 0, 0, 0, 0, 0, 0, 0, 0, 0, 0, 0, 0, 0, 0, 0, 0, 0, 0, 0, 0, 0, 0, 0, 0, 0, 0, 0, 0, 0, 0, 0, 0, 0, 0, 0, 0, 0, 0, 0, 0, 0, 0, 0, 0, 0, 0, 0, 0, 0, 0, 0, 0, 0, 0, 0, 0, 0, 0, 0, 0, 0, 0, 0, 0, 0, 0, 0, 0, 0, 0, 0, 0, 0, 0, 0, 0, 0, 0, 0, 0, 0, 0, 0, 0, 0, 0, 0, 0, 0, 0, 0, 0, 0, 0, 0, 0, 0, 0, 0, 0, 0, 0, 0, 0, 0, 0, 0, 0, 0, 0, 0, 0, 0, 0, 0, 0, 0, 0, 0, 0, 0, 0, 0, 0, 0, 0, 0, 0, 0, 0, 0, 0, 0, 0, 0, 0, 0, 0, 0, 0, 0, 0, 0, 0]), ⟨0, 207, 0⟩, false⟩], [11]⟩
theorem hk0 : Chunk.Holds Tryz.prog zA ck0 := Chunk.holds zG (fs := []) (r := []) Chunk.nilK (n := 1000000) (by kernel_rfl)
def ck1 : Chunk := ⟨16, [(.slice 2 0 2 (.exact 2))], [(2, some ⟨(il [1, 1]), ⟨0, 4, 0⟩, false⟩)], 3, (.tuple [(sb [128, 16]), (ip 0)]), [], [], []⟩
theorem hk1 : Chunk.Holds Tryz.prog zA ck1 := Chunk.holds zG (fs := []) (r := []) Chunk.nilK (n := 1000000) (by kernel_rfl)
def ck2 : Chunk := ⟨16, [(.slice 3 0 3 (.exact 3))], [(3, some ⟨(il [2, 2, 1]), ⟨0, 4, 0⟩, false⟩)], 4, (.tuple [(sb [129, 17]), (ip 0)]), [], [], []⟩
theorem hk2 : Chunk.Holds Tryz.prog zA ck2 := Chunk.holds zG (fs := []) (r := []) Chunk.nilK (n := 1000000) (by kernel_rfl)


theorem zG1 : yg Tryz.prog zA (Chunk.orcT [13, 16] (Chunk.tblK [(31, [ck0]), (130, [ck1]), (195, [ck2])])) := Chunk.orcT_ok (Chunk.consK (Chunk.cons hk0 Chunk.nil) (Chunk.consK (Chunk.cons hk1 Chunk.nil) (Chunk.consK (Chunk.cons hk2 Chunk.nil) Chunk.nilK)))
theorem zIi : O9 (X.run zA (Chunk.orcT [13, 16] (Chunk.tblK [(31, [ck0]), (130, [ck1]), (195, [ck2])])) 1000000 9 [] H0) = true := by kernel_rfl

end Go.Proofs.YtnpeieeomokomaaGreat
