/- The run of the law TreeKnown: it answers true. No condition. -/
import Derived.Test.YtjaofjfhgindjaaGreatCkZ
import Derived.KernelRfl
namespace Go.Proofs.YtjaofjfhgindjaaGreat
open Go.Sim

theorem orc_ok : OrcOk Tryz.prog ctx (Chunk.orcT [4, 7, 8, 13, 19] (Chunk.tblK [(31, [ck0, ck246]), (258, [ck9]), (962, [ck10]), (1154, [ck20]), (1217, [ck21]), (1226, [ck236]), (1344, [ck19, ck245]), (3138, [ck247]), (3203, [ck248])])) := Chunk.orcT_ok (Chunk.consK (Chunk.cons hk0 (Chunk.cons hk246 Chunk.nil)) (Chunk.consK (Chunk.cons hk9 Chunk.nil) (Chunk.consK (Chunk.cons hk10 Chunk.nil) (Chunk.consK (Chunk.cons hk20 Chunk.nil) (Chunk.consK (Chunk.cons hk21 Chunk.nil) (Chunk.consK (Chunk.cons hk236 Chunk.nil) (Chunk.consK (Chunk.cons hk19 (Chunk.cons hk245 Chunk.nil)) (Chunk.consK (Chunk.cons hk247 Chunk.nil) (Chunk.consK (Chunk.cons hk248 Chunk.nil) Chunk.nilK)))))))))
theorem treeKnown_run : saysTrue (X.run ctx (Chunk.orcT [4, 7, 8, 13, 19] (Chunk.tblK [(31, [ck0, ck246]), (258, [ck9]), (962, [ck10]), (1154, [ck20]), (1217, [ck21]), (1226, [ck236]), (1344, [ck19, ck245]), (3138, [ck247]), (3203, [ck248])])) 1000000 3 [] H0) = true := by kernel_rfl

end Go.Proofs.YtjaofjfhgindjaaGreat
