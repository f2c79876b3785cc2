/- The run of the law LitsKnown: it answers true. No condition. -/
import Derived.Test.YticncafijledaaaGreatCkZ
import Derived.KernelRfl
namespace Go.Proofs.YticncafijledaaaGreat
open Go.Sim

theorem orc_ok : OrcOk Tryz.prog ctx (Chunk.orcT [8, 99, 120] (Chunk.tblK [(0, [ck121]), (6592, [ck0, ck2])])) := Chunk.orcT_ok (Chunk.consK (Chunk.cons hk121 Chunk.nil) (Chunk.consK (Chunk.cons hk0 (Chunk.cons hk2 Chunk.nil)) Chunk.nilK))
theorem litsKnown_run : saysTrue (X.run ctx (Chunk.orcT [8, 99, 120] (Chunk.tblK [(0, [ck121]), (6592, [ck0, ck2])])) 1000000 3 [] H0) = true := by kernel_rfl

end Go.Proofs.YticncafijledaaaGreat
