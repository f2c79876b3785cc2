/- The run of the law LitsShort: it answers true. No condition. -/
import Derived.Test.YtamddelaigcnkaaGreatKCkZ
import Derived.KernelRfl
namespace Go.Proofs.YtamddelaigcnkaaGreat
open Go.Sim

theorem orc_ok : OrcOk Tryz.prog ctx (Chunk.orcT [5, 133, 159] (Chunk.tblK [(0, [ck121]), (6592, [ck0, ck2])])) := Chunk.orcT_ok (Chunk.consK (Chunk.cons hk121 Chunk.nil) (Chunk.consK (Chunk.cons hk0 (Chunk.cons hk2 Chunk.nil)) Chunk.nilK))
theorem litsShort_run : saysTrue (X.run ctx (Chunk.orcT [5, 133, 159] (Chunk.tblK [(0, [ck121]), (6592, [ck0, ck2])])) 1000000 10 [] H0) = true := by kernel_rfl

end Go.Proofs.YtamddelaigcnkaaGreat
