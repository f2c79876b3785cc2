/- The run of the law LitsHeads: it answers true. No condition. -/
import Derived.Test.YtamddelaigcnkaaGreatACkZ
import Derived.KernelRfl
namespace Go.Proofs.YtamddelaigcnkaaGreat
open Go.Sim

theorem orc_ok : OrcOk Tryz.prog ctx (Chunk.orcT [52] (Chunk.tblK [(32, [ck117])])) := Chunk.orcT_ok (Chunk.consK (Chunk.cons hk117 Chunk.nil) Chunk.nilK)
theorem litsHeads_run : saysTrue (X.run ctx (Chunk.orcT [52] (Chunk.tblK [(32, [ck117])])) 1000000 5 [] H0) = true := by kernel_rfl

end Go.Proofs.YtamddelaigcnkaaGreat
