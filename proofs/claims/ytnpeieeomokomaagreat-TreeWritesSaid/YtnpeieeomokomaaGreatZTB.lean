/- TB. No condition. -/
import Derived.Test.YtnpeieeomokomaaGreatZTA
import Derived.WalkKit
import Derived.LaidEql
import Derived.Stop.Asserts
import Derived.RowKitTokens
import Derived.Below
namespace Go.Proofs.YtnpeieeomokomaaGreat
open Go.Sim
open Go.RowKit Go.Extern.Stop Go.Stop Go.Extern
section
set_option maxRecDepth 100000
end
theorem _root_.Go.Sim.thenC.nx {K:St->Prop}{R:AX->St->Prop}{s:St}(h:K s):thenC K R .normal s:=h
end Go.Proofs.YtnpeieeomokomaaGreat
