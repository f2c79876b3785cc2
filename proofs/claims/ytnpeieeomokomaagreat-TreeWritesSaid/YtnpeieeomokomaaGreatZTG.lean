/- TG. No condition. -/
import Derived.Test.YtnpeieeomokomaaGreatZTF
import Derived.Test.YtnpeieeomokomaaGreatZZ
import Derived.Test.YtnpeieeomokomaaGreatZTD
namespace Go.Proofs.YtnpeieeomokomaaGreat
open Go.Sim
abbrev YO (x:Int):O:=.cells (.ls [.int .i64 x]) ⟨0,3+1,0⟩ true false
section
variable {P:Program}{c:Ctx}
end
end Go.Proofs.YtnpeieeomokomaaGreat
namespace Go.Proofs.YtnpeieeomokomaaGreat
open Go.Sim
end Go.Proofs.YtnpeieeomokomaaGreat
