/- Equal things are found equal, over trees: the reference. -/
import Derived.Test.YtkgnmddakiagbaaGreatDoorEQ
import Derived.Test.YtkgnmddakiagbaaGreatDoorEZ
import Derived.Test.YtkgnmddakiagbaaGreatDoorLkP
import Derived.Laws.StructEq
namespace Go.Proofs.YtkgnmddakiagbaaGreatDoor
open Go.RowKit
set_option linter.unusedVariables false
set_option linter.unusedSimpArgs false
set_option maxRecDepth 100000
set_option maxHeartbeats 4000000
def eLk (x : Lck) : List AV := [.sc (.int .i64 x.1), .sc (.int .i64 x.2.1), .sc (.int .i64 x.2.2)]
end Go.Proofs.YtkgnmddakiagbaaGreatDoor
