/- What a system lacks of a piece: the reference, over trees. -/
import Derived.Laws.StructEq
import Derived.Test.YtgelfflighgajaaGreatDoorLngVq
import Derived.Test.YtgelfflighgajaaGreatDoorREeVq
set_option maxHeartbeats 8000000
set_option maxRecDepth 100000
set_option linter.unusedVariables false
set_option linter.unusedSimpArgs false
namespace Go.Proofs.YtgelfflighgajaaGreatDoor
open Go.RowKit
def eLk (x:Lck):List AV:=[.sc (.int .i64 x.1),.sc (.int .i64 x.2.1),.sc (.int .i64 x.2.2)]
end Go.Proofs.YtgelfflighgajaaGreatDoor
namespace Go.Proofs.YtgelfflighgajaaGreatDoor
open Go.RowKit
def hd2(s i:Int)(e:Ev):List Lck:=if s=4∧e.val=0 then [(i,0,6)]else []
end Go.Proofs.YtgelfflighgajaaGreatDoor
