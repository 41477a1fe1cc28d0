/- ParseTime: plain words. -/
import Derived.Test.YtkgnmddakiagbaaGreatDoorTmP
namespace Go.Proofs.YtkgnmddakiagbaaGreatDoor

end Go.Proofs.YtkgnmddakiagbaaGreatDoor
