/- Closed facts of the program that each card asks, each in a declaration of its own. -/
import Derived.Test.YtgelfflighgajaaGreatDoorCards
import Derived.SevenTiedAt
set_option maxRecDepth 100000
set_option linter.unusedVariables false
set_option linter.unusedSimpArgs false
namespace Go.Proofs.YtgelfflighgajaaGreatDoor
open Go
theorem looksNot:false=Tryz.pinned.checked.prog.looks []:=by kernel_rfl
theorem mainIs_:Tryz.pinned.checked.prog.mainIs=some (Rows.bookSavesCard.stood.harness.1,Rows.bookSavesCard.stood.harness.2.toList):=by kernel_rfl
end Go.Proofs.YtgelfflighgajaaGreatDoor
