/- The closed facts of BookApplies' statement, each in a declaration of its own (the kernel frees what it holds at a declaration's end). -/
import Derived.Test.YtgelfflighgajaaGreatDoorRows
import Derived.JoinedOf
import Derived.SevenTiedAt
set_option linter.unusedVariables false
set_option linter.unusedSimpArgs false
namespace Go.Proofs.YtgelfflighgajaaGreatDoor.bookApplies
open Go
set_option maxRecDepth 100000
theorem q1:(Rows.bookAppliesRow.inPlace == Tryz.pinned.checked.prog.inPlace 3)=true:=by kernel_rfl
theorem q2:(Rows.bookAppliesRow.unfollowed == Tryz.pinned.checked.prog.unfollowed 3)=true:=by kernel_rfl
theorem q3:(Rows.bookAppliesRow.recurses == Tryz.pinned.checked.prog.recurses 3)=true:=by kernel_rfl
theorem q4:(Rows.bookAppliesRow.named == Tryz.pinned.checked.prog.varsNamed 3)=true:=by kernel_rfl
theorem wf_:Rows.bookAppliesRow.wfByText (OpenSpec.ofChange Rows.bookAppliesSpec)=true:=by kernel_rfl
theorem goes_:false=Rows.bookAppliesRow.goesBy Tryz.pinned.checked.prog:=by kernel_rfl
theorem closed:joinedFacts Tryz.pinned.checked.prog 3 Tryz.f3 Rows.bookAppliesSpec Rows.bookAppliesRow=true:=by
 unfold joinedFacts
 rw [q1,q2,q3,q4]
 kernel_rfl
end Go.Proofs.YtgelfflighgajaaGreatDoor.bookApplies
