/- The closed facts of BookUnanimous' statement, each in a declaration of its own (the kernel frees what it holds at a declaration's end). -/
import Derived.Test.YtgelfflighgajaaGreatDoorRows
import Derived.SevenTiedAt
set_option maxRecDepth 100000
set_option linter.unusedVariables false
set_option linter.unusedSimpArgs false
namespace Go.Proofs.YtgelfflighgajaaGreatDoor.bookUnanimous
open Go
theorem q1:(Rows.bookUnanimousRow.inPlace == Tryz.pinned.checked.prog.inPlace 10)=true:=by kernel_rfl
theorem q2:(Rows.bookUnanimousRow.unfollowed == Tryz.pinned.checked.prog.unfollowed 10)=true:=by kernel_rfl
theorem q3:(Rows.bookUnanimousRow.recurses == Tryz.pinned.checked.prog.recurses 10)=true:=by kernel_rfl
theorem q4:(Rows.bookUnanimousRow.named == Tryz.pinned.checked.prog.varsNamed 10)=true:=by kernel_rfl
theorem wf_:Rows.bookUnanimousRow.wfByText (OpenSpec.ofChange Rows.bookUnanimousSpec)=true:=by kernel_rfl
theorem goes_:false=Rows.bookUnanimousRow.goesBy Tryz.pinned.checked.prog:=by kernel_rfl
theorem closed:joinedFacts Tryz.pinned.checked.prog 10 Tryz.f10 Rows.bookUnanimousSpec Rows.bookUnanimousRow=true:=by
 unfold joinedFacts
 rw [q1,q2,q3,q4]
 kernel_rfl
end Go.Proofs.YtgelfflighgajaaGreatDoor.bookUnanimous
