/- The closed facts of BookSaves' statement, each in a declaration of its own (the kernel frees what it holds at a declaration's end). -/
import Derived.Test.YtgelfflighgajaaGreatDoorRows
import Derived.JoinedOf
import Derived.SevenTiedAt
set_option linter.unusedVariables false
set_option linter.unusedSimpArgs false
namespace Go.Proofs.YtgelfflighgajaaGreatDoor.bookSaves
open Go
set_option maxRecDepth 100000
theorem q1:(Rows.bookSavesRow.inPlace == Tryz.pinned.checked.prog.inPlace 4)=true:=by kernel_rfl
theorem q2:(Rows.bookSavesRow.unfollowed == Tryz.pinned.checked.prog.unfollowed 4)=true:=by kernel_rfl
theorem q3:(Rows.bookSavesRow.recurses == Tryz.pinned.checked.prog.recurses 4)=true:=by kernel_rfl
theorem q4:(Rows.bookSavesRow.named == Tryz.pinned.checked.prog.varsNamed 4)=true:=by kernel_rfl
theorem wf_:Rows.bookSavesRow.wfByText (OpenSpec.ofChange Rows.bookSavesSpec)=true:=by kernel_rfl
theorem goes_:false=Rows.bookSavesRow.goesBy Tryz.pinned.checked.prog:=by kernel_rfl
theorem closed:joinedFacts Tryz.pinned.checked.prog 4 Tryz.f4 Rows.bookSavesSpec Rows.bookSavesRow=true:=by
 unfold joinedFacts
 rw [q1,q2,q3,q4]
 kernel_rfl
end Go.Proofs.YtgelfflighgajaaGreatDoor.bookSaves
