/- The closed facts of BookRestores' statement. -/
import Derived.Test.YtgelfflighgajaaGreatDoorRows
import Derived.SevenTiedAt
set_option maxRecDepth 100000
set_option linter.unusedVariables false
set_option linter.unusedSimpArgs false
namespace Go.Proofs.YtgelfflighgajaaGreatDoor.bookRestores
open Go
theorem q1:(Rows.bookRestoresRow.inPlace == Tryz.pinned.checked.prog.inPlace 11)=true:=by kernel_rfl
theorem q2:(Rows.bookRestoresRow.unfollowed == Tryz.pinned.checked.prog.unfollowed 11)=true:=by kernel_rfl
theorem q3:(Rows.bookRestoresRow.recurses == Tryz.pinned.checked.prog.recurses 11)=true:=by kernel_rfl
theorem q4:(Rows.bookRestoresRow.named == Tryz.pinned.checked.prog.varsNamed 11)=true:=by kernel_rfl
theorem wf_:Rows.bookRestoresRow.wfByText (OpenSpec.ofChange Rows.bookRestoresSpec)=true:=by kernel_rfl
theorem goes_:false=Rows.bookRestoresRow.goesBy Tryz.pinned.checked.prog:=by kernel_rfl
theorem closed:joinedFacts Tryz.pinned.checked.prog 11 Tryz.f11 Rows.bookRestoresSpec Rows.bookRestoresRow=true:=by
 unfold joinedFacts
 rw [q1,q2,q3,q4]
 kernel_rfl
end Go.Proofs.YtgelfflighgajaaGreatDoor.bookRestores
