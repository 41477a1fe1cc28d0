/- The closed facts of BookAligned' statement, each in a declaration of its own (the kernel frees what it holds at a declaration's end). -/
import Derived.Test.YtgelfflighgajaaGreatDoorRows
import Derived.JoinedOf
import Derived.SevenTiedAt
set_option maxRecDepth 100000
set_option linter.unusedVariables false
set_option linter.unusedSimpArgs false
namespace Go.Proofs.YtgelfflighgajaaGreatDoor.bookAligned
open Go
theorem q1:(Rows.bookAlignedRow.inPlace == Tryz.pinned.checked.prog.inPlace 6)=true:=by kernel_rfl
theorem q2:(Rows.bookAlignedRow.unfollowed == Tryz.pinned.checked.prog.unfollowed 6)=true:=by kernel_rfl
theorem q3:(Rows.bookAlignedRow.recurses == Tryz.pinned.checked.prog.recurses 6)=true:=by kernel_rfl
theorem q4:(Rows.bookAlignedRow.named == Tryz.pinned.checked.prog.varsNamed 6)=true:=by kernel_rfl
theorem wf_:Rows.bookAlignedRow.wfByText (OpenSpec.ofChange Rows.bookAlignedSpec)=true:=by kernel_rfl
theorem goes_:false=Rows.bookAlignedRow.goesBy Tryz.pinned.checked.prog:=by kernel_rfl
theorem closed:joinedFacts Tryz.pinned.checked.prog 6 Tryz.f6 Rows.bookAlignedSpec Rows.bookAlignedRow=true:=by
 unfold joinedFacts
 rw [q1,q2,q3,q4]
 kernel_rfl
end Go.Proofs.YtgelfflighgajaaGreatDoor.bookAligned
