/- The closed facts of ConveyReadsReports' statement, each in a declaration of its own (the kernel frees what it holds at a declaration's end). -/
import Derived.Test.YtockempedekkkaaGreatDoorRows
import Derived.SevenTiedAt
set_option maxRecDepth 100000
set_option linter.unusedVariables false
set_option linter.unusedSimpArgs false
namespace Go.Proofs.YtockempedekkkaaGreatDoor.conveyReadsReports
open Go
theorem q1:(Rows.conveyReadsReportsRow.inPlace == Tryz.pinned.checked.prog.inPlace 4)=true:=by kernel_rfl
theorem q2:(Rows.conveyReadsReportsRow.unfollowed == Tryz.pinned.checked.prog.unfollowed 4)=true:=by kernel_rfl
theorem q3:(Rows.conveyReadsReportsRow.recurses == Tryz.pinned.checked.prog.recurses 4)=true:=by kernel_rfl
theorem q4:(Rows.conveyReadsReportsRow.named == Tryz.pinned.checked.prog.varsNamed 4)=true:=by kernel_rfl
theorem wf_:Rows.conveyReadsReportsRow.wfByText (OpenSpec.ofChange Rows.conveyReadsReportsSpec)=true:=by kernel_rfl
theorem goes_:false=Rows.conveyReadsReportsRow.goesBy Tryz.pinned.checked.prog:=by kernel_rfl
theorem closed:joinedFacts Tryz.pinned.checked.prog 4 Tryz.f4 Rows.conveyReadsReportsSpec Rows.conveyReadsReportsRow=true:=by
 unfold joinedFacts
 rw [q1,q2,q3,q4]
 kernel_rfl
end Go.Proofs.YtockempedekkkaaGreatDoor.conveyReadsReports
