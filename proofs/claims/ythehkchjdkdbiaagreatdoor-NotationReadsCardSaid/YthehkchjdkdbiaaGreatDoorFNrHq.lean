/- The closed facts of NotationReads' statement, each in a declaration of its own (the kernel frees what it holds at a declaration's end). -/
import Derived.Test.YthehkchjdkdbiaaGreatDoorRows
import Derived.SevenTiedAt
set_option maxRecDepth 100000
set_option linter.unusedVariables false
set_option linter.unusedSimpArgs false
namespace Go.Proofs.YthehkchjdkdbiaaGreatDoor.notationReads
open Go
theorem q1:(Rows.notationReadsRow.inPlace == Tryz.pinned.checked.prog.inPlace 3)=true:=by kernel_rfl
theorem q2:(Rows.notationReadsRow.unfollowed == Tryz.pinned.checked.prog.unfollowed 3)=true:=by kernel_rfl
theorem q3:(Rows.notationReadsRow.recurses == Tryz.pinned.checked.prog.recurses 3)=true:=by kernel_rfl
theorem q4:(Rows.notationReadsRow.named == Tryz.pinned.checked.prog.varsNamed 3)=true:=by kernel_rfl
theorem wf_:Rows.notationReadsRow.wfByText (OpenSpec.ofChange Rows.notationReadsSpec)=true:=by kernel_rfl
theorem goes_:false=Rows.notationReadsRow.goesBy Tryz.pinned.checked.prog:=by kernel_rfl
theorem closed:joinedFacts Tryz.pinned.checked.prog 3 Tryz.f3 Rows.notationReadsSpec Rows.notationReadsRow=true:=by
 unfold joinedFacts
 rw [q1,q2,q3,q4]
 kernel_rfl
end Go.Proofs.YthehkchjdkdbiaaGreatDoor.notationReads
