/- The closed facts of NotationWritten' statement, each in a declaration of its own (the kernel frees what it holds at a declaration's end). -/
import Derived.Test.YthehkchjdkdbiaaGreatDoorRows
import Derived.SevenTiedAt
set_option maxRecDepth 100000
set_option linter.unusedVariables false
set_option linter.unusedSimpArgs false
namespace Go.Proofs.YthehkchjdkdbiaaGreatDoor.notationWritten
open Go
theorem q1:(Rows.notationWrittenRow.inPlace == Tryz.pinned.checked.prog.inPlace 4)=true:=by kernel_rfl
theorem q2:(Rows.notationWrittenRow.unfollowed == Tryz.pinned.checked.prog.unfollowed 4)=true:=by kernel_rfl
theorem q3:(Rows.notationWrittenRow.recurses == Tryz.pinned.checked.prog.recurses 4)=true:=by kernel_rfl
theorem q4:(Rows.notationWrittenRow.named == Tryz.pinned.checked.prog.varsNamed 4)=true:=by kernel_rfl
theorem wf_:Rows.notationWrittenRow.wfByText (OpenSpec.ofChange Rows.notationWrittenSpec)=true:=by kernel_rfl
theorem goes_:false=Rows.notationWrittenRow.goesBy Tryz.pinned.checked.prog:=by kernel_rfl
theorem closed:joinedFacts Tryz.pinned.checked.prog 4 Tryz.f4 Rows.notationWrittenSpec Rows.notationWrittenRow=true:=by
 unfold joinedFacts
 rw [q1,q2,q3,q4]
 kernel_rfl
end Go.Proofs.YthehkchjdkdbiaaGreatDoor.notationWritten
