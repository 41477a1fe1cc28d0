/- The closed facts of NotationBack' statement, each in a declaration of its own (the kernel frees what it holds at a declaration's end). -/
import Derived.Test.YthehkchjdkdbiaaGreatDoorRows
import Derived.SevenTiedAt
set_option maxRecDepth 100000
set_option linter.unusedVariables false
set_option linter.unusedSimpArgs false
namespace Go.Proofs.YthehkchjdkdbiaaGreatDoor.notationBack
open Go
theorem q1:(Rows.notationBackRow.inPlace == Tryz.pinned.checked.prog.inPlace 5)=true:=by kernel_rfl
theorem q2:(Rows.notationBackRow.unfollowed == Tryz.pinned.checked.prog.unfollowed 5)=true:=by kernel_rfl
theorem q3:(Rows.notationBackRow.recurses == Tryz.pinned.checked.prog.recurses 5)=true:=by kernel_rfl
theorem q4:(Rows.notationBackRow.named == Tryz.pinned.checked.prog.varsNamed 5)=true:=by kernel_rfl
theorem wf_:Rows.notationBackRow.wfByText (OpenSpec.ofChange Rows.notationBackSpec)=true:=by kernel_rfl
theorem goes_:false=Rows.notationBackRow.goesBy Tryz.pinned.checked.prog:=by kernel_rfl
theorem closed:joinedFacts Tryz.pinned.checked.prog 5 Tryz.f5 Rows.notationBackSpec Rows.notationBackRow=true:=by
 unfold joinedFacts
 rw [q1,q2,q3,q4]
 kernel_rfl
end Go.Proofs.YthehkchjdkdbiaaGreatDoor.notationBack
