/- The closed facts of ConveyBack' statement, each in a declaration of its own (the kernel frees what it holds at a declaration's end). -/
import Derived.Test.YthehkchjdkdbiaaGreatDoorRows
import Derived.SevenTiedAt
set_option maxRecDepth 100000
set_option linter.unusedVariables false
set_option linter.unusedSimpArgs false
namespace Go.Proofs.YthehkchjdkdbiaaGreatDoor.conveyBack
open Go
theorem q1:(Rows.conveyBackRow.inPlace == Tryz.pinned.checked.prog.inPlace 7)=true:=by kernel_rfl
theorem q2:(Rows.conveyBackRow.unfollowed == Tryz.pinned.checked.prog.unfollowed 7)=true:=by kernel_rfl
theorem q3:(Rows.conveyBackRow.recurses == Tryz.pinned.checked.prog.recurses 7)=true:=by kernel_rfl
theorem q4:(Rows.conveyBackRow.named == Tryz.pinned.checked.prog.varsNamed 7)=true:=by kernel_rfl
theorem wf_:Rows.conveyBackRow.wfByText (OpenSpec.ofChange Rows.conveyBackSpec)=true:=by kernel_rfl
theorem au7:false=Rows.conveyBackRow.goesBy Tryz.pinned.checked.prog:=by kernel_rfl
theorem closed:joinedFacts Tryz.pinned.checked.prog 7 Tryz.f7 Rows.conveyBackSpec Rows.conveyBackRow=true:=by
 unfold joinedFacts
 rw [q1,q2,q3,q4]
 kernel_rfl
end Go.Proofs.YthehkchjdkdbiaaGreatDoor.conveyBack
