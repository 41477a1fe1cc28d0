/-
  DERIVED. GIVEN WITH THE SEED: THE CARDS: each row of YthohlofpphjofaaGreatDoorRows.lean that lists a variable, with what it lists TIED to the program's text (the seventh form; the later family's looks); each row that meets fmt, with fmt's text TOLD by the authors' own Lean function (tested against real Go, not proved from fmt's source: count such statements apart). THE CARD IS WHAT COUNTS. Prove the row's statement (the work); the ties are given (YthohlofpphjofaaGreatDoorTie.lean); close each card by the builder's one call (the guide's Derived/Test/ToyasCard.lean, 'card_holds'). Laid BY PROGRAM, IN A SANDBOX (cutbox-door.mjs). By AI agents, Wed Nov 11 2026. No macro, syntax, notation, axiom, sorry.
-/
import Derived.Test.YthohlofpphjofaaGreatDoorRows
import GoSem.ClaimSeven
namespace Go.Proofs.YthohlofpphjofaaGreatDoor
namespace Rows

/-- THE TIED CARD OF 'theorbolaw03.NotationReads'. -/
def notationReadsCard : Claim7 := { stood := { row := notationReadsRow, standIns := [], harness := (true, "e446f799969fcba36550ca059db0d0a438efed55d24f09401fef1f11c6fb8cb1"), looks := true }, kinds := [], alts := [], laidByText := true, laidKinds := [.data, .data, .data, .data, .data, .pinned], laidTests := true, laidLooks := .later }
def NotationReadsCardSaid : Prop := Claim7.holds Tryz.pinned (.plain (OpenSpec.ofChange notationReadsSpec)) notationReadsCard

/-- THE TIED CARD OF 'theorbolaw03.NotationWritten'. -/
def notationWrittenCard : Claim7 := { stood := { row := notationWrittenRow, standIns := [], harness := (true, "e446f799969fcba36550ca059db0d0a438efed55d24f09401fef1f11c6fb8cb1"), looks := true }, kinds := [], alts := [], laidByText := true, laidKinds := [.data, .data, .data, .data, .data, .data, .pinned], laidTests := true, laidLooks := .later }
def NotationWrittenCardSaid : Prop := Claim7.holds Tryz.pinned (.plain (OpenSpec.ofChange notationWrittenSpec)) notationWrittenCard

/-- THE TIED CARD OF 'theorbolaw03.NotationBack'. -/
def notationBackCard : Claim7 := { stood := { row := notationBackRow, standIns := [], harness := (true, "e446f799969fcba36550ca059db0d0a438efed55d24f09401fef1f11c6fb8cb1"), looks := true }, kinds := [], alts := [], laidByText := true, laidKinds := [.data, .data, .data, .data, .data, .data, .pinned], laidTests := true, laidLooks := .later }
def NotationBackCardSaid : Prop := Claim7.holds Tryz.pinned (.plain (OpenSpec.ofChange notationBackSpec)) notationBackCard

/-- THE TIED CARD OF 'theorbolaw11.BookLoads'. -/
def bookLoadsCard : Claim7 := { stood := { row := bookLoadsRow, standIns := [], harness := (true, "e446f799969fcba36550ca059db0d0a438efed55d24f09401fef1f11c6fb8cb1"), looks := true }, kinds := [], alts := [], laidByText := true, laidKinds := [.data, .data, .data, .data, .data, .data, .pinned], laidTests := true, laidLooks := .later }
def BookLoadsCardSaid : Prop := Claim7.holds Tryz.pinned (.plain (OpenSpec.ofChange bookLoadsSpec)) bookLoadsCard

/-- THE TIED CARD OF 'theorbolaw11.BookBack'. -/
def bookBackCard : Claim7 := { stood := { row := bookBackRow, standIns := [], harness := (true, "e446f799969fcba36550ca059db0d0a438efed55d24f09401fef1f11c6fb8cb1"), looks := true }, kinds := [], alts := [], laidByText := true, laidKinds := [.data, .data, .data, .data, .data, .data, .pinned], laidTests := true, laidLooks := .later }
def BookBackCardSaid : Prop := Claim7.holds Tryz.pinned (.plain (OpenSpec.ofChange bookBackSpec)) bookBackCard

/-- THE TIED CARD OF 'theorbolaw04.ConveyTranslates'. -/
def conveyTranslatesCard : Claim7 := { stood := { row := conveyTranslatesRow, standIns := [], harness := (true, "e446f799969fcba36550ca059db0d0a438efed55d24f09401fef1f11c6fb8cb1"), looks := true }, kinds := [], alts := [], laidByText := true, laidKinds := [.data, .data, .data, .data, .data, .data, .pinned], laidTests := true, laidLooks := .later }
def ConveyTranslatesCardSaid : Prop := Claim7.holds Tryz.pinned (.plain (OpenSpec.ofChange conveyTranslatesSpec)) conveyTranslatesCard

/-- THE TIED CARD OF 'theorbolaw04.ConveyBack'. -/
def conveyBackCard : Claim7 := { stood := { row := conveyBackRow, standIns := [], harness := (true, "e446f799969fcba36550ca059db0d0a438efed55d24f09401fef1f11c6fb8cb1"), looks := true }, kinds := [], alts := [], laidByText := true, laidKinds := [.data, .data, .data, .data, .data, .data, .pinned], laidTests := true, laidLooks := .later }
def ConveyBackCardSaid : Prop := Claim7.holds Tryz.pinned (.plain (OpenSpec.ofChange conveyBackSpec)) conveyBackCard

/-- THE SECOND FORM's CARD OF 'theorbolaw03.NotationReads'. -/
def notationReadsUptoCard : Claim7 := { stood := { row := notationReadsUptoRow, standIns := [], harness := (true, "e446f799969fcba36550ca059db0d0a438efed55d24f09401fef1f11c6fb8cb1"), looks := true }, kinds := [], alts := [], laidByText := true, laidKinds := [.data, .data, .data, .data, .data, .pinned], laidTests := true, laidLooks := .later }
def NotationReadsUptoCardSaid : Prop := Claim7.holds Tryz.pinned (.plain (OpenSpec.upto notationReadsSpec)) notationReadsUptoCard

/-- THE SECOND FORM's CARD OF 'theorbolaw03.NotationWritten'. -/
def notationWrittenUptoCard : Claim7 := { stood := { row := notationWrittenUptoRow, standIns := [], harness := (true, "e446f799969fcba36550ca059db0d0a438efed55d24f09401fef1f11c6fb8cb1"), looks := true }, kinds := [], alts := [], laidByText := true, laidKinds := [.data, .data, .data, .data, .data, .data, .pinned], laidTests := true, laidLooks := .later }
def NotationWrittenUptoCardSaid : Prop := Claim7.holds Tryz.pinned (.plain (OpenSpec.upto notationWrittenSpec)) notationWrittenUptoCard

/-- THE SECOND FORM's CARD OF 'theorbolaw03.NotationBack'. -/
def notationBackUptoCard : Claim7 := { stood := { row := notationBackUptoRow, standIns := [], harness := (true, "e446f799969fcba36550ca059db0d0a438efed55d24f09401fef1f11c6fb8cb1"), looks := true }, kinds := [], alts := [], laidByText := true, laidKinds := [.data, .data, .data, .data, .data, .data, .pinned], laidTests := true, laidLooks := .later }
def NotationBackUptoCardSaid : Prop := Claim7.holds Tryz.pinned (.plain (OpenSpec.upto notationBackSpec)) notationBackUptoCard

/-- THE SECOND FORM's CARD OF 'theorbolaw11.BookLoads'. -/
def bookLoadsUptoCard : Claim7 := { stood := { row := bookLoadsUptoRow, standIns := [], harness := (true, "e446f799969fcba36550ca059db0d0a438efed55d24f09401fef1f11c6fb8cb1"), looks := true }, kinds := [], alts := [], laidByText := true, laidKinds := [.data, .data, .data, .data, .data, .data, .pinned], laidTests := true, laidLooks := .later }
def BookLoadsUptoCardSaid : Prop := Claim7.holds Tryz.pinned (.plain (OpenSpec.upto bookLoadsSpec)) bookLoadsUptoCard

/-- THE SECOND FORM's CARD OF 'theorbolaw11.BookBack'. -/
def bookBackUptoCard : Claim7 := { stood := { row := bookBackUptoRow, standIns := [], harness := (true, "e446f799969fcba36550ca059db0d0a438efed55d24f09401fef1f11c6fb8cb1"), looks := true }, kinds := [], alts := [], laidByText := true, laidKinds := [.data, .data, .data, .data, .data, .data, .pinned], laidTests := true, laidLooks := .later }
def BookBackUptoCardSaid : Prop := Claim7.holds Tryz.pinned (.plain (OpenSpec.upto bookBackSpec)) bookBackUptoCard

/-- THE SECOND FORM's CARD OF 'theorbolaw04.ConveyTranslates'. -/
def conveyTranslatesUptoCard : Claim7 := { stood := { row := conveyTranslatesUptoRow, standIns := [], harness := (true, "e446f799969fcba36550ca059db0d0a438efed55d24f09401fef1f11c6fb8cb1"), looks := true }, kinds := [], alts := [], laidByText := true, laidKinds := [.data, .data, .data, .data, .data, .data, .pinned], laidTests := true, laidLooks := .later }
def ConveyTranslatesUptoCardSaid : Prop := Claim7.holds Tryz.pinned (.plain (OpenSpec.upto conveyTranslatesSpec)) conveyTranslatesUptoCard

/-- THE SECOND FORM's CARD OF 'theorbolaw04.ConveyBack'. -/
def conveyBackUptoCard : Claim7 := { stood := { row := conveyBackUptoRow, standIns := [], harness := (true, "e446f799969fcba36550ca059db0d0a438efed55d24f09401fef1f11c6fb8cb1"), looks := true }, kinds := [], alts := [], laidByText := true, laidKinds := [.data, .data, .data, .data, .data, .data, .pinned], laidTests := true, laidLooks := .later }
def ConveyBackUptoCardSaid : Prop := Claim7.holds Tryz.pinned (.plain (OpenSpec.upto conveyBackSpec)) conveyBackUptoCard
end Rows
end Go.Proofs.YthohlofpphjofaaGreatDoor
