/-
  DERIVED. GIVEN WITH THE SEED: THE CARDS: each row of YtkgnmddakiagbaaGreatDoorRows.lean that lists a variable, with what it lists TIED to the program's text (the seventh form; the later family's looks); each row that meets fmt, with fmt's text TOLD by the authors' own Lean function (tested against real Go, not proved from fmt's source: count such statements apart). THE CARD IS WHAT COUNTS. Prove the row's statement (the work); the ties are given (YtkgnmddakiagbaaGreatDoorTie.lean); close each card by the builder's one call (the guide's Derived/Test/ToyasCard.lean, 'card_holds'). Laid BY PROGRAM, IN A SANDBOX (cutbox-door.mjs). By AI agents, Wed Nov 11 2026. No macro, syntax, notation, axiom, sorry.
-/
import Derived.Test.YtkgnmddakiagbaaGreatDoorRows
import GoSem.ClaimSeven
namespace Go.Proofs.YtkgnmddakiagbaaGreatDoor
namespace Rows

/-- THE TIED CARD OF 'theorbolaw03.NotationWrites'. -/
def notationWritesCard : Claim7 := { stood := { row := notationWritesRow, standIns := [], harness := (true, "3f115a9ec6e6628784913d322b80fa73b40f92206fbe3ee9b958489e42ba18c8"), looks := true }, kinds := [], alts := [], laidByText := true, laidKinds := [.data, .data, .data, .data, .data], laidTests := true, laidLooks := .later }
def NotationWritesCardSaid : Prop := Claim7.holds Tryz.pinned (.plain (OpenSpec.ofChange notationWritesSpec)) notationWritesCard

/-- THE TIED CARD OF 'theorbolaw11.BookIncipits'. -/
def bookIncipitsCard : Claim7 := { stood := { row := bookIncipitsRow, standIns := [], harness := (true, "3f115a9ec6e6628784913d322b80fa73b40f92206fbe3ee9b958489e42ba18c8"), looks := true }, kinds := [], alts := [], laidByText := true, laidKinds := [.data, .data, .data, .data, .data], laidTests := true, laidLooks := .later }
def BookIncipitsCardSaid : Prop := Claim7.holds Tryz.pinned (.plain (OpenSpec.ofChange bookIncipitsSpec)) bookIncipitsCard

/-- THE TIED CARD OF 'theorbolaw11.BookEngraves'. -/
def bookEngravesCard : Claim7 := { stood := { row := bookEngravesRow, standIns := [], harness := (true, "3f115a9ec6e6628784913d322b80fa73b40f92206fbe3ee9b958489e42ba18c8"), looks := true }, kinds := [], alts := [], laidByText := true, laidKinds := [.data, .data, .data, .data, .data], laidTests := true, laidLooks := .later }
def BookEngravesCardSaid : Prop := Claim7.holds Tryz.pinned (.plain (OpenSpec.ofChange bookEngravesSpec)) bookEngravesCard

/-- THE TIED CARD OF 'theorbolaw11.BookEditions'. -/
def bookEditionsCard : Claim7 := { stood := { row := bookEditionsRow, standIns := [], harness := (true, "3f115a9ec6e6628784913d322b80fa73b40f92206fbe3ee9b958489e42ba18c8"), looks := true }, kinds := [], alts := [], laidByText := true, laidKinds := [.data, .data, .data, .data, .data], laidTests := true, laidLooks := .later }
def BookEditionsCardSaid : Prop := Claim7.holds Tryz.pinned (.plain (OpenSpec.ofChange bookEditionsSpec)) bookEditionsCard

/-- THE TIED CARD OF 'theorbolaw11.BookChecks'. -/
def bookChecksCard : Claim7 := { stood := { row := bookChecksRow, standIns := [], harness := (true, "3f115a9ec6e6628784913d322b80fa73b40f92206fbe3ee9b958489e42ba18c8"), looks := true }, kinds := [], alts := [], laidByText := true, laidKinds := [.data, .data, .data, .data, .data], laidTests := true, laidLooks := .later }
def BookChecksCardSaid : Prop := Claim7.holds Tryz.pinned (.plain (OpenSpec.ofChange bookChecksSpec)) bookChecksCard

/-- THE TIED CARD OF 'theorbolaw11.BookSings'. -/
def bookSingsCard : Claim7 := { stood := { row := bookSingsRow, standIns := [], harness := (true, "3f115a9ec6e6628784913d322b80fa73b40f92206fbe3ee9b958489e42ba18c8"), looks := true }, kinds := [], alts := [], laidByText := true, laidKinds := [.data, .data, .data, .data, .data], laidTests := true, laidLooks := .later }
def BookSingsCardSaid : Prop := Claim7.holds Tryz.pinned (.plain (OpenSpec.ofChange bookSingsSpec)) bookSingsCard

/-- THE TIED CARD OF 'theorbolaw11.BookSungBack'. -/
def bookSungBackCard : Claim7 := { stood := { row := bookSungBackRow, standIns := [], harness := (true, "3f115a9ec6e6628784913d322b80fa73b40f92206fbe3ee9b958489e42ba18c8"), looks := true }, kinds := [], alts := [], laidByText := true, laidKinds := [.data, .data, .data, .data, .data], laidTests := true, laidLooks := .later }
def BookSungBackCardSaid : Prop := Claim7.holds Tryz.pinned (.plain (OpenSpec.ofChange bookSungBackSpec)) bookSungBackCard

/-- THE TIED CARD OF 'theorbolaw03.NotationReads'. -/
def notationReadsCard : Claim7 := { stood := { row := notationReadsRow, standIns := [], harness := (true, "3f115a9ec6e6628784913d322b80fa73b40f92206fbe3ee9b958489e42ba18c8"), looks := true }, kinds := [], alts := [], laidByText := true, laidKinds := [.data, .data, .data, .data, .data, .pinned], laidTests := true, laidLooks := .later }
def NotationReadsCardSaid : Prop := Claim7.holds Tryz.pinned (.plain (OpenSpec.ofChange notationReadsSpec)) notationReadsCard

/-- THE SECOND FORM's CARD OF 'theorbolaw03.NotationWrites'. -/
def notationWritesUptoCard : Claim7 := { stood := { row := notationWritesUptoRow, standIns := [], harness := (true, "3f115a9ec6e6628784913d322b80fa73b40f92206fbe3ee9b958489e42ba18c8"), looks := true }, kinds := [], alts := [], laidByText := true, laidKinds := [.data, .data, .data, .data, .data], laidTests := true, laidLooks := .later }
def NotationWritesUptoCardSaid : Prop := Claim7.holds Tryz.pinned (.plain (OpenSpec.upto notationWritesSpec)) notationWritesUptoCard

/-- THE SECOND FORM's CARD OF 'theorbolaw11.BookIncipits'. -/
def bookIncipitsUptoCard : Claim7 := { stood := { row := bookIncipitsUptoRow, standIns := [], harness := (true, "3f115a9ec6e6628784913d322b80fa73b40f92206fbe3ee9b958489e42ba18c8"), looks := true }, kinds := [], alts := [], laidByText := true, laidKinds := [.data, .data, .data, .data, .data], laidTests := true, laidLooks := .later }
def BookIncipitsUptoCardSaid : Prop := Claim7.holds Tryz.pinned (.plain (OpenSpec.upto bookIncipitsSpec)) bookIncipitsUptoCard

/-- THE SECOND FORM's CARD OF 'theorbolaw11.BookEngraves'. -/
def bookEngravesUptoCard : Claim7 := { stood := { row := bookEngravesUptoRow, standIns := [], harness := (true, "3f115a9ec6e6628784913d322b80fa73b40f92206fbe3ee9b958489e42ba18c8"), looks := true }, kinds := [], alts := [], laidByText := true, laidKinds := [.data, .data, .data, .data, .data], laidTests := true, laidLooks := .later }
def BookEngravesUptoCardSaid : Prop := Claim7.holds Tryz.pinned (.plain (OpenSpec.upto bookEngravesSpec)) bookEngravesUptoCard

/-- THE SECOND FORM's CARD OF 'theorbolaw11.BookEditions'. -/
def bookEditionsUptoCard : Claim7 := { stood := { row := bookEditionsUptoRow, standIns := [], harness := (true, "3f115a9ec6e6628784913d322b80fa73b40f92206fbe3ee9b958489e42ba18c8"), looks := true }, kinds := [], alts := [], laidByText := true, laidKinds := [.data, .data, .data, .data, .data], laidTests := true, laidLooks := .later }
def BookEditionsUptoCardSaid : Prop := Claim7.holds Tryz.pinned (.plain (OpenSpec.upto bookEditionsSpec)) bookEditionsUptoCard

/-- THE SECOND FORM's CARD OF 'theorbolaw11.BookChecks'. -/
def bookChecksUptoCard : Claim7 := { stood := { row := bookChecksUptoRow, standIns := [], harness := (true, "3f115a9ec6e6628784913d322b80fa73b40f92206fbe3ee9b958489e42ba18c8"), looks := true }, kinds := [], alts := [], laidByText := true, laidKinds := [.data, .data, .data, .data, .data], laidTests := true, laidLooks := .later }
def BookChecksUptoCardSaid : Prop := Claim7.holds Tryz.pinned (.plain (OpenSpec.upto bookChecksSpec)) bookChecksUptoCard

/-- THE SECOND FORM's CARD OF 'theorbolaw11.BookSings'. -/
def bookSingsUptoCard : Claim7 := { stood := { row := bookSingsUptoRow, standIns := [], harness := (true, "3f115a9ec6e6628784913d322b80fa73b40f92206fbe3ee9b958489e42ba18c8"), looks := true }, kinds := [], alts := [], laidByText := true, laidKinds := [.data, .data, .data, .data, .data], laidTests := true, laidLooks := .later }
def BookSingsUptoCardSaid : Prop := Claim7.holds Tryz.pinned (.plain (OpenSpec.upto bookSingsSpec)) bookSingsUptoCard

/-- THE SECOND FORM's CARD OF 'theorbolaw11.BookSungBack'. -/
def bookSungBackUptoCard : Claim7 := { stood := { row := bookSungBackUptoRow, standIns := [], harness := (true, "3f115a9ec6e6628784913d322b80fa73b40f92206fbe3ee9b958489e42ba18c8"), looks := true }, kinds := [], alts := [], laidByText := true, laidKinds := [.data, .data, .data, .data, .data], laidTests := true, laidLooks := .later }
def BookSungBackUptoCardSaid : Prop := Claim7.holds Tryz.pinned (.plain (OpenSpec.upto bookSungBackSpec)) bookSungBackUptoCard

/-- THE SECOND FORM's CARD OF 'theorbolaw03.NotationReads'. -/
def notationReadsUptoCard : Claim7 := { stood := { row := notationReadsUptoRow, standIns := [], harness := (true, "3f115a9ec6e6628784913d322b80fa73b40f92206fbe3ee9b958489e42ba18c8"), looks := true }, kinds := [], alts := [], laidByText := true, laidKinds := [.data, .data, .data, .data, .data, .pinned], laidTests := true, laidLooks := .later }
def NotationReadsUptoCardSaid : Prop := Claim7.holds Tryz.pinned (.plain (OpenSpec.upto notationReadsSpec)) notationReadsUptoCard
end Rows
end Go.Proofs.YtkgnmddakiagbaaGreatDoor
