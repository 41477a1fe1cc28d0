/-
  DERIVED. GIVEN WITH THE SEED: THE CARDS: each row of YtgelfflighgajaaGreatDoorRows.lean that lists a variable, with what it lists TIED to the program's text (the seventh form; the later family's looks); each row that meets fmt, with fmt's text TOLD by the authors' own Lean function (tested against real Go, not proved from fmt's source: count such statements apart). THE CARD IS WHAT COUNTS. Prove the row's statement (the work); the ties are given (YtgelfflighgajaaGreatDoorTie.lean); close each card by the builder's one call (the guide's Derived/Test/ToyasCard.lean, 'card_holds'). Laid BY PROGRAM, IN A SANDBOX (cutbox-door.mjs). By AI agents, Wed Nov 11 2026. No macro, syntax, notation, axiom, sorry.
-/
import Derived.Test.YtgelfflighgajaaGreatDoorRows
import GoSem.ClaimSeven
namespace Go.Proofs.YtgelfflighgajaaGreatDoor
namespace Rows

/-- THE TIED CARD OF 'theorbolaw11.BookApplies'. -/
def bookAppliesCard : Claim7 := { stood := { row := bookAppliesRow, standIns := [], harness := (true, "d0ba5c07bbdfc504a766df363e347e5afe082bc84e086661d83504e9aa423846"), looks := false }, kinds := [], alts := [], laidByText := true, laidKinds := [.data, .data, .data, .data, .data], laidTests := true, laidLooks := .later }
def BookAppliesCardSaid : Prop := Claim7.holds Tryz.pinned (.plain (OpenSpec.ofChange bookAppliesSpec)) bookAppliesCard

/-- THE TIED CARD OF 'theorbolaw11.BookSaves'. -/
def bookSavesCard : Claim7 := { stood := { row := bookSavesRow, standIns := [], harness := (true, "d0ba5c07bbdfc504a766df363e347e5afe082bc84e086661d83504e9aa423846"), looks := false }, kinds := [], alts := [], laidByText := true, laidKinds := [.data, .data, .data, .data, .data], laidTests := true, laidLooks := .later }
def BookSavesCardSaid : Prop := Claim7.holds Tryz.pinned (.plain (OpenSpec.ofChange bookSavesSpec)) bookSavesCard

/-- THE TIED CARD OF 'theorbolaw11.BookCollates'. -/
def bookCollatesCard : Claim7 := { stood := { row := bookCollatesRow, standIns := [], harness := (true, "d0ba5c07bbdfc504a766df363e347e5afe082bc84e086661d83504e9aa423846"), looks := false }, kinds := [], alts := [], laidByText := true, laidKinds := [.data, .data, .data, .data, .data], laidTests := true, laidLooks := .later }
def BookCollatesCardSaid : Prop := Claim7.holds Tryz.pinned (.plain (OpenSpec.ofChange bookCollatesSpec)) bookCollatesCard

/-- THE TIED CARD OF 'theorbolaw11.BookAligned'. -/
def bookAlignedCard : Claim7 := { stood := { row := bookAlignedRow, standIns := [], harness := (true, "d0ba5c07bbdfc504a766df363e347e5afe082bc84e086661d83504e9aa423846"), looks := false }, kinds := [], alts := [], laidByText := true, laidKinds := [.data, .data, .data, .data, .data], laidTests := true, laidLooks := .later }
def BookAlignedCardSaid : Prop := Claim7.holds Tryz.pinned (.plain (OpenSpec.ofChange bookAlignedSpec)) bookAlignedCard

/-- THE TIED CARD OF 'theorbolaw11.BookDraws'. -/
def bookDrawsCard : Claim7 := { stood := { row := bookDrawsRow, standIns := [], harness := (true, "d0ba5c07bbdfc504a766df363e347e5afe082bc84e086661d83504e9aa423846"), looks := false }, kinds := [], alts := [], laidByText := true, laidKinds := [.data, .data, .data, .data, .data], laidTests := true, laidLooks := .later }
def BookDrawsCardSaid : Prop := Claim7.holds Tryz.pinned (.plain (OpenSpec.ofChange bookDrawsSpec)) bookDrawsCard

/-- THE TIED CARD OF 'theorbolaw11.BookVariants'. -/
def bookVariantsCard : Claim7 := { stood := { row := bookVariantsRow, standIns := [], harness := (true, "d0ba5c07bbdfc504a766df363e347e5afe082bc84e086661d83504e9aa423846"), looks := false }, kinds := [], alts := [], laidByText := true, laidKinds := [.data, .data, .data, .data, .data], laidTests := true, laidLooks := .later }
def BookVariantsCardSaid : Prop := Claim7.holds Tryz.pinned (.plain (OpenSpec.ofChange bookVariantsSpec)) bookVariantsCard

/-- THE TIED CARD OF 'theorbolaw11.BookAgrees'. -/
def bookAgreesCard : Claim7 := { stood := { row := bookAgreesRow, standIns := [], harness := (true, "d0ba5c07bbdfc504a766df363e347e5afe082bc84e086661d83504e9aa423846"), looks := false }, kinds := [], alts := [], laidByText := true, laidKinds := [.data, .data, .data, .data, .data], laidTests := true, laidLooks := .later }
def BookAgreesCardSaid : Prop := Claim7.holds Tryz.pinned (.plain (OpenSpec.ofChange bookAgreesSpec)) bookAgreesCard

/-- THE TIED CARD OF 'theorbolaw11.BookUnanimous'. -/
def bookUnanimousCard : Claim7 := { stood := { row := bookUnanimousRow, standIns := [], harness := (true, "d0ba5c07bbdfc504a766df363e347e5afe082bc84e086661d83504e9aa423846"), looks := false }, kinds := [], alts := [], laidByText := true, laidKinds := [.data, .data, .data, .data, .data], laidTests := true, laidLooks := .later }
def BookUnanimousCardSaid : Prop := Claim7.holds Tryz.pinned (.plain (OpenSpec.ofChange bookUnanimousSpec)) bookUnanimousCard

/-- THE TIED CARD OF 'theorbolaw11.BookRestores'. -/
def bookRestoresCard : Claim7 := { stood := { row := bookRestoresRow, standIns := [], harness := (true, "d0ba5c07bbdfc504a766df363e347e5afe082bc84e086661d83504e9aa423846"), looks := false }, kinds := [], alts := [], laidByText := true, laidKinds := [.data, .data, .data, .data, .data], laidTests := true, laidLooks := .later }
def BookRestoresCardSaid : Prop := Claim7.holds Tryz.pinned (.plain (OpenSpec.ofChange bookRestoresSpec)) bookRestoresCard

/-- THE TIED CARD OF 'theorbolaw11.BookIndexes'. -/
def bookIndexesCard : Claim7 := { stood := { row := bookIndexesRow, standIns := [], harness := (true, "d0ba5c07bbdfc504a766df363e347e5afe082bc84e086661d83504e9aa423846"), looks := false }, kinds := [], alts := [], laidByText := true, laidKinds := [.data, .data, .data, .data, .data], laidTests := true, laidLooks := .later }
def BookIndexesCardSaid : Prop := Claim7.holds Tryz.pinned (.plain (OpenSpec.ofChange bookIndexesSpec)) bookIndexesCard

/-- THE TIED CARD OF 'theorbolaw11.BookTransposed'. -/
def bookTransposedCard : Claim7 := { stood := { row := bookTransposedRow, standIns := [], harness := (true, "d0ba5c07bbdfc504a766df363e347e5afe082bc84e086661d83504e9aa423846"), looks := false }, kinds := [], alts := [], laidByText := true, laidKinds := [.data, .data, .data, .data, .data], laidTests := true, laidLooks := .later }
def BookTransposedCardSaid : Prop := Claim7.holds Tryz.pinned (.plain (OpenSpec.ofChange bookTransposedSpec)) bookTransposedCard

/-- THE SECOND FORM's CARD OF 'theorbolaw11.BookApplies'. -/
def bookAppliesUptoCard : Claim7 := { stood := { row := bookAppliesUptoRow, standIns := [], harness := (true, "d0ba5c07bbdfc504a766df363e347e5afe082bc84e086661d83504e9aa423846"), looks := false }, kinds := [], alts := [], laidByText := true, laidKinds := [.data, .data, .data, .data, .data], laidTests := true, laidLooks := .later }
def BookAppliesUptoCardSaid : Prop := Claim7.holds Tryz.pinned (.plain (OpenSpec.upto bookAppliesSpec)) bookAppliesUptoCard

/-- THE SECOND FORM's CARD OF 'theorbolaw11.BookSaves'. -/
def bookSavesUptoCard : Claim7 := { stood := { row := bookSavesUptoRow, standIns := [], harness := (true, "d0ba5c07bbdfc504a766df363e347e5afe082bc84e086661d83504e9aa423846"), looks := false }, kinds := [], alts := [], laidByText := true, laidKinds := [.data, .data, .data, .data, .data], laidTests := true, laidLooks := .later }
def BookSavesUptoCardSaid : Prop := Claim7.holds Tryz.pinned (.plain (OpenSpec.upto bookSavesSpec)) bookSavesUptoCard

/-- THE SECOND FORM's CARD OF 'theorbolaw11.BookCollates'. -/
def bookCollatesUptoCard : Claim7 := { stood := { row := bookCollatesUptoRow, standIns := [], harness := (true, "d0ba5c07bbdfc504a766df363e347e5afe082bc84e086661d83504e9aa423846"), looks := false }, kinds := [], alts := [], laidByText := true, laidKinds := [.data, .data, .data, .data, .data], laidTests := true, laidLooks := .later }
def BookCollatesUptoCardSaid : Prop := Claim7.holds Tryz.pinned (.plain (OpenSpec.upto bookCollatesSpec)) bookCollatesUptoCard

/-- THE SECOND FORM's CARD OF 'theorbolaw11.BookAligned'. -/
def bookAlignedUptoCard : Claim7 := { stood := { row := bookAlignedUptoRow, standIns := [], harness := (true, "d0ba5c07bbdfc504a766df363e347e5afe082bc84e086661d83504e9aa423846"), looks := false }, kinds := [], alts := [], laidByText := true, laidKinds := [.data, .data, .data, .data, .data], laidTests := true, laidLooks := .later }
def BookAlignedUptoCardSaid : Prop := Claim7.holds Tryz.pinned (.plain (OpenSpec.upto bookAlignedSpec)) bookAlignedUptoCard

/-- THE SECOND FORM's CARD OF 'theorbolaw11.BookDraws'. -/
def bookDrawsUptoCard : Claim7 := { stood := { row := bookDrawsUptoRow, standIns := [], harness := (true, "d0ba5c07bbdfc504a766df363e347e5afe082bc84e086661d83504e9aa423846"), looks := false }, kinds := [], alts := [], laidByText := true, laidKinds := [.data, .data, .data, .data, .data], laidTests := true, laidLooks := .later }
def BookDrawsUptoCardSaid : Prop := Claim7.holds Tryz.pinned (.plain (OpenSpec.upto bookDrawsSpec)) bookDrawsUptoCard

/-- THE SECOND FORM's CARD OF 'theorbolaw11.BookVariants'. -/
def bookVariantsUptoCard : Claim7 := { stood := { row := bookVariantsUptoRow, standIns := [], harness := (true, "d0ba5c07bbdfc504a766df363e347e5afe082bc84e086661d83504e9aa423846"), looks := false }, kinds := [], alts := [], laidByText := true, laidKinds := [.data, .data, .data, .data, .data], laidTests := true, laidLooks := .later }
def BookVariantsUptoCardSaid : Prop := Claim7.holds Tryz.pinned (.plain (OpenSpec.upto bookVariantsSpec)) bookVariantsUptoCard

/-- THE SECOND FORM's CARD OF 'theorbolaw11.BookAgrees'. -/
def bookAgreesUptoCard : Claim7 := { stood := { row := bookAgreesUptoRow, standIns := [], harness := (true, "d0ba5c07bbdfc504a766df363e347e5afe082bc84e086661d83504e9aa423846"), looks := false }, kinds := [], alts := [], laidByText := true, laidKinds := [.data, .data, .data, .data, .data], laidTests := true, laidLooks := .later }
def BookAgreesUptoCardSaid : Prop := Claim7.holds Tryz.pinned (.plain (OpenSpec.upto bookAgreesSpec)) bookAgreesUptoCard

/-- THE SECOND FORM's CARD OF 'theorbolaw11.BookUnanimous'. -/
def bookUnanimousUptoCard : Claim7 := { stood := { row := bookUnanimousUptoRow, standIns := [], harness := (true, "d0ba5c07bbdfc504a766df363e347e5afe082bc84e086661d83504e9aa423846"), looks := false }, kinds := [], alts := [], laidByText := true, laidKinds := [.data, .data, .data, .data, .data], laidTests := true, laidLooks := .later }
def BookUnanimousUptoCardSaid : Prop := Claim7.holds Tryz.pinned (.plain (OpenSpec.upto bookUnanimousSpec)) bookUnanimousUptoCard

/-- THE SECOND FORM's CARD OF 'theorbolaw11.BookRestores'. -/
def bookRestoresUptoCard : Claim7 := { stood := { row := bookRestoresUptoRow, standIns := [], harness := (true, "d0ba5c07bbdfc504a766df363e347e5afe082bc84e086661d83504e9aa423846"), looks := false }, kinds := [], alts := [], laidByText := true, laidKinds := [.data, .data, .data, .data, .data], laidTests := true, laidLooks := .later }
def BookRestoresUptoCardSaid : Prop := Claim7.holds Tryz.pinned (.plain (OpenSpec.upto bookRestoresSpec)) bookRestoresUptoCard

/-- THE SECOND FORM's CARD OF 'theorbolaw11.BookIndexes'. -/
def bookIndexesUptoCard : Claim7 := { stood := { row := bookIndexesUptoRow, standIns := [], harness := (true, "d0ba5c07bbdfc504a766df363e347e5afe082bc84e086661d83504e9aa423846"), looks := false }, kinds := [], alts := [], laidByText := true, laidKinds := [.data, .data, .data, .data, .data], laidTests := true, laidLooks := .later }
def BookIndexesUptoCardSaid : Prop := Claim7.holds Tryz.pinned (.plain (OpenSpec.upto bookIndexesSpec)) bookIndexesUptoCard

/-- THE SECOND FORM's CARD OF 'theorbolaw11.BookTransposed'. -/
def bookTransposedUptoCard : Claim7 := { stood := { row := bookTransposedUptoRow, standIns := [], harness := (true, "d0ba5c07bbdfc504a766df363e347e5afe082bc84e086661d83504e9aa423846"), looks := false }, kinds := [], alts := [], laidByText := true, laidKinds := [.data, .data, .data, .data, .data], laidTests := true, laidLooks := .later }
def BookTransposedUptoCardSaid : Prop := Claim7.holds Tryz.pinned (.plain (OpenSpec.upto bookTransposedSpec)) bookTransposedUptoCard
end Rows
end Go.Proofs.YtgelfflighgajaaGreatDoor
