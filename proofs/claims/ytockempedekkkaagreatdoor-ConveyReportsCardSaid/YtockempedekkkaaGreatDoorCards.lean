/-
  DERIVED. GIVEN WITH THE SEED: THE CARDS: each row of YtockempedekkkaaGreatDoorRows.lean that lists a variable, with what it lists TIED to the program's text (the seventh form; the later family's looks); each row that meets fmt, with fmt's text TOLD by the authors' own Lean function (tested against real Go, not proved from fmt's source: count such statements apart). THE CARD IS WHAT COUNTS. Prove the row's statement (the work); the ties are given (YtockempedekkkaaGreatDoorTie.lean); close each card by the builder's one call (the guide's Derived/Test/ToyasCard.lean, 'card_holds'). Laid BY PROGRAM, IN A SANDBOX (cutbox-door.mjs). By AI agents, Wed Nov 11 2026. No macro, syntax, notation, axiom, sorry.
-/
import Derived.Test.YtockempedekkkaaGreatDoorRows
import GoSem.ClaimSeven
namespace Go.Proofs.YtockempedekkkaaGreatDoor
namespace Rows

/-- THE TIED CARD OF 'theorbolaw04.ConveyReports'. -/
def conveyReportsCard : Claim7 := { stood := { row := conveyReportsRow, standIns := [], harness := (true, "fa620a9e2b27eb13684fc79fdacbb7feb201c4cde4f9d6d7bbcf1f5c7355e242"), looks := true }, kinds := [], alts := [], laidByText := true, laidKinds := [.data, .data, .data, .data, .sentinel, .sentinel, .listed, .data, .pinned], laidTests := true, laidLooks := .later }
def ConveyReportsCardSaid : Prop := Claim7.holds Tryz.pinned (.plain (OpenSpec.ofChange conveyReportsSpec)) conveyReportsCard

/-- THE TIED CARD OF 'theorbolaw04.ConveyReadsReports'. -/
def conveyReadsReportsCard : Claim7 := { stood := { row := conveyReadsReportsRow, standIns := [], harness := (true, "fa620a9e2b27eb13684fc79fdacbb7feb201c4cde4f9d6d7bbcf1f5c7355e242"), looks := true }, kinds := [], alts := [], laidByText := true, laidKinds := [.data, .data, .data, .data, .sentinel, .sentinel, .listed, .data, .pinned], laidTests := true, laidLooks := .later }
def ConveyReadsReportsCardSaid : Prop := Claim7.holds Tryz.pinned (.plain (OpenSpec.ofChange conveyReadsReportsSpec)) conveyReadsReportsCard

/-- THE SECOND FORM's CARD OF 'theorbolaw04.ConveyReports'. -/
def conveyReportsUptoCard : Claim7 := { stood := { row := conveyReportsUptoRow, standIns := [], harness := (true, "fa620a9e2b27eb13684fc79fdacbb7feb201c4cde4f9d6d7bbcf1f5c7355e242"), looks := true }, kinds := [], alts := [], laidByText := true, laidKinds := [.data, .data, .data, .data, .sentinel, .sentinel, .listed, .data, .pinned], laidTests := true, laidLooks := .later }
def ConveyReportsUptoCardSaid : Prop := Claim7.holds Tryz.pinned (.plain (OpenSpec.upto conveyReportsSpec)) conveyReportsUptoCard

/-- THE SECOND FORM's CARD OF 'theorbolaw04.ConveyReadsReports'. -/
def conveyReadsReportsUptoCard : Claim7 := { stood := { row := conveyReadsReportsUptoRow, standIns := [], harness := (true, "fa620a9e2b27eb13684fc79fdacbb7feb201c4cde4f9d6d7bbcf1f5c7355e242"), looks := true }, kinds := [], alts := [], laidByText := true, laidKinds := [.data, .data, .data, .data, .sentinel, .sentinel, .listed, .data, .pinned], laidTests := true, laidLooks := .later }
def ConveyReadsReportsUptoCardSaid : Prop := Claim7.holds Tryz.pinned (.plain (OpenSpec.upto conveyReadsReportsSpec)) conveyReadsReportsUptoCard
end Rows
end Go.Proofs.YtockempedekkkaaGreatDoor
