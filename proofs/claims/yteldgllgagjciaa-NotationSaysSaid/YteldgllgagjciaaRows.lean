/-
  No cell of these rows narrows 'for every input' (looked for: loops, veiled, ifaces, maps, wideKeys, modest, calm, conditions, laid).
  DERIVED. THE GIVEN ROWS OF THIS SEAT. 9 by the template 'for every input the law returns true; each argument reads behind the call as it read before'; 0 by the template 'total and deterministic' (their statements: YteldgllgagjciaaTotals.lean).
  GIVEN WITH THE SEED: the statements are not yours to turn. If you find one false, say at which input.
  Laid BY PROGRAM, IN A SANDBOX (cutbox-rows.mjs): the forced cells as the released guide's own fill.sh prints them over the translation 01c02baefc9f29a1… (all of the seat's roots in one cut). By AI agents, Wed Nov 11 2026. No macro, syntax, notation, axiom, sorry.
-/
import Derived.Test.YteldgllgagjciaaChecked
import GoSem.Claim
import GoSem.ClaimJoined
import GoSem.ClaimMapViews
import Derived.JoinedTies
import Derived.KernelRfl
namespace Go.Proofs.Yteldgllgagjciaa
/- THE CELL 'sum', in the pinned program and in every row, IS THE sha256 OF THE DUMP (.gsa) THAT YteldgllgagjciaaProg.lean LOADS. Nothing in Lean hashes anything: it is a label: what it is worth is what the hold of that sum in a sandbox is worth. -/
noncomputable def Try.pinned : Pinned := { name := "yteldgllgagjciaa", sum := "01c02baefc9f29a1ab72e54b6da9de215dc2c9d4d3d476d3ed1cc26c3aa5cec6", checked := Try.checked }
namespace Rows
def none {H : Type} : Left H := { results := [], args := [] }

/-- 'theorbolaw03.NotationSymbols': WHATEVER THE INPUT: true; the input reads as it did. -/
def notationSymbolsSpec : ChangeSpec := { name := "notationSymbols", fn := fun _ => fun
  | [d1, d2] => { results := [.lit (.bool true)], args := [d1, d2] }
  | _ => none }
def notationSymbolsRow : OpenClaim := { program := "yteldgllgagjciaa", sum := "01c02baefc9f29a1ab72e54b6da9de215dc2c9d4d3d476d3ed1cc26c3aa5cec6", func := "theorbo/theorbolaw03.NotationSymbols", spec := "notationSymbols", unfollowed := true, recurses := true, apart := false }
def NotationSymbolsSaid : Prop := notationSymbolsRow.holds Try.pinned (OpenSpec.ofChange notationSymbolsSpec)

/-- ITS FALSE NEIGHBOUR: 'it returns false'. Refute it at one input. -/
def notationSymbolsWrong : ChangeSpec := { name := "notationSymbols", fn := fun _ => fun
  | [d1, d2] => { results := [.lit (.bool false)], args := [d1, d2] }
  | _ => none }
def NotationSymbolsWrongFalsely : Prop := notationSymbolsRow.holds Try.pinned (OpenSpec.ofChange notationSymbolsWrong)

/-- 'theorbolaw03.NotationPlaces': WHATEVER THE INPUT: true; the input reads as it did. -/
def notationPlacesSpec : ChangeSpec := { name := "notationPlaces", fn := fun _ => fun
  | [d1, d2, d3] => { results := [.lit (.bool true)], args := [d1, d2, d3] }
  | _ => none }
def notationPlacesRow : OpenClaim := { program := "yteldgllgagjciaa", sum := "01c02baefc9f29a1ab72e54b6da9de215dc2c9d4d3d476d3ed1cc26c3aa5cec6", func := "theorbo/theorbolaw03.NotationPlaces", spec := "notationPlaces", unfollowed := true, recurses := true, apart := false }
def NotationPlacesSaid : Prop := notationPlacesRow.holds Try.pinned (OpenSpec.ofChange notationPlacesSpec)

/-- ITS FALSE NEIGHBOUR: 'it returns false'. Refute it at one input. -/
def notationPlacesWrong : ChangeSpec := { name := "notationPlaces", fn := fun _ => fun
  | [d1, d2, d3] => { results := [.lit (.bool false)], args := [d1, d2, d3] }
  | _ => none }
def NotationPlacesWrongFalsely : Prop := notationPlacesRow.holds Try.pinned (OpenSpec.ofChange notationPlacesWrong)

/-- 'theorbolaw03.NotationApart': WHATEVER THE INPUT: true; the input reads as it did. -/
def notationApartSpec : ChangeSpec := { name := "notationApart", fn := fun _ => fun
  | [d1, d2, d3] => { results := [.lit (.bool true)], args := [d1, d2, d3] }
  | _ => none }
def notationApartRow : OpenClaim := { program := "yteldgllgagjciaa", sum := "01c02baefc9f29a1ab72e54b6da9de215dc2c9d4d3d476d3ed1cc26c3aa5cec6", func := "theorbo/theorbolaw03.NotationApart", spec := "notationApart", unfollowed := true, recurses := true, apart := false }
def NotationApartSaid : Prop := notationApartRow.holds Try.pinned (OpenSpec.ofChange notationApartSpec)

/-- ITS FALSE NEIGHBOUR: 'it returns false'. Refute it at one input. -/
def notationApartWrong : ChangeSpec := { name := "notationApart", fn := fun _ => fun
  | [d1, d2, d3] => { results := [.lit (.bool false)], args := [d1, d2, d3] }
  | _ => none }
def NotationApartWrongFalsely : Prop := notationApartRow.holds Try.pinned (OpenSpec.ofChange notationApartWrong)

/-- 'theorbolaw03.NotationNames': WHATEVER THE INPUT: true; the input reads as it did. -/
def notationNamesSpec : ChangeSpec := { name := "notationNames", fn := fun _ => fun
  | [d1, d2] => { results := [.lit (.bool true)], args := [d1, d2] }
  | _ => none }
def notationNamesRow : OpenClaim := { program := "yteldgllgagjciaa", sum := "01c02baefc9f29a1ab72e54b6da9de215dc2c9d4d3d476d3ed1cc26c3aa5cec6", func := "theorbo/theorbolaw03.NotationNames", spec := "notationNames", unfollowed := true, recurses := true, apart := false }
def NotationNamesSaid : Prop := notationNamesRow.holds Try.pinned (OpenSpec.ofChange notationNamesSpec)

/-- ITS FALSE NEIGHBOUR: 'it returns false'. Refute it at one input. -/
def notationNamesWrong : ChangeSpec := { name := "notationNames", fn := fun _ => fun
  | [d1, d2] => { results := [.lit (.bool false)], args := [d1, d2] }
  | _ => none }
def NotationNamesWrongFalsely : Prop := notationNamesRow.holds Try.pinned (OpenSpec.ofChange notationNamesWrong)

/-- 'theorbolaw03.NotationCells': WHATEVER THE INPUT: true; the input reads as it did. -/
def notationCellsSpec : ChangeSpec := { name := "notationCells", fn := fun _ => fun
  | [d1, d2, d3] => { results := [.lit (.bool true)], args := [d1, d2, d3] }
  | _ => none }
def notationCellsRow : OpenClaim := { program := "yteldgllgagjciaa", sum := "01c02baefc9f29a1ab72e54b6da9de215dc2c9d4d3d476d3ed1cc26c3aa5cec6", func := "theorbo/theorbolaw03.NotationCells", spec := "notationCells", unfollowed := true, recurses := true, apart := false }
def NotationCellsSaid : Prop := notationCellsRow.holds Try.pinned (OpenSpec.ofChange notationCellsSpec)

/-- ITS FALSE NEIGHBOUR: 'it returns false'. Refute it at one input. -/
def notationCellsWrong : ChangeSpec := { name := "notationCells", fn := fun _ => fun
  | [d1, d2, d3] => { results := [.lit (.bool false)], args := [d1, d2, d3] }
  | _ => none }
def NotationCellsWrongFalsely : Prop := notationCellsRow.holds Try.pinned (OpenSpec.ofChange notationCellsWrong)

/-- 'theorbolaw03.NotationReadsCells': WHATEVER THE INPUT: true; the input reads as it did. -/
def notationReadsCellsSpec : ChangeSpec := { name := "notationReadsCells", fn := fun _ => fun
  | [d] => { results := [.lit (.bool true)], args := [d] }
  | _ => none }
def notationReadsCellsRow : OpenClaim := { program := "yteldgllgagjciaa", sum := "01c02baefc9f29a1ab72e54b6da9de215dc2c9d4d3d476d3ed1cc26c3aa5cec6", func := "theorbo/theorbolaw03.NotationReadsCells", spec := "notationReadsCells", unfollowed := true, recurses := true, apart := false }
def NotationReadsCellsSaid : Prop := notationReadsCellsRow.holds Try.pinned (OpenSpec.ofChange notationReadsCellsSpec)

/-- ITS FALSE NEIGHBOUR: 'it returns false'. Refute it at one input. -/
def notationReadsCellsWrong : ChangeSpec := { name := "notationReadsCells", fn := fun _ => fun
  | [d] => { results := [.lit (.bool false)], args := [d] }
  | _ => none }
def NotationReadsCellsWrongFalsely : Prop := notationReadsCellsRow.holds Try.pinned (OpenSpec.ofChange notationReadsCellsWrong)

/-- 'theorbolaw03.NotationLines': WHATEVER THE INPUT: true; the input reads as it did. -/
def notationLinesSpec : ChangeSpec := { name := "notationLines", fn := fun _ => fun
  | [d1, d2, d3] => { results := [.lit (.bool true)], args := [d1, d2, d3] }
  | _ => none }
def notationLinesRow : OpenClaim := { program := "yteldgllgagjciaa", sum := "01c02baefc9f29a1ab72e54b6da9de215dc2c9d4d3d476d3ed1cc26c3aa5cec6", func := "theorbo/theorbolaw03.NotationLines", spec := "notationLines", unfollowed := true, recurses := true, apart := false }
def NotationLinesSaid : Prop := notationLinesRow.holds Try.pinned (OpenSpec.ofChange notationLinesSpec)

/-- ITS FALSE NEIGHBOUR: 'it returns false'. Refute it at one input. -/
def notationLinesWrong : ChangeSpec := { name := "notationLines", fn := fun _ => fun
  | [d1, d2, d3] => { results := [.lit (.bool false)], args := [d1, d2, d3] }
  | _ => none }
def NotationLinesWrongFalsely : Prop := notationLinesRow.holds Try.pinned (OpenSpec.ofChange notationLinesWrong)

/-- 'theorbolaw03.NotationTimes': WHATEVER THE INPUT: true; the input reads as it did. -/
def notationTimesSpec : ChangeSpec := { name := "notationTimes", fn := fun _ => fun
  | [d1, d2, d3] => { results := [.lit (.bool true)], args := [d1, d2, d3] }
  | _ => none }
def notationTimesRow : OpenClaim := { program := "yteldgllgagjciaa", sum := "01c02baefc9f29a1ab72e54b6da9de215dc2c9d4d3d476d3ed1cc26c3aa5cec6", func := "theorbo/theorbolaw03.NotationTimes", spec := "notationTimes", unfollowed := true, recurses := true, apart := false }
def NotationTimesSaid : Prop := notationTimesRow.holds Try.pinned (OpenSpec.ofChange notationTimesSpec)

/-- ITS FALSE NEIGHBOUR: 'it returns false'. Refute it at one input. -/
def notationTimesWrong : ChangeSpec := { name := "notationTimes", fn := fun _ => fun
  | [d1, d2, d3] => { results := [.lit (.bool false)], args := [d1, d2, d3] }
  | _ => none }
def NotationTimesWrongFalsely : Prop := notationTimesRow.holds Try.pinned (OpenSpec.ofChange notationTimesWrong)

/-- 'theorbolaw03.NotationSays': WHATEVER THE INPUT: true; the input reads as it did. -/
def notationSaysSpec : ChangeSpec := { name := "notationSays", fn := fun _ => fun
  | [d] => { results := [.lit (.bool true)], args := [d] }
  | _ => none }
def notationSaysRow : OpenClaim := { program := "yteldgllgagjciaa", sum := "01c02baefc9f29a1ab72e54b6da9de215dc2c9d4d3d476d3ed1cc26c3aa5cec6", func := "theorbo/theorbolaw03.NotationSays", spec := "notationSays", unfollowed := true, recurses := true, apart := false }
def NotationSaysSaid : Prop := notationSaysRow.holds Try.pinned (OpenSpec.ofChange notationSaysSpec)

/-- ITS FALSE NEIGHBOUR: 'it returns false'. Refute it at one input. -/
def notationSaysWrong : ChangeSpec := { name := "notationSays", fn := fun _ => fun
  | [d] => { results := [.lit (.bool false)], args := [d] }
  | _ => none }
def NotationSaysWrongFalsely : Prop := notationSaysRow.holds Try.pinned (OpenSpec.ofChange notationSaysWrong)

/- THE SECOND FORM. 'bulk': how many values and letters a reading holds, each counted each time it is reached (what is shared counts as often as it is met; a slice's spare places count too). A statement '..UptoSaid' is the law's where the arguments, and the package variables that the reading takes, are together of bulk at most 1048576: NARROWER than '..Said'. Prove '..Said' where nothing that the law and all that it calls make is longer than what came in: it says more and counts as full. Else prove '..UptoSaid'. A law counts once. -/
mutual
def uptoBulk {H : Type} : DataW H → Nat
  | .lit (.string bytes) => bytes.length + 1
  | .lit _ => 1
  | .nil => 1
  | .ptr d => uptoBulk d + 1
  | .slice elems spare => uptoBulkAll elems + uptoBulkAll spare + 1
  | .agg parts => uptoBulkAll parts + 1
  | .iface _ d => uptoBulk d + 1
  | .map entries => uptoBulkEntries entries + 1
  | .held _ => 1
def uptoBulkAll {H : Type} : List (DataW H) → Nat
  | [] => 0
  | d :: r => uptoBulk d + uptoBulkAll r
def uptoBulkEntries {H : Type} : List (Lit × DataW H) → Nat
  | [] => 0
  | x :: r => uptoBulkEntry x + uptoBulkEntries r
def uptoBulkEntry {H : Type} : Lit × DataW H → Nat
  | (.string bytes, d) => bytes.length + uptoBulk d + 1
  | (_, d) => uptoBulk d + 1
 end
def uptoSmall : (H : Type) → List (DataW H) → Bool := fun _ ds => decide (uptoBulkAll ds ≤ 1048576)
def OpenSpec.upto (s : _root_.Go.ChangeSpec) : _root_.Go.OpenSpec := { _root_.Go.OpenSpec.ofChange s with cond := some uptoSmall }

/-- 'theorbolaw03.NotationSymbols', WHERE WHAT IT READS IS OF BULK AT MOST 1048576: true; the input reads as it did. -/
def notationSymbolsUptoRow : OpenClaim := { program := "yteldgllgagjciaa", sum := "01c02baefc9f29a1ab72e54b6da9de215dc2c9d4d3d476d3ed1cc26c3aa5cec6", func := "theorbo/theorbolaw03.NotationSymbols", spec := "notationSymbols", unfollowed := true, recurses := true, apart := false, narrowed := true }
def NotationSymbolsUptoSaid : Prop := notationSymbolsUptoRow.holds Try.pinned (OpenSpec.upto notationSymbolsSpec)

/-- 'theorbolaw03.NotationPlaces', WHERE WHAT IT READS IS OF BULK AT MOST 1048576: true; the input reads as it did. -/
def notationPlacesUptoRow : OpenClaim := { program := "yteldgllgagjciaa", sum := "01c02baefc9f29a1ab72e54b6da9de215dc2c9d4d3d476d3ed1cc26c3aa5cec6", func := "theorbo/theorbolaw03.NotationPlaces", spec := "notationPlaces", unfollowed := true, recurses := true, apart := false, narrowed := true }
def NotationPlacesUptoSaid : Prop := notationPlacesUptoRow.holds Try.pinned (OpenSpec.upto notationPlacesSpec)

/-- 'theorbolaw03.NotationApart', WHERE WHAT IT READS IS OF BULK AT MOST 1048576: true; the input reads as it did. -/
def notationApartUptoRow : OpenClaim := { program := "yteldgllgagjciaa", sum := "01c02baefc9f29a1ab72e54b6da9de215dc2c9d4d3d476d3ed1cc26c3aa5cec6", func := "theorbo/theorbolaw03.NotationApart", spec := "notationApart", unfollowed := true, recurses := true, apart := false, narrowed := true }
def NotationApartUptoSaid : Prop := notationApartUptoRow.holds Try.pinned (OpenSpec.upto notationApartSpec)

/-- 'theorbolaw03.NotationNames', WHERE WHAT IT READS IS OF BULK AT MOST 1048576: true; the input reads as it did. -/
def notationNamesUptoRow : OpenClaim := { program := "yteldgllgagjciaa", sum := "01c02baefc9f29a1ab72e54b6da9de215dc2c9d4d3d476d3ed1cc26c3aa5cec6", func := "theorbo/theorbolaw03.NotationNames", spec := "notationNames", unfollowed := true, recurses := true, apart := false, narrowed := true }
def NotationNamesUptoSaid : Prop := notationNamesUptoRow.holds Try.pinned (OpenSpec.upto notationNamesSpec)

/-- 'theorbolaw03.NotationCells', WHERE WHAT IT READS IS OF BULK AT MOST 1048576: true; the input reads as it did. -/
def notationCellsUptoRow : OpenClaim := { program := "yteldgllgagjciaa", sum := "01c02baefc9f29a1ab72e54b6da9de215dc2c9d4d3d476d3ed1cc26c3aa5cec6", func := "theorbo/theorbolaw03.NotationCells", spec := "notationCells", unfollowed := true, recurses := true, apart := false, narrowed := true }
def NotationCellsUptoSaid : Prop := notationCellsUptoRow.holds Try.pinned (OpenSpec.upto notationCellsSpec)

/-- 'theorbolaw03.NotationReadsCells', WHERE WHAT IT READS IS OF BULK AT MOST 1048576: true; the input reads as it did. -/
def notationReadsCellsUptoRow : OpenClaim := { program := "yteldgllgagjciaa", sum := "01c02baefc9f29a1ab72e54b6da9de215dc2c9d4d3d476d3ed1cc26c3aa5cec6", func := "theorbo/theorbolaw03.NotationReadsCells", spec := "notationReadsCells", unfollowed := true, recurses := true, apart := false, narrowed := true }
def NotationReadsCellsUptoSaid : Prop := notationReadsCellsUptoRow.holds Try.pinned (OpenSpec.upto notationReadsCellsSpec)

/-- 'theorbolaw03.NotationLines', WHERE WHAT IT READS IS OF BULK AT MOST 1048576: true; the input reads as it did. -/
def notationLinesUptoRow : OpenClaim := { program := "yteldgllgagjciaa", sum := "01c02baefc9f29a1ab72e54b6da9de215dc2c9d4d3d476d3ed1cc26c3aa5cec6", func := "theorbo/theorbolaw03.NotationLines", spec := "notationLines", unfollowed := true, recurses := true, apart := false, narrowed := true }
def NotationLinesUptoSaid : Prop := notationLinesUptoRow.holds Try.pinned (OpenSpec.upto notationLinesSpec)

/-- 'theorbolaw03.NotationTimes', WHERE WHAT IT READS IS OF BULK AT MOST 1048576: true; the input reads as it did. -/
def notationTimesUptoRow : OpenClaim := { program := "yteldgllgagjciaa", sum := "01c02baefc9f29a1ab72e54b6da9de215dc2c9d4d3d476d3ed1cc26c3aa5cec6", func := "theorbo/theorbolaw03.NotationTimes", spec := "notationTimes", unfollowed := true, recurses := true, apart := false, narrowed := true }
def NotationTimesUptoSaid : Prop := notationTimesUptoRow.holds Try.pinned (OpenSpec.upto notationTimesSpec)

/-- 'theorbolaw03.NotationSays', WHERE WHAT IT READS IS OF BULK AT MOST 1048576: true; the input reads as it did. -/
def notationSaysUptoRow : OpenClaim := { program := "yteldgllgagjciaa", sum := "01c02baefc9f29a1ab72e54b6da9de215dc2c9d4d3d476d3ed1cc26c3aa5cec6", func := "theorbo/theorbolaw03.NotationSays", spec := "notationSays", unfollowed := true, recurses := true, apart := false, narrowed := true }
def NotationSaysUptoSaid : Prop := notationSaysUptoRow.holds Try.pinned (OpenSpec.upto notationSaysSpec)

end Rows
end Go.Proofs.Yteldgllgagjciaa
