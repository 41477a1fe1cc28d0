/-
  NARROWER THAN 'FOR EVERY INPUT', by the rows' own cells (each row's printed sentence says how): NotationWrites: laid · BookIncipits: laid · BookEngraves: laid · BookEditions: laid · BookChecks: laid · BookSings: laid · BookSungBack: laid · NotationReads: laid.
  DERIVED. THE GIVEN ROWS OF THIS SEAT. 8 by the template 'for every input the law returns true; each argument reads behind the call as it read before'; 0 by the template 'total and deterministic' (their statements: YtkgnmddakiagbaaGreatDoorTotals.lean).
  GIVEN WITH THE SEED: the statements are not yours to turn. If you find one false, say at which input.
  Laid BY PROGRAM, IN A SANDBOX (cutbox-rows.mjs): the forced cells as the released guide's own fill.sh prints them over the translation 68cc67fcc271f748… (all of the seat's roots in one cut). By AI agents, Wed Nov 11 2026. No macro, syntax, notation, axiom, sorry.
-/
import Derived.Test.YtkgnmddakiagbaaGreatDoorChecked
import GoSem.PinnedTables
import GoSem.Claim
import GoSem.ClaimJoined
import GoSem.ClaimMapViews
import Derived.JoinedTies
import Derived.KernelRfl
namespace Go.Proofs.YtkgnmddakiagbaaGreatDoor
/- THE CELL 'sum', in the pinned program and in every row, IS THE sha256 OF THE DUMP (.gsa) THAT YtkgnmddakiagbaaGreatDoorProg.lean LOADS. Nothing in Lean hashes anything: it is a label: what it is worth is what the hold of that sum in a sandbox is worth. -/
noncomputable def Tryz.pinned : Pinned := { name := "ytkgnmddakiagbaagreatdoor", sum := "68cc67fcc271f74827c9881e9f8159dc68399fb3ddf472492a31c75472ab57b4", checked := Tryz.checked }
namespace Rows
def none {H : Type} : Left H := { results := [], args := [] }

/- WHAT THE LISTED PACKAGE-LEVEL VARIABLES READ AS WHEN THE CALL BEGINS. Each datum BY PROGRAM (the guide's laid-datum.mjs) off the statement by which the dump's own 'gosem.cut.vars' lays the variable. In a bare row this is a premise. The card (YtkgnmddakiagbaaGreatDoorCards.lean) ties it to the program's text. -/
def laid_math_bits_deBruijn32tab {H : Type} : DataW H := .agg [.lit (.int .u8 0), .lit (.int .u8 1), .lit (.int .u8 28), .lit (.int .u8 2), .lit (.int .u8 29), .lit (.int .u8 14), .lit (.int .u8 24), .lit (.int .u8 3), .lit (.int .u8 30), .lit (.int .u8 22), .lit (.int .u8 20), .lit (.int .u8 15), .lit (.int .u8 25), .lit (.int .u8 17), .lit (.int .u8 4), .lit (.int .u8 8), .lit (.int .u8 31), .lit (.int .u8 27), .lit (.int .u8 13), .lit (.int .u8 23), .lit (.int .u8 21), .lit (.int .u8 19), .lit (.int .u8 16), .lit (.int .u8 7), .lit (.int .u8 26), .lit (.int .u8 12), .lit (.int .u8 18), .lit (.int .u8 6), .lit (.int .u8 11), .lit (.int .u8 5), .lit (.int .u8 10), .lit (.int .u8 9)]
def laid_math_bits_deBruijn64tab {H : Type} : DataW H := .agg [.lit (.int .u8 0), .lit (.int .u8 1), .lit (.int .u8 56), .lit (.int .u8 2), .lit (.int .u8 57), .lit (.int .u8 49), .lit (.int .u8 28), .lit (.int .u8 3), .lit (.int .u8 61), .lit (.int .u8 58), .lit (.int .u8 42), .lit (.int .u8 50), .lit (.int .u8 38), .lit (.int .u8 29), .lit (.int .u8 17), .lit (.int .u8 4), .lit (.int .u8 62), .lit (.int .u8 47), .lit (.int .u8 59), .lit (.int .u8 36), .lit (.int .u8 45), .lit (.int .u8 43), .lit (.int .u8 51), .lit (.int .u8 22), .lit (.int .u8 53), .lit (.int .u8 39), .lit (.int .u8 33), .lit (.int .u8 30), .lit (.int .u8 24), .lit (.int .u8 18), .lit (.int .u8 12), .lit (.int .u8 5), .lit (.int .u8 63), .lit (.int .u8 55), .lit (.int .u8 48), .lit (.int .u8 27), .lit (.int .u8 60), .lit (.int .u8 41), .lit (.int .u8 37), .lit (.int .u8 16), .lit (.int .u8 46), .lit (.int .u8 35), .lit (.int .u8 44), .lit (.int .u8 21), .lit (.int .u8 52), .lit (.int .u8 32), .lit (.int .u8 23), .lit (.int .u8 11), .lit (.int .u8 54), .lit (.int .u8 26), .lit (.int .u8 40), .lit (.int .u8 15), .lit (.int .u8 34), .lit (.int .u8 20), .lit (.int .u8 31), .lit (.int .u8 10), .lit (.int .u8 25), .lit (.int .u8 14), .lit (.int .u8 19), .lit (.int .u8 9), .lit (.int .u8 13), .lit (.int .u8 8), .lit (.int .u8 7), .lit (.int .u8 6)]
def laid_internal_strconv_uint64pow10 {H : Type} : DataW H := .agg [.lit (.int .u64 1), .lit (.int .u64 10), .lit (.int .u64 100), .lit (.int .u64 1000), .lit (.int .u64 10000), .lit (.int .u64 100000), .lit (.int .u64 1000000), .lit (.int .u64 10000000), .lit (.int .u64 100000000), .lit (.int .u64 1000000000), .lit (.int .u64 10000000000), .lit (.int .u64 100000000000), .lit (.int .u64 1000000000000), .lit (.int .u64 10000000000000), .lit (.int .u64 100000000000000), .lit (.int .u64 1000000000000000), .lit (.int .u64 10000000000000000), .lit (.int .u64 100000000000000000), .lit (.int .u64 1000000000000000000), .lit (.int .u64 10000000000000000000)]
def laid_theorbo_instrument_bases {H : Type} : DataW H := .agg [.lit (.int .i64 0), .lit (.int .i64 2), .lit (.int .i64 4), .lit (.int .i64 5), .lit (.int .i64 7), .lit (.int .i64 9), .lit (.int .i64 11)]
def laid_theorbo_instrument_fifths {H : Type} : DataW H := .agg [.lit (.int .i64 0), .lit (.int .i64 2), .lit (.int .i64 4), .lit (.int .i64 (-1)), .lit (.int .i64 1), .lit (.int .i64 3), .lit (.int .i64 5)]
def laid_unicode_utf8_acceptRanges {H : Type} : DataW H := .agg [.agg [.lit (.int .u8 128), .lit (.int .u8 191)], .agg [.lit (.int .u8 160), .lit (.int .u8 191)], .agg [.lit (.int .u8 128), .lit (.int .u8 159)], .agg [.lit (.int .u8 144), .lit (.int .u8 191)], .agg [.lit (.int .u8 128), .lit (.int .u8 143)], .agg [.lit (.int .u8 0), .lit (.int .u8 0)], .agg [.lit (.int .u8 0), .lit (.int .u8 0)], .agg [.lit (.int .u8 0), .lit (.int .u8 0)], .agg [.lit (.int .u8 0), .lit (.int .u8 0)], .agg [.lit (.int .u8 0), .lit (.int .u8 0)], .agg [.lit (.int .u8 0), .lit (.int .u8 0)], .agg [.lit (.int .u8 0), .lit (.int .u8 0)], .agg [.lit (.int .u8 0), .lit (.int .u8 0)], .agg [.lit (.int .u8 0), .lit (.int .u8 0)], .agg [.lit (.int .u8 0), .lit (.int .u8 0)], .agg [.lit (.int .u8 0), .lit (.int .u8 0)]]
/-- One of Go's own tables, pinned by name: the form's constant. -/
def laid_unicode_utf8_first : DataW Unit := Go.Pinned.utf8First

/-- 'theorbolaw03.NotationWrites': WHATEVER THE INPUT: true; the input reads as it did. -/
def notationWritesSpec : ChangeSpec := { name := "notationWrites", fn := fun _ => fun
  | [d1, d2] => { results := [.lit (.bool true)], args := [d1, d2] }
  | _ => none }
def notationWritesRow : OpenClaim := { program := "ytkgnmddakiagbaagreatdoor", sum := "68cc67fcc271f74827c9881e9f8159dc68399fb3ddf472492a31c75472ab57b4", func := "theorbo/theorbolaw03.NotationWrites", spec := "notationWrites", inPlace := ["internal/abi.NoEscape", "internal/bytealg.MakeNoZero"], unfollowed := true, recurses := true, named := ["theorbo/instrument.fifths", "theorbo/instrument.bases", "internal/strconv.uint64pow10", "math/bits.deBruijn32tab", "math/bits.deBruijn64tab"], plainKeys := false, apart := false, laid := [("math/bits.deBruijn32tab", laid_math_bits_deBruijn32tab), ("math/bits.deBruijn64tab", laid_math_bits_deBruijn64tab), ("internal/strconv.uint64pow10", laid_internal_strconv_uint64pow10), ("theorbo/instrument.bases", laid_theorbo_instrument_bases), ("theorbo/instrument.fifths", laid_theorbo_instrument_fifths)] }
def NotationWritesSaid : Prop := notationWritesRow.holds Tryz.pinned (OpenSpec.ofChange notationWritesSpec)

/-- ITS FALSE NEIGHBOUR: 'it returns false'. Refute it at one input. -/
def notationWritesWrong : ChangeSpec := { name := "notationWrites", fn := fun _ => fun
  | [d1, d2] => { results := [.lit (.bool false)], args := [d1, d2] }
  | _ => none }
def NotationWritesWrongFalsely : Prop := notationWritesRow.holds Tryz.pinned (OpenSpec.ofChange notationWritesWrong)

/-- 'theorbolaw11.BookIncipits': WHATEVER THE INPUT: true; the input reads as it did. -/
def bookIncipitsSpec : ChangeSpec := { name := "bookIncipits", fn := fun _ => fun
  | [d1, d2] => { results := [.lit (.bool true)], args := [d1, d2] }
  | _ => none }
def bookIncipitsRow : OpenClaim := { program := "ytkgnmddakiagbaagreatdoor", sum := "68cc67fcc271f74827c9881e9f8159dc68399fb3ddf472492a31c75472ab57b4", func := "theorbo/theorbolaw11.BookIncipits", spec := "bookIncipits", inPlace := ["internal/bytealg.IndexByteString", "internal/abi.NoEscape", "internal/bytealg.MakeNoZero"], unfollowed := true, recurses := true, named := ["theorbo/instrument.fifths", "theorbo/instrument.bases", "internal/strconv.uint64pow10", "math/bits.deBruijn32tab", "math/bits.deBruijn64tab"], plainKeys := false, apart := false, laid := [("math/bits.deBruijn32tab", laid_math_bits_deBruijn32tab), ("math/bits.deBruijn64tab", laid_math_bits_deBruijn64tab), ("internal/strconv.uint64pow10", laid_internal_strconv_uint64pow10), ("theorbo/instrument.bases", laid_theorbo_instrument_bases), ("theorbo/instrument.fifths", laid_theorbo_instrument_fifths)] }
def BookIncipitsSaid : Prop := bookIncipitsRow.holds Tryz.pinned (OpenSpec.ofChange bookIncipitsSpec)

/-- ITS FALSE NEIGHBOUR: 'it returns false'. Refute it at one input. -/
def bookIncipitsWrong : ChangeSpec := { name := "bookIncipits", fn := fun _ => fun
  | [d1, d2] => { results := [.lit (.bool false)], args := [d1, d2] }
  | _ => none }
def BookIncipitsWrongFalsely : Prop := bookIncipitsRow.holds Tryz.pinned (OpenSpec.ofChange bookIncipitsWrong)

/-- 'theorbolaw11.BookEngraves': WHATEVER THE INPUT: true; the input reads as it did. -/
def bookEngravesSpec : ChangeSpec := { name := "bookEngraves", fn := fun _ => fun
  | [d1, d2] => { results := [.lit (.bool true)], args := [d1, d2] }
  | _ => none }
def bookEngravesRow : OpenClaim := { program := "ytkgnmddakiagbaagreatdoor", sum := "68cc67fcc271f74827c9881e9f8159dc68399fb3ddf472492a31c75472ab57b4", func := "theorbo/theorbolaw11.BookEngraves", spec := "bookEngraves", inPlace := ["internal/bytealg.IndexByteString", "internal/abi.NoEscape", "internal/bytealg.MakeNoZero"], unfollowed := true, recurses := true, named := ["theorbo/instrument.fifths", "theorbo/instrument.bases", "internal/strconv.uint64pow10", "math/bits.deBruijn32tab", "math/bits.deBruijn64tab"], plainKeys := false, apart := false, laid := [("math/bits.deBruijn32tab", laid_math_bits_deBruijn32tab), ("math/bits.deBruijn64tab", laid_math_bits_deBruijn64tab), ("internal/strconv.uint64pow10", laid_internal_strconv_uint64pow10), ("theorbo/instrument.bases", laid_theorbo_instrument_bases), ("theorbo/instrument.fifths", laid_theorbo_instrument_fifths)] }
def BookEngravesSaid : Prop := bookEngravesRow.holds Tryz.pinned (OpenSpec.ofChange bookEngravesSpec)

/-- ITS FALSE NEIGHBOUR: 'it returns false'. Refute it at one input. -/
def bookEngravesWrong : ChangeSpec := { name := "bookEngraves", fn := fun _ => fun
  | [d1, d2] => { results := [.lit (.bool false)], args := [d1, d2] }
  | _ => none }
def BookEngravesWrongFalsely : Prop := bookEngravesRow.holds Tryz.pinned (OpenSpec.ofChange bookEngravesWrong)

/-- 'theorbolaw11.BookEditions': WHATEVER THE INPUT: true; the input reads as it did. -/
def bookEditionsSpec : ChangeSpec := { name := "bookEditions", fn := fun _ => fun
  | [d1, d2, d3] => { results := [.lit (.bool true)], args := [d1, d2, d3] }
  | _ => none }
def bookEditionsRow : OpenClaim := { program := "ytkgnmddakiagbaagreatdoor", sum := "68cc67fcc271f74827c9881e9f8159dc68399fb3ddf472492a31c75472ab57b4", func := "theorbo/theorbolaw11.BookEditions", spec := "bookEditions", inPlace := ["internal/bytealg.IndexByteString", "internal/abi.NoEscape", "internal/bytealg.MakeNoZero"], unfollowed := true, recurses := true, named := ["theorbo/instrument.fifths", "theorbo/instrument.bases", "internal/strconv.uint64pow10", "math/bits.deBruijn32tab", "math/bits.deBruijn64tab"], plainKeys := false, apart := false, laid := [("math/bits.deBruijn32tab", laid_math_bits_deBruijn32tab), ("math/bits.deBruijn64tab", laid_math_bits_deBruijn64tab), ("internal/strconv.uint64pow10", laid_internal_strconv_uint64pow10), ("theorbo/instrument.bases", laid_theorbo_instrument_bases), ("theorbo/instrument.fifths", laid_theorbo_instrument_fifths)] }
def BookEditionsSaid : Prop := bookEditionsRow.holds Tryz.pinned (OpenSpec.ofChange bookEditionsSpec)

/-- ITS FALSE NEIGHBOUR: 'it returns false'. Refute it at one input. -/
def bookEditionsWrong : ChangeSpec := { name := "bookEditions", fn := fun _ => fun
  | [d1, d2, d3] => { results := [.lit (.bool false)], args := [d1, d2, d3] }
  | _ => none }
def BookEditionsWrongFalsely : Prop := bookEditionsRow.holds Tryz.pinned (OpenSpec.ofChange bookEditionsWrong)

/-- 'theorbolaw11.BookChecks': WHATEVER THE INPUT: true; the input reads as it did. -/
def bookChecksSpec : ChangeSpec := { name := "bookChecks", fn := fun _ => fun
  | [d1, d2] => { results := [.lit (.bool true)], args := [d1, d2] }
  | _ => none }
def bookChecksRow : OpenClaim := { program := "ytkgnmddakiagbaagreatdoor", sum := "68cc67fcc271f74827c9881e9f8159dc68399fb3ddf472492a31c75472ab57b4", func := "theorbo/theorbolaw11.BookChecks", spec := "bookChecks", inPlace := ["internal/bytealg.IndexByteString", "internal/abi.NoEscape", "internal/bytealg.MakeNoZero"], unfollowed := true, recurses := true, named := ["theorbo/instrument.fifths", "theorbo/instrument.bases", "internal/strconv.uint64pow10", "math/bits.deBruijn32tab", "math/bits.deBruijn64tab"], plainKeys := false, apart := false, laid := [("math/bits.deBruijn32tab", laid_math_bits_deBruijn32tab), ("math/bits.deBruijn64tab", laid_math_bits_deBruijn64tab), ("internal/strconv.uint64pow10", laid_internal_strconv_uint64pow10), ("theorbo/instrument.bases", laid_theorbo_instrument_bases), ("theorbo/instrument.fifths", laid_theorbo_instrument_fifths)] }
def BookChecksSaid : Prop := bookChecksRow.holds Tryz.pinned (OpenSpec.ofChange bookChecksSpec)

/-- ITS FALSE NEIGHBOUR: 'it returns false'. Refute it at one input. -/
def bookChecksWrong : ChangeSpec := { name := "bookChecks", fn := fun _ => fun
  | [d1, d2] => { results := [.lit (.bool false)], args := [d1, d2] }
  | _ => none }
def BookChecksWrongFalsely : Prop := bookChecksRow.holds Tryz.pinned (OpenSpec.ofChange bookChecksWrong)

/-- 'theorbolaw11.BookSings': WHATEVER THE INPUT: true; the input reads as it did. -/
def bookSingsSpec : ChangeSpec := { name := "bookSings", fn := fun _ => fun
  | [d1, d2, d3] => { results := [.lit (.bool true)], args := [d1, d2, d3] }
  | _ => none }
def bookSingsRow : OpenClaim := { program := "ytkgnmddakiagbaagreatdoor", sum := "68cc67fcc271f74827c9881e9f8159dc68399fb3ddf472492a31c75472ab57b4", func := "theorbo/theorbolaw11.BookSings", spec := "bookSings", inPlace := ["internal/bytealg.IndexByteString", "internal/abi.NoEscape", "internal/bytealg.MakeNoZero"], unfollowed := true, recurses := true, named := ["theorbo/instrument.fifths", "theorbo/instrument.bases", "internal/strconv.uint64pow10", "math/bits.deBruijn32tab", "math/bits.deBruijn64tab"], plainKeys := false, apart := false, laid := [("math/bits.deBruijn32tab", laid_math_bits_deBruijn32tab), ("math/bits.deBruijn64tab", laid_math_bits_deBruijn64tab), ("internal/strconv.uint64pow10", laid_internal_strconv_uint64pow10), ("theorbo/instrument.bases", laid_theorbo_instrument_bases), ("theorbo/instrument.fifths", laid_theorbo_instrument_fifths)] }
def BookSingsSaid : Prop := bookSingsRow.holds Tryz.pinned (OpenSpec.ofChange bookSingsSpec)

/-- ITS FALSE NEIGHBOUR: 'it returns false'. Refute it at one input. -/
def bookSingsWrong : ChangeSpec := { name := "bookSings", fn := fun _ => fun
  | [d1, d2, d3] => { results := [.lit (.bool false)], args := [d1, d2, d3] }
  | _ => none }
def BookSingsWrongFalsely : Prop := bookSingsRow.holds Tryz.pinned (OpenSpec.ofChange bookSingsWrong)

/-- 'theorbolaw11.BookSungBack': WHATEVER THE INPUT: true; the input reads as it did. -/
def bookSungBackSpec : ChangeSpec := { name := "bookSungBack", fn := fun _ => fun
  | [d1, d2] => { results := [.lit (.bool true)], args := [d1, d2] }
  | _ => none }
def bookSungBackRow : OpenClaim := { program := "ytkgnmddakiagbaagreatdoor", sum := "68cc67fcc271f74827c9881e9f8159dc68399fb3ddf472492a31c75472ab57b4", func := "theorbo/theorbolaw11.BookSungBack", spec := "bookSungBack", inPlace := ["internal/bytealg.IndexByteString", "internal/abi.NoEscape", "internal/bytealg.MakeNoZero"], unfollowed := true, recurses := true, named := ["theorbo/instrument.fifths", "theorbo/instrument.bases", "internal/strconv.uint64pow10", "math/bits.deBruijn32tab", "math/bits.deBruijn64tab"], plainKeys := false, apart := false, laid := [("math/bits.deBruijn32tab", laid_math_bits_deBruijn32tab), ("math/bits.deBruijn64tab", laid_math_bits_deBruijn64tab), ("internal/strconv.uint64pow10", laid_internal_strconv_uint64pow10), ("theorbo/instrument.bases", laid_theorbo_instrument_bases), ("theorbo/instrument.fifths", laid_theorbo_instrument_fifths)] }
def BookSungBackSaid : Prop := bookSungBackRow.holds Tryz.pinned (OpenSpec.ofChange bookSungBackSpec)

/-- ITS FALSE NEIGHBOUR: 'it returns false'. Refute it at one input. -/
def bookSungBackWrong : ChangeSpec := { name := "bookSungBack", fn := fun _ => fun
  | [d1, d2] => { results := [.lit (.bool false)], args := [d1, d2] }
  | _ => none }
def BookSungBackWrongFalsely : Prop := bookSungBackRow.holds Tryz.pinned (OpenSpec.ofChange bookSungBackWrong)

/-- 'theorbolaw03.NotationReads': WHATEVER THE INPUT: true; the input reads as it did. -/
def notationReadsSpec : ChangeSpec := { name := "notationReads", fn := fun _ => fun
  | [d] => { results := [.lit (.bool true)], args := [d] }
  | _ => none }
def notationReadsRow : OpenClaim := { program := "ytkgnmddakiagbaagreatdoor", sum := "68cc67fcc271f74827c9881e9f8159dc68399fb3ddf472492a31c75472ab57b4", func := "theorbo/theorbolaw03.NotationReads", spec := "notationReads", inPlace := ["internal/bytealg.CountString", "internal/bytealg.IndexByteString", "internal/bytealg.IndexString"], unfollowed := true, recurses := true, named := ["unicode/utf8.first", "unicode/utf8.acceptRanges", "internal/bytealg.MaxLen", "theorbo/instrument.bases", "internal/strconv.uint64pow10", "math/bits.deBruijn32tab", "math/bits.deBruijn64tab"], plainKeys := false, apart := false, laid := [("math/bits.deBruijn32tab", laid_math_bits_deBruijn32tab), ("math/bits.deBruijn64tab", laid_math_bits_deBruijn64tab), ("internal/strconv.uint64pow10", laid_internal_strconv_uint64pow10), ("unicode/utf8.acceptRanges", laid_unicode_utf8_acceptRanges), ("theorbo/instrument.bases", laid_theorbo_instrument_bases), ("unicode/utf8.first", laid_unicode_utf8_first)] }
def NotationReadsSaid : Prop := notationReadsRow.holds Tryz.pinned (OpenSpec.ofChange notationReadsSpec)

/-- ITS FALSE NEIGHBOUR: 'it returns false'. Refute it at one input. -/
def notationReadsWrong : ChangeSpec := { name := "notationReads", fn := fun _ => fun
  | [d] => { results := [.lit (.bool false)], args := [d] }
  | _ => none }
def NotationReadsWrongFalsely : Prop := notationReadsRow.holds Tryz.pinned (OpenSpec.ofChange notationReadsWrong)

/- THE SECOND FORM. 'bulk': how many values and letters a reading holds, each counted each time it is reached (what is shared counts as often as it is met; a slice's spare places count too). A statement '..UptoSaid' is the law's where the arguments, and the package variables that the reading takes, are together of bulk at most 1048576: NARROWER than '..Said'. Prove '..Said' where nothing that the law and all that it calls make is longer than what came in: it says more and counts as full. Else prove '..UptoSaid'. A law counts once. -/
mutual
def uptoBulk {H : Type} : DataW H → Nat
  | .lit (.string bytes) => bytes.length + 1
  | .lit _ => 1
  | .nil => 1
  | .ptr d => uptoBulk d + 1
  | .slice elems spare => uptoBulkAll elems + uptoBulkAll spare + 1
  | .agg parts => uptoBulkAll parts + 1
  | .iface _ d => uptoBulk d + 1
  | .map entries => uptoBulkEntries entries + 1
  | .held _ => 1
def uptoBulkAll {H : Type} : List (DataW H) → Nat
  | [] => 0
  | d :: r => uptoBulk d + uptoBulkAll r
def uptoBulkEntries {H : Type} : List (Lit × DataW H) → Nat
  | [] => 0
  | x :: r => uptoBulkEntry x + uptoBulkEntries r
def uptoBulkEntry {H : Type} : Lit × DataW H → Nat
  | (.string bytes, d) => bytes.length + uptoBulk d + 1
  | (_, d) => uptoBulk d + 1
 end
def uptoSmall : (H : Type) → List (DataW H) → Bool := fun _ ds => decide (uptoBulkAll ds ≤ 1048576)
def OpenSpec.upto (s : _root_.Go.ChangeSpec) : _root_.Go.OpenSpec := { _root_.Go.OpenSpec.ofChange s with cond := some uptoSmall }

/-- 'theorbolaw03.NotationWrites', WHERE WHAT IT READS IS OF BULK AT MOST 1048576: true; the input reads as it did. -/
def notationWritesUptoRow : OpenClaim := { program := "ytkgnmddakiagbaagreatdoor", sum := "68cc67fcc271f74827c9881e9f8159dc68399fb3ddf472492a31c75472ab57b4", func := "theorbo/theorbolaw03.NotationWrites", spec := "notationWrites", inPlace := ["internal/abi.NoEscape", "internal/bytealg.MakeNoZero"], unfollowed := true, recurses := true, named := ["theorbo/instrument.fifths", "theorbo/instrument.bases", "internal/strconv.uint64pow10", "math/bits.deBruijn32tab", "math/bits.deBruijn64tab"], plainKeys := false, apart := false, laid := [("math/bits.deBruijn32tab", laid_math_bits_deBruijn32tab), ("math/bits.deBruijn64tab", laid_math_bits_deBruijn64tab), ("internal/strconv.uint64pow10", laid_internal_strconv_uint64pow10), ("theorbo/instrument.bases", laid_theorbo_instrument_bases), ("theorbo/instrument.fifths", laid_theorbo_instrument_fifths)], narrowed := true }
def NotationWritesUptoSaid : Prop := notationWritesUptoRow.holds Tryz.pinned (OpenSpec.upto notationWritesSpec)

/-- 'theorbolaw11.BookIncipits', WHERE WHAT IT READS IS OF BULK AT MOST 1048576: true; the input reads as it did. -/
def bookIncipitsUptoRow : OpenClaim := { program := "ytkgnmddakiagbaagreatdoor", sum := "68cc67fcc271f74827c9881e9f8159dc68399fb3ddf472492a31c75472ab57b4", func := "theorbo/theorbolaw11.BookIncipits", spec := "bookIncipits", inPlace := ["internal/bytealg.IndexByteString", "internal/abi.NoEscape", "internal/bytealg.MakeNoZero"], unfollowed := true, recurses := true, named := ["theorbo/instrument.fifths", "theorbo/instrument.bases", "internal/strconv.uint64pow10", "math/bits.deBruijn32tab", "math/bits.deBruijn64tab"], plainKeys := false, apart := false, laid := [("math/bits.deBruijn32tab", laid_math_bits_deBruijn32tab), ("math/bits.deBruijn64tab", laid_math_bits_deBruijn64tab), ("internal/strconv.uint64pow10", laid_internal_strconv_uint64pow10), ("theorbo/instrument.bases", laid_theorbo_instrument_bases), ("theorbo/instrument.fifths", laid_theorbo_instrument_fifths)], narrowed := true }
def BookIncipitsUptoSaid : Prop := bookIncipitsUptoRow.holds Tryz.pinned (OpenSpec.upto bookIncipitsSpec)

/-- 'theorbolaw11.BookEngraves', WHERE WHAT IT READS IS OF BULK AT MOST 1048576: true; the input reads as it did. -/
def bookEngravesUptoRow : OpenClaim := { program := "ytkgnmddakiagbaagreatdoor", sum := "68cc67fcc271f74827c9881e9f8159dc68399fb3ddf472492a31c75472ab57b4", func := "theorbo/theorbolaw11.BookEngraves", spec := "bookEngraves", inPlace := ["internal/bytealg.IndexByteString", "internal/abi.NoEscape", "internal/bytealg.MakeNoZero"], unfollowed := true, recurses := true, named := ["theorbo/instrument.fifths", "theorbo/instrument.bases", "internal/strconv.uint64pow10", "math/bits.deBruijn32tab", "math/bits.deBruijn64tab"], plainKeys := false, apart := false, laid := [("math/bits.deBruijn32tab", laid_math_bits_deBruijn32tab), ("math/bits.deBruijn64tab", laid_math_bits_deBruijn64tab), ("internal/strconv.uint64pow10", laid_internal_strconv_uint64pow10), ("theorbo/instrument.bases", laid_theorbo_instrument_bases), ("theorbo/instrument.fifths", laid_theorbo_instrument_fifths)], narrowed := true }
def BookEngravesUptoSaid : Prop := bookEngravesUptoRow.holds Tryz.pinned (OpenSpec.upto bookEngravesSpec)

/-- 'theorbolaw11.BookEditions', WHERE WHAT IT READS IS OF BULK AT MOST 1048576: true; the input reads as it did. -/
def bookEditionsUptoRow : OpenClaim := { program := "ytkgnmddakiagbaagreatdoor", sum := "68cc67fcc271f74827c9881e9f8159dc68399fb3ddf472492a31c75472ab57b4", func := "theorbo/theorbolaw11.BookEditions", spec := "bookEditions", inPlace := ["internal/bytealg.IndexByteString", "internal/abi.NoEscape", "internal/bytealg.MakeNoZero"], unfollowed := true, recurses := true, named := ["theorbo/instrument.fifths", "theorbo/instrument.bases", "internal/strconv.uint64pow10", "math/bits.deBruijn32tab", "math/bits.deBruijn64tab"], plainKeys := false, apart := false, laid := [("math/bits.deBruijn32tab", laid_math_bits_deBruijn32tab), ("math/bits.deBruijn64tab", laid_math_bits_deBruijn64tab), ("internal/strconv.uint64pow10", laid_internal_strconv_uint64pow10), ("theorbo/instrument.bases", laid_theorbo_instrument_bases), ("theorbo/instrument.fifths", laid_theorbo_instrument_fifths)], narrowed := true }
def BookEditionsUptoSaid : Prop := bookEditionsUptoRow.holds Tryz.pinned (OpenSpec.upto bookEditionsSpec)

/-- 'theorbolaw11.BookChecks', WHERE WHAT IT READS IS OF BULK AT MOST 1048576: true; the input reads as it did. -/
def bookChecksUptoRow : OpenClaim := { program := "ytkgnmddakiagbaagreatdoor", sum := "68cc67fcc271f74827c9881e9f8159dc68399fb3ddf472492a31c75472ab57b4", func := "theorbo/theorbolaw11.BookChecks", spec := "bookChecks", inPlace := ["internal/bytealg.IndexByteString", "internal/abi.NoEscape", "internal/bytealg.MakeNoZero"], unfollowed := true, recurses := true, named := ["theorbo/instrument.fifths", "theorbo/instrument.bases", "internal/strconv.uint64pow10", "math/bits.deBruijn32tab", "math/bits.deBruijn64tab"], plainKeys := false, apart := false, laid := [("math/bits.deBruijn32tab", laid_math_bits_deBruijn32tab), ("math/bits.deBruijn64tab", laid_math_bits_deBruijn64tab), ("internal/strconv.uint64pow10", laid_internal_strconv_uint64pow10), ("theorbo/instrument.bases", laid_theorbo_instrument_bases), ("theorbo/instrument.fifths", laid_theorbo_instrument_fifths)], narrowed := true }
def BookChecksUptoSaid : Prop := bookChecksUptoRow.holds Tryz.pinned (OpenSpec.upto bookChecksSpec)

/-- 'theorbolaw11.BookSings', WHERE WHAT IT READS IS OF BULK AT MOST 1048576: true; the input reads as it did. -/
def bookSingsUptoRow : OpenClaim := { program := "ytkgnmddakiagbaagreatdoor", sum := "68cc67fcc271f74827c9881e9f8159dc68399fb3ddf472492a31c75472ab57b4", func := "theorbo/theorbolaw11.BookSings", spec := "bookSings", inPlace := ["internal/bytealg.IndexByteString", "internal/abi.NoEscape", "internal/bytealg.MakeNoZero"], unfollowed := true, recurses := true, named := ["theorbo/instrument.fifths", "theorbo/instrument.bases", "internal/strconv.uint64pow10", "math/bits.deBruijn32tab", "math/bits.deBruijn64tab"], plainKeys := false, apart := false, laid := [("math/bits.deBruijn32tab", laid_math_bits_deBruijn32tab), ("math/bits.deBruijn64tab", laid_math_bits_deBruijn64tab), ("internal/strconv.uint64pow10", laid_internal_strconv_uint64pow10), ("theorbo/instrument.bases", laid_theorbo_instrument_bases), ("theorbo/instrument.fifths", laid_theorbo_instrument_fifths)], narrowed := true }
def BookSingsUptoSaid : Prop := bookSingsUptoRow.holds Tryz.pinned (OpenSpec.upto bookSingsSpec)

/-- 'theorbolaw11.BookSungBack', WHERE WHAT IT READS IS OF BULK AT MOST 1048576: true; the input reads as it did. -/
def bookSungBackUptoRow : OpenClaim := { program := "ytkgnmddakiagbaagreatdoor", sum := "68cc67fcc271f74827c9881e9f8159dc68399fb3ddf472492a31c75472ab57b4", func := "theorbo/theorbolaw11.BookSungBack", spec := "bookSungBack", inPlace := ["internal/bytealg.IndexByteString", "internal/abi.NoEscape", "internal/bytealg.MakeNoZero"], unfollowed := true, recurses := true, named := ["theorbo/instrument.fifths", "theorbo/instrument.bases", "internal/strconv.uint64pow10", "math/bits.deBruijn32tab", "math/bits.deBruijn64tab"], plainKeys := false, apart := false, laid := [("math/bits.deBruijn32tab", laid_math_bits_deBruijn32tab), ("math/bits.deBruijn64tab", laid_math_bits_deBruijn64tab), ("internal/strconv.uint64pow10", laid_internal_strconv_uint64pow10), ("theorbo/instrument.bases", laid_theorbo_instrument_bases), ("theorbo/instrument.fifths", laid_theorbo_instrument_fifths)], narrowed := true }
def BookSungBackUptoSaid : Prop := bookSungBackUptoRow.holds Tryz.pinned (OpenSpec.upto bookSungBackSpec)

/-- 'theorbolaw03.NotationReads', WHERE WHAT IT READS IS OF BULK AT MOST 1048576: true; the input reads as it did. -/
def notationReadsUptoRow : OpenClaim := { program := "ytkgnmddakiagbaagreatdoor", sum := "68cc67fcc271f74827c9881e9f8159dc68399fb3ddf472492a31c75472ab57b4", func := "theorbo/theorbolaw03.NotationReads", spec := "notationReads", inPlace := ["internal/bytealg.CountString", "internal/bytealg.IndexByteString", "internal/bytealg.IndexString"], unfollowed := true, recurses := true, named := ["unicode/utf8.first", "unicode/utf8.acceptRanges", "internal/bytealg.MaxLen", "theorbo/instrument.bases", "internal/strconv.uint64pow10", "math/bits.deBruijn32tab", "math/bits.deBruijn64tab"], plainKeys := false, apart := false, laid := [("math/bits.deBruijn32tab", laid_math_bits_deBruijn32tab), ("math/bits.deBruijn64tab", laid_math_bits_deBruijn64tab), ("internal/strconv.uint64pow10", laid_internal_strconv_uint64pow10), ("unicode/utf8.acceptRanges", laid_unicode_utf8_acceptRanges), ("theorbo/instrument.bases", laid_theorbo_instrument_bases), ("unicode/utf8.first", laid_unicode_utf8_first)], narrowed := true }
def NotationReadsUptoSaid : Prop := notationReadsUptoRow.holds Tryz.pinned (OpenSpec.upto notationReadsSpec)

end Rows
end Go.Proofs.YtkgnmddakiagbaaGreatDoor
