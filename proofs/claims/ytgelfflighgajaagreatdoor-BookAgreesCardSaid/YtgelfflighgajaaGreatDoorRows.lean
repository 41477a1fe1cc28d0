/-
  NARROWER THAN 'FOR EVERY INPUT', by the rows' own cells (each row's printed sentence says how): BookApplies: laid · BookSaves: laid · BookCollates: laid · BookAligned: laid · BookDraws: laid · BookVariants: laid · BookAgrees: laid · BookUnanimous: laid · BookRestores: laid · BookIndexes: laid · BookTransposed: laid.
  DERIVED. THE GIVEN ROWS OF THIS SEAT. 11 by the template 'for every input the law returns true; each argument reads behind the call as it read before'; 0 by the template 'total and deterministic' (their statements: YtgelfflighgajaaGreatDoorTotals.lean).
  GIVEN WITH THE SEED: the statements are not yours to turn. If you find one false, say at which input.
  Laid BY PROGRAM, IN A SANDBOX (cutbox-rows.mjs): the forced cells as the released guide's own fill.sh prints them over the translation e148375c78fca484… (all of the seat's roots in one cut). By AI agents, Wed Nov 11 2026. No macro, syntax, notation, axiom, sorry.
-/
import Derived.Test.YtgelfflighgajaaGreatDoorChecked
import GoSem.Claim
import GoSem.ClaimJoined
import GoSem.ClaimMapViews
import Derived.JoinedTies
import Derived.KernelRfl
namespace Go.Proofs.YtgelfflighgajaaGreatDoor
/- THE CELL 'sum', in the pinned program and in every row, IS THE sha256 OF THE DUMP (.gsa) THAT YtgelfflighgajaaGreatDoorProg.lean LOADS. Nothing in Lean hashes anything: it is a label: what it is worth is what the hold of that sum in a sandbox is worth. -/
noncomputable def Tryz.pinned : Pinned := { name := "ytgelfflighgajaagreatdoor", sum := "e148375c78fca484208084317e03f66c4a19492e69d368a80925ac724ec5b13e", checked := Tryz.checked }
namespace Rows
def none {H : Type} : Left H := { results := [], args := [] }

/- WHAT THE LISTED PACKAGE-LEVEL VARIABLES READ AS WHEN THE CALL BEGINS. Each datum BY PROGRAM (the guide's laid-datum.mjs) off the statement by which the dump's own 'gosem.cut.vars' lays the variable. In a bare row this is a premise. The card (YtgelfflighgajaaGreatDoorCards.lean) ties it to the program's text. -/
def laid_math_bits_deBruijn32tab {H : Type} : DataW H := .agg [.lit (.int .u8 0), .lit (.int .u8 1), .lit (.int .u8 28), .lit (.int .u8 2), .lit (.int .u8 29), .lit (.int .u8 14), .lit (.int .u8 24), .lit (.int .u8 3), .lit (.int .u8 30), .lit (.int .u8 22), .lit (.int .u8 20), .lit (.int .u8 15), .lit (.int .u8 25), .lit (.int .u8 17), .lit (.int .u8 4), .lit (.int .u8 8), .lit (.int .u8 31), .lit (.int .u8 27), .lit (.int .u8 13), .lit (.int .u8 23), .lit (.int .u8 21), .lit (.int .u8 19), .lit (.int .u8 16), .lit (.int .u8 7), .lit (.int .u8 26), .lit (.int .u8 12), .lit (.int .u8 18), .lit (.int .u8 6), .lit (.int .u8 11), .lit (.int .u8 5), .lit (.int .u8 10), .lit (.int .u8 9)]
def laid_math_bits_deBruijn64tab {H : Type} : DataW H := .agg [.lit (.int .u8 0), .lit (.int .u8 1), .lit (.int .u8 56), .lit (.int .u8 2), .lit (.int .u8 57), .lit (.int .u8 49), .lit (.int .u8 28), .lit (.int .u8 3), .lit (.int .u8 61), .lit (.int .u8 58), .lit (.int .u8 42), .lit (.int .u8 50), .lit (.int .u8 38), .lit (.int .u8 29), .lit (.int .u8 17), .lit (.int .u8 4), .lit (.int .u8 62), .lit (.int .u8 47), .lit (.int .u8 59), .lit (.int .u8 36), .lit (.int .u8 45), .lit (.int .u8 43), .lit (.int .u8 51), .lit (.int .u8 22), .lit (.int .u8 53), .lit (.int .u8 39), .lit (.int .u8 33), .lit (.int .u8 30), .lit (.int .u8 24), .lit (.int .u8 18), .lit (.int .u8 12), .lit (.int .u8 5), .lit (.int .u8 63), .lit (.int .u8 55), .lit (.int .u8 48), .lit (.int .u8 27), .lit (.int .u8 60), .lit (.int .u8 41), .lit (.int .u8 37), .lit (.int .u8 16), .lit (.int .u8 46), .lit (.int .u8 35), .lit (.int .u8 44), .lit (.int .u8 21), .lit (.int .u8 52), .lit (.int .u8 32), .lit (.int .u8 23), .lit (.int .u8 11), .lit (.int .u8 54), .lit (.int .u8 26), .lit (.int .u8 40), .lit (.int .u8 15), .lit (.int .u8 34), .lit (.int .u8 20), .lit (.int .u8 31), .lit (.int .u8 10), .lit (.int .u8 25), .lit (.int .u8 14), .lit (.int .u8 19), .lit (.int .u8 9), .lit (.int .u8 13), .lit (.int .u8 8), .lit (.int .u8 7), .lit (.int .u8 6)]
def laid_internal_strconv_uint64pow10 {H : Type} : DataW H := .agg [.lit (.int .u64 1), .lit (.int .u64 10), .lit (.int .u64 100), .lit (.int .u64 1000), .lit (.int .u64 10000), .lit (.int .u64 100000), .lit (.int .u64 1000000), .lit (.int .u64 10000000), .lit (.int .u64 100000000), .lit (.int .u64 1000000000), .lit (.int .u64 10000000000), .lit (.int .u64 100000000000), .lit (.int .u64 1000000000000), .lit (.int .u64 10000000000000), .lit (.int .u64 100000000000000), .lit (.int .u64 1000000000000000), .lit (.int .u64 10000000000000000), .lit (.int .u64 100000000000000000), .lit (.int .u64 1000000000000000000), .lit (.int .u64 10000000000000000000)]
def laid_theorbo_instrument_bases {H : Type} : DataW H := .agg [.lit (.int .i64 0), .lit (.int .i64 2), .lit (.int .i64 4), .lit (.int .i64 5), .lit (.int .i64 7), .lit (.int .i64 9), .lit (.int .i64 11)]
def laid_theorbo_instrument_fifths {H : Type} : DataW H := .agg [.lit (.int .i64 0), .lit (.int .i64 2), .lit (.int .i64 4), .lit (.int .i64 (-1)), .lit (.int .i64 1), .lit (.int .i64 3), .lit (.int .i64 5)]

/-- 'theorbolaw11.BookApplies': WHATEVER THE INPUT: true; the input reads as it did. -/
def bookAppliesSpec : ChangeSpec := { name := "bookApplies", fn := fun _ => fun
  | [d1, d2] => { results := [.lit (.bool true)], args := [d1, d2] }
  | _ => none }
def bookAppliesRow : OpenClaim := { program := "ytgelfflighgajaagreatdoor", sum := "e148375c78fca484208084317e03f66c4a19492e69d368a80925ac724ec5b13e", func := "theorbo/theorbolaw11.BookApplies", spec := "bookApplies", inPlace := ["internal/bytealg.IndexByteString", "internal/abi.NoEscape", "internal/bytealg.MakeNoZero"], unfollowed := true, recurses := true, named := ["theorbo/instrument.fifths", "theorbo/instrument.bases", "internal/strconv.uint64pow10", "math/bits.deBruijn32tab", "math/bits.deBruijn64tab"], plainKeys := false, apart := false, laid := [("math/bits.deBruijn32tab", laid_math_bits_deBruijn32tab), ("math/bits.deBruijn64tab", laid_math_bits_deBruijn64tab), ("internal/strconv.uint64pow10", laid_internal_strconv_uint64pow10), ("theorbo/instrument.bases", laid_theorbo_instrument_bases), ("theorbo/instrument.fifths", laid_theorbo_instrument_fifths)] }
def BookAppliesSaid : Prop := bookAppliesRow.holds Tryz.pinned (OpenSpec.ofChange bookAppliesSpec)

/-- ITS FALSE NEIGHBOUR: 'it returns false'. Refute it at one input. -/
def bookAppliesWrong : ChangeSpec := { name := "bookApplies", fn := fun _ => fun
  | [d1, d2] => { results := [.lit (.bool false)], args := [d1, d2] }
  | _ => none }
def BookAppliesWrongFalsely : Prop := bookAppliesRow.holds Tryz.pinned (OpenSpec.ofChange bookAppliesWrong)

/-- 'theorbolaw11.BookSaves': WHATEVER THE INPUT: true; the input reads as it did. -/
def bookSavesSpec : ChangeSpec := { name := "bookSaves", fn := fun _ => fun
  | [d] => { results := [.lit (.bool true)], args := [d] }
  | _ => none }
def bookSavesRow : OpenClaim := { program := "ytgelfflighgajaagreatdoor", sum := "e148375c78fca484208084317e03f66c4a19492e69d368a80925ac724ec5b13e", func := "theorbo/theorbolaw11.BookSaves", spec := "bookSaves", inPlace := ["internal/bytealg.IndexByteString", "internal/abi.NoEscape", "internal/bytealg.MakeNoZero"], unfollowed := true, recurses := true, named := ["theorbo/instrument.fifths", "theorbo/instrument.bases", "internal/strconv.uint64pow10", "math/bits.deBruijn32tab", "math/bits.deBruijn64tab"], plainKeys := false, apart := false, laid := [("math/bits.deBruijn32tab", laid_math_bits_deBruijn32tab), ("math/bits.deBruijn64tab", laid_math_bits_deBruijn64tab), ("internal/strconv.uint64pow10", laid_internal_strconv_uint64pow10), ("theorbo/instrument.bases", laid_theorbo_instrument_bases), ("theorbo/instrument.fifths", laid_theorbo_instrument_fifths)] }
def BookSavesSaid : Prop := bookSavesRow.holds Tryz.pinned (OpenSpec.ofChange bookSavesSpec)

/-- ITS FALSE NEIGHBOUR: 'it returns false'. Refute it at one input. -/
def bookSavesWrong : ChangeSpec := { name := "bookSaves", fn := fun _ => fun
  | [d] => { results := [.lit (.bool false)], args := [d] }
  | _ => none }
def BookSavesWrongFalsely : Prop := bookSavesRow.holds Tryz.pinned (OpenSpec.ofChange bookSavesWrong)

/-- 'theorbolaw11.BookCollates': WHATEVER THE INPUT: true; the input reads as it did. -/
def bookCollatesSpec : ChangeSpec := { name := "bookCollates", fn := fun _ => fun
  | [d1, d2] => { results := [.lit (.bool true)], args := [d1, d2] }
  | _ => none }
def bookCollatesRow : OpenClaim := { program := "ytgelfflighgajaagreatdoor", sum := "e148375c78fca484208084317e03f66c4a19492e69d368a80925ac724ec5b13e", func := "theorbo/theorbolaw11.BookCollates", spec := "bookCollates", inPlace := ["internal/bytealg.IndexByteString", "internal/abi.NoEscape", "internal/bytealg.MakeNoZero"], unfollowed := true, recurses := true, named := ["theorbo/instrument.fifths", "theorbo/instrument.bases", "internal/strconv.uint64pow10", "math/bits.deBruijn32tab", "math/bits.deBruijn64tab"], plainKeys := false, apart := false, laid := [("math/bits.deBruijn32tab", laid_math_bits_deBruijn32tab), ("math/bits.deBruijn64tab", laid_math_bits_deBruijn64tab), ("internal/strconv.uint64pow10", laid_internal_strconv_uint64pow10), ("theorbo/instrument.bases", laid_theorbo_instrument_bases), ("theorbo/instrument.fifths", laid_theorbo_instrument_fifths)] }
def BookCollatesSaid : Prop := bookCollatesRow.holds Tryz.pinned (OpenSpec.ofChange bookCollatesSpec)

/-- ITS FALSE NEIGHBOUR: 'it returns false'. Refute it at one input. -/
def bookCollatesWrong : ChangeSpec := { name := "bookCollates", fn := fun _ => fun
  | [d1, d2] => { results := [.lit (.bool false)], args := [d1, d2] }
  | _ => none }
def BookCollatesWrongFalsely : Prop := bookCollatesRow.holds Tryz.pinned (OpenSpec.ofChange bookCollatesWrong)

/-- 'theorbolaw11.BookAligned': WHATEVER THE INPUT: true; the input reads as it did. -/
def bookAlignedSpec : ChangeSpec := { name := "bookAligned", fn := fun _ => fun
  | [d1, d2, d3] => { results := [.lit (.bool true)], args := [d1, d2, d3] }
  | _ => none }
def bookAlignedRow : OpenClaim := { program := "ytgelfflighgajaagreatdoor", sum := "e148375c78fca484208084317e03f66c4a19492e69d368a80925ac724ec5b13e", func := "theorbo/theorbolaw11.BookAligned", spec := "bookAligned", inPlace := ["internal/bytealg.IndexByteString", "internal/abi.NoEscape", "internal/bytealg.MakeNoZero"], unfollowed := true, recurses := true, named := ["theorbo/instrument.fifths", "theorbo/instrument.bases", "internal/strconv.uint64pow10", "math/bits.deBruijn32tab", "math/bits.deBruijn64tab"], plainKeys := false, apart := false, laid := [("math/bits.deBruijn32tab", laid_math_bits_deBruijn32tab), ("math/bits.deBruijn64tab", laid_math_bits_deBruijn64tab), ("internal/strconv.uint64pow10", laid_internal_strconv_uint64pow10), ("theorbo/instrument.bases", laid_theorbo_instrument_bases), ("theorbo/instrument.fifths", laid_theorbo_instrument_fifths)] }
def BookAlignedSaid : Prop := bookAlignedRow.holds Tryz.pinned (OpenSpec.ofChange bookAlignedSpec)

/-- ITS FALSE NEIGHBOUR: 'it returns false'. Refute it at one input. -/
def bookAlignedWrong : ChangeSpec := { name := "bookAligned", fn := fun _ => fun
  | [d1, d2, d3] => { results := [.lit (.bool false)], args := [d1, d2, d3] }
  | _ => none }
def BookAlignedWrongFalsely : Prop := bookAlignedRow.holds Tryz.pinned (OpenSpec.ofChange bookAlignedWrong)

/-- 'theorbolaw11.BookDraws': WHATEVER THE INPUT: true; the input reads as it did. -/
def bookDrawsSpec : ChangeSpec := { name := "bookDraws", fn := fun _ => fun
  | [d1, d2] => { results := [.lit (.bool true)], args := [d1, d2] }
  | _ => none }
def bookDrawsRow : OpenClaim := { program := "ytgelfflighgajaagreatdoor", sum := "e148375c78fca484208084317e03f66c4a19492e69d368a80925ac724ec5b13e", func := "theorbo/theorbolaw11.BookDraws", spec := "bookDraws", inPlace := ["internal/bytealg.IndexByteString", "internal/abi.NoEscape", "internal/bytealg.MakeNoZero"], unfollowed := true, recurses := true, named := ["theorbo/instrument.fifths", "theorbo/instrument.bases", "internal/strconv.uint64pow10", "math/bits.deBruijn32tab", "math/bits.deBruijn64tab"], plainKeys := false, apart := false, laid := [("math/bits.deBruijn32tab", laid_math_bits_deBruijn32tab), ("math/bits.deBruijn64tab", laid_math_bits_deBruijn64tab), ("internal/strconv.uint64pow10", laid_internal_strconv_uint64pow10), ("theorbo/instrument.bases", laid_theorbo_instrument_bases), ("theorbo/instrument.fifths", laid_theorbo_instrument_fifths)] }
def BookDrawsSaid : Prop := bookDrawsRow.holds Tryz.pinned (OpenSpec.ofChange bookDrawsSpec)

/-- ITS FALSE NEIGHBOUR: 'it returns false'. Refute it at one input. -/
def bookDrawsWrong : ChangeSpec := { name := "bookDraws", fn := fun _ => fun
  | [d1, d2] => { results := [.lit (.bool false)], args := [d1, d2] }
  | _ => none }
def BookDrawsWrongFalsely : Prop := bookDrawsRow.holds Tryz.pinned (OpenSpec.ofChange bookDrawsWrong)

/-- 'theorbolaw11.BookVariants': WHATEVER THE INPUT: true; the input reads as it did. -/
def bookVariantsSpec : ChangeSpec := { name := "bookVariants", fn := fun _ => fun
  | [d1, d2] => { results := [.lit (.bool true)], args := [d1, d2] }
  | _ => none }
def bookVariantsRow : OpenClaim := { program := "ytgelfflighgajaagreatdoor", sum := "e148375c78fca484208084317e03f66c4a19492e69d368a80925ac724ec5b13e", func := "theorbo/theorbolaw11.BookVariants", spec := "bookVariants", inPlace := ["internal/bytealg.IndexByteString", "internal/abi.NoEscape", "internal/bytealg.MakeNoZero"], unfollowed := true, recurses := true, named := ["theorbo/instrument.fifths", "theorbo/instrument.bases", "internal/strconv.uint64pow10", "math/bits.deBruijn32tab", "math/bits.deBruijn64tab"], plainKeys := false, apart := false, laid := [("math/bits.deBruijn32tab", laid_math_bits_deBruijn32tab), ("math/bits.deBruijn64tab", laid_math_bits_deBruijn64tab), ("internal/strconv.uint64pow10", laid_internal_strconv_uint64pow10), ("theorbo/instrument.bases", laid_theorbo_instrument_bases), ("theorbo/instrument.fifths", laid_theorbo_instrument_fifths)] }
def BookVariantsSaid : Prop := bookVariantsRow.holds Tryz.pinned (OpenSpec.ofChange bookVariantsSpec)

/-- ITS FALSE NEIGHBOUR: 'it returns false'. Refute it at one input. -/
def bookVariantsWrong : ChangeSpec := { name := "bookVariants", fn := fun _ => fun
  | [d1, d2] => { results := [.lit (.bool false)], args := [d1, d2] }
  | _ => none }
def BookVariantsWrongFalsely : Prop := bookVariantsRow.holds Tryz.pinned (OpenSpec.ofChange bookVariantsWrong)

/-- 'theorbolaw11.BookAgrees': WHATEVER THE INPUT: true; the input reads as it did. -/
def bookAgreesSpec : ChangeSpec := { name := "bookAgrees", fn := fun _ => fun
  | [d1, d2] => { results := [.lit (.bool true)], args := [d1, d2] }
  | _ => none }
def bookAgreesRow : OpenClaim := { program := "ytgelfflighgajaagreatdoor", sum := "e148375c78fca484208084317e03f66c4a19492e69d368a80925ac724ec5b13e", func := "theorbo/theorbolaw11.BookAgrees", spec := "bookAgrees", inPlace := ["internal/bytealg.IndexByteString", "internal/abi.NoEscape", "internal/bytealg.MakeNoZero"], unfollowed := true, recurses := true, named := ["theorbo/instrument.fifths", "theorbo/instrument.bases", "internal/strconv.uint64pow10", "math/bits.deBruijn32tab", "math/bits.deBruijn64tab"], plainKeys := false, apart := false, laid := [("math/bits.deBruijn32tab", laid_math_bits_deBruijn32tab), ("math/bits.deBruijn64tab", laid_math_bits_deBruijn64tab), ("internal/strconv.uint64pow10", laid_internal_strconv_uint64pow10), ("theorbo/instrument.bases", laid_theorbo_instrument_bases), ("theorbo/instrument.fifths", laid_theorbo_instrument_fifths)] }
def BookAgreesSaid : Prop := bookAgreesRow.holds Tryz.pinned (OpenSpec.ofChange bookAgreesSpec)

/-- ITS FALSE NEIGHBOUR: 'it returns false'. Refute it at one input. -/
def bookAgreesWrong : ChangeSpec := { name := "bookAgrees", fn := fun _ => fun
  | [d1, d2] => { results := [.lit (.bool false)], args := [d1, d2] }
  | _ => none }
def BookAgreesWrongFalsely : Prop := bookAgreesRow.holds Tryz.pinned (OpenSpec.ofChange bookAgreesWrong)

/-- 'theorbolaw11.BookUnanimous': WHATEVER THE INPUT: true; the input reads as it did. -/
def bookUnanimousSpec : ChangeSpec := { name := "bookUnanimous", fn := fun _ => fun
  | [d1, d2, d3] => { results := [.lit (.bool true)], args := [d1, d2, d3] }
  | _ => none }
def bookUnanimousRow : OpenClaim := { program := "ytgelfflighgajaagreatdoor", sum := "e148375c78fca484208084317e03f66c4a19492e69d368a80925ac724ec5b13e", func := "theorbo/theorbolaw11.BookUnanimous", spec := "bookUnanimous", inPlace := ["internal/bytealg.IndexByteString", "internal/abi.NoEscape", "internal/bytealg.MakeNoZero"], unfollowed := true, recurses := true, named := ["theorbo/instrument.fifths", "theorbo/instrument.bases", "internal/strconv.uint64pow10", "math/bits.deBruijn32tab", "math/bits.deBruijn64tab"], plainKeys := false, apart := false, laid := [("math/bits.deBruijn32tab", laid_math_bits_deBruijn32tab), ("math/bits.deBruijn64tab", laid_math_bits_deBruijn64tab), ("internal/strconv.uint64pow10", laid_internal_strconv_uint64pow10), ("theorbo/instrument.bases", laid_theorbo_instrument_bases), ("theorbo/instrument.fifths", laid_theorbo_instrument_fifths)] }
def BookUnanimousSaid : Prop := bookUnanimousRow.holds Tryz.pinned (OpenSpec.ofChange bookUnanimousSpec)

/-- ITS FALSE NEIGHBOUR: 'it returns false'. Refute it at one input. -/
def bookUnanimousWrong : ChangeSpec := { name := "bookUnanimous", fn := fun _ => fun
  | [d1, d2, d3] => { results := [.lit (.bool false)], args := [d1, d2, d3] }
  | _ => none }
def BookUnanimousWrongFalsely : Prop := bookUnanimousRow.holds Tryz.pinned (OpenSpec.ofChange bookUnanimousWrong)

/-- 'theorbolaw11.BookRestores': WHATEVER THE INPUT: true; the input reads as it did. -/
def bookRestoresSpec : ChangeSpec := { name := "bookRestores", fn := fun _ => fun
  | [d1, d2] => { results := [.lit (.bool true)], args := [d1, d2] }
  | _ => none }
def bookRestoresRow : OpenClaim := { program := "ytgelfflighgajaagreatdoor", sum := "e148375c78fca484208084317e03f66c4a19492e69d368a80925ac724ec5b13e", func := "theorbo/theorbolaw11.BookRestores", spec := "bookRestores", inPlace := ["internal/bytealg.IndexByteString", "internal/abi.NoEscape", "internal/bytealg.MakeNoZero"], unfollowed := true, recurses := true, named := ["theorbo/instrument.fifths", "theorbo/instrument.bases", "internal/strconv.uint64pow10", "math/bits.deBruijn32tab", "math/bits.deBruijn64tab"], plainKeys := false, apart := false, laid := [("math/bits.deBruijn32tab", laid_math_bits_deBruijn32tab), ("math/bits.deBruijn64tab", laid_math_bits_deBruijn64tab), ("internal/strconv.uint64pow10", laid_internal_strconv_uint64pow10), ("theorbo/instrument.bases", laid_theorbo_instrument_bases), ("theorbo/instrument.fifths", laid_theorbo_instrument_fifths)] }
def BookRestoresSaid : Prop := bookRestoresRow.holds Tryz.pinned (OpenSpec.ofChange bookRestoresSpec)

/-- ITS FALSE NEIGHBOUR: 'it returns false'. Refute it at one input. -/
def bookRestoresWrong : ChangeSpec := { name := "bookRestores", fn := fun _ => fun
  | [d1, d2] => { results := [.lit (.bool false)], args := [d1, d2] }
  | _ => none }
def BookRestoresWrongFalsely : Prop := bookRestoresRow.holds Tryz.pinned (OpenSpec.ofChange bookRestoresWrong)

/-- 'theorbolaw11.BookIndexes': WHATEVER THE INPUT: true; the input reads as it did. -/
def bookIndexesSpec : ChangeSpec := { name := "bookIndexes", fn := fun _ => fun
  | [d1, d2] => { results := [.lit (.bool true)], args := [d1, d2] }
  | _ => none }
def bookIndexesRow : OpenClaim := { program := "ytgelfflighgajaagreatdoor", sum := "e148375c78fca484208084317e03f66c4a19492e69d368a80925ac724ec5b13e", func := "theorbo/theorbolaw11.BookIndexes", spec := "bookIndexes", inPlace := ["internal/bytealg.IndexByteString", "internal/abi.NoEscape", "internal/bytealg.MakeNoZero"], unfollowed := true, recurses := true, named := ["theorbo/instrument.fifths", "theorbo/instrument.bases", "internal/strconv.uint64pow10", "math/bits.deBruijn32tab", "math/bits.deBruijn64tab"], plainKeys := false, apart := false, laid := [("math/bits.deBruijn32tab", laid_math_bits_deBruijn32tab), ("math/bits.deBruijn64tab", laid_math_bits_deBruijn64tab), ("internal/strconv.uint64pow10", laid_internal_strconv_uint64pow10), ("theorbo/instrument.bases", laid_theorbo_instrument_bases), ("theorbo/instrument.fifths", laid_theorbo_instrument_fifths)] }
def BookIndexesSaid : Prop := bookIndexesRow.holds Tryz.pinned (OpenSpec.ofChange bookIndexesSpec)

/-- ITS FALSE NEIGHBOUR: 'it returns false'. Refute it at one input. -/
def bookIndexesWrong : ChangeSpec := { name := "bookIndexes", fn := fun _ => fun
  | [d1, d2] => { results := [.lit (.bool false)], args := [d1, d2] }
  | _ => none }
def BookIndexesWrongFalsely : Prop := bookIndexesRow.holds Tryz.pinned (OpenSpec.ofChange bookIndexesWrong)

/-- 'theorbolaw11.BookTransposed': WHATEVER THE INPUT: true; the input reads as it did. -/
def bookTransposedSpec : ChangeSpec := { name := "bookTransposed", fn := fun _ => fun
  | [d1, d2, d3] => { results := [.lit (.bool true)], args := [d1, d2, d3] }
  | _ => none }
def bookTransposedRow : OpenClaim := { program := "ytgelfflighgajaagreatdoor", sum := "e148375c78fca484208084317e03f66c4a19492e69d368a80925ac724ec5b13e", func := "theorbo/theorbolaw11.BookTransposed", spec := "bookTransposed", inPlace := ["internal/bytealg.IndexByteString", "internal/abi.NoEscape", "internal/bytealg.MakeNoZero"], unfollowed := true, recurses := true, named := ["theorbo/instrument.fifths", "theorbo/instrument.bases", "internal/strconv.uint64pow10", "math/bits.deBruijn32tab", "math/bits.deBruijn64tab"], plainKeys := false, apart := false, laid := [("math/bits.deBruijn32tab", laid_math_bits_deBruijn32tab), ("math/bits.deBruijn64tab", laid_math_bits_deBruijn64tab), ("internal/strconv.uint64pow10", laid_internal_strconv_uint64pow10), ("theorbo/instrument.bases", laid_theorbo_instrument_bases), ("theorbo/instrument.fifths", laid_theorbo_instrument_fifths)] }
def BookTransposedSaid : Prop := bookTransposedRow.holds Tryz.pinned (OpenSpec.ofChange bookTransposedSpec)

/-- ITS FALSE NEIGHBOUR: 'it returns false'. Refute it at one input. -/
def bookTransposedWrong : ChangeSpec := { name := "bookTransposed", fn := fun _ => fun
  | [d1, d2, d3] => { results := [.lit (.bool false)], args := [d1, d2, d3] }
  | _ => none }
def BookTransposedWrongFalsely : Prop := bookTransposedRow.holds Tryz.pinned (OpenSpec.ofChange bookTransposedWrong)

/- THE SECOND FORM. 'bulk': how many values and letters a reading holds, each counted each time it is reached (what is shared counts as often as it is met; a slice's spare places count too). A statement '..UptoSaid' is the law's where the arguments, and the package variables that the reading takes, are together of bulk at most 1048576: NARROWER than '..Said'. Prove '..Said' where nothing that the law and all that it calls make is longer than what came in: it says more and counts as full. Else prove '..UptoSaid'. A law counts once. -/
mutual
def uptoBulk {H : Type} : DataW H → Nat
  | .lit (.string bytes) => bytes.length + 1
  | .lit _ => 1
  | .nil => 1
  | .ptr d => uptoBulk d + 1
  | .slice elems spare => uptoBulkAll elems + uptoBulkAll spare + 1
  | .agg parts => uptoBulkAll parts + 1
  | .iface _ d => uptoBulk d + 1
  | .map entries => uptoBulkEntries entries + 1
  | .held _ => 1
def uptoBulkAll {H : Type} : List (DataW H) → Nat
  | [] => 0
  | d :: r => uptoBulk d + uptoBulkAll r
def uptoBulkEntries {H : Type} : List (Lit × DataW H) → Nat
  | [] => 0
  | x :: r => uptoBulkEntry x + uptoBulkEntries r
def uptoBulkEntry {H : Type} : Lit × DataW H → Nat
  | (.string bytes, d) => bytes.length + uptoBulk d + 1
  | (_, d) => uptoBulk d + 1
 end
def uptoSmall : (H : Type) → List (DataW H) → Bool := fun _ ds => decide (uptoBulkAll ds ≤ 1048576)
def OpenSpec.upto (s : _root_.Go.ChangeSpec) : _root_.Go.OpenSpec := { _root_.Go.OpenSpec.ofChange s with cond := some uptoSmall }

/-- 'theorbolaw11.BookApplies', WHERE WHAT IT READS IS OF BULK AT MOST 1048576: true; the input reads as it did. -/
def bookAppliesUptoRow : OpenClaim := { program := "ytgelfflighgajaagreatdoor", sum := "e148375c78fca484208084317e03f66c4a19492e69d368a80925ac724ec5b13e", func := "theorbo/theorbolaw11.BookApplies", spec := "bookApplies", inPlace := ["internal/bytealg.IndexByteString", "internal/abi.NoEscape", "internal/bytealg.MakeNoZero"], unfollowed := true, recurses := true, named := ["theorbo/instrument.fifths", "theorbo/instrument.bases", "internal/strconv.uint64pow10", "math/bits.deBruijn32tab", "math/bits.deBruijn64tab"], plainKeys := false, apart := false, laid := [("math/bits.deBruijn32tab", laid_math_bits_deBruijn32tab), ("math/bits.deBruijn64tab", laid_math_bits_deBruijn64tab), ("internal/strconv.uint64pow10", laid_internal_strconv_uint64pow10), ("theorbo/instrument.bases", laid_theorbo_instrument_bases), ("theorbo/instrument.fifths", laid_theorbo_instrument_fifths)], narrowed := true }
def BookAppliesUptoSaid : Prop := bookAppliesUptoRow.holds Tryz.pinned (OpenSpec.upto bookAppliesSpec)

/-- 'theorbolaw11.BookSaves', WHERE WHAT IT READS IS OF BULK AT MOST 1048576: true; the input reads as it did. -/
def bookSavesUptoRow : OpenClaim := { program := "ytgelfflighgajaagreatdoor", sum := "e148375c78fca484208084317e03f66c4a19492e69d368a80925ac724ec5b13e", func := "theorbo/theorbolaw11.BookSaves", spec := "bookSaves", inPlace := ["internal/bytealg.IndexByteString", "internal/abi.NoEscape", "internal/bytealg.MakeNoZero"], unfollowed := true, recurses := true, named := ["theorbo/instrument.fifths", "theorbo/instrument.bases", "internal/strconv.uint64pow10", "math/bits.deBruijn32tab", "math/bits.deBruijn64tab"], plainKeys := false, apart := false, laid := [("math/bits.deBruijn32tab", laid_math_bits_deBruijn32tab), ("math/bits.deBruijn64tab", laid_math_bits_deBruijn64tab), ("internal/strconv.uint64pow10", laid_internal_strconv_uint64pow10), ("theorbo/instrument.bases", laid_theorbo_instrument_bases), ("theorbo/instrument.fifths", laid_theorbo_instrument_fifths)], narrowed := true }
def BookSavesUptoSaid : Prop := bookSavesUptoRow.holds Tryz.pinned (OpenSpec.upto bookSavesSpec)

/-- 'theorbolaw11.BookCollates', WHERE WHAT IT READS IS OF BULK AT MOST 1048576: true; the input reads as it did. -/
def bookCollatesUptoRow : OpenClaim := { program := "ytgelfflighgajaagreatdoor", sum := "e148375c78fca484208084317e03f66c4a19492e69d368a80925ac724ec5b13e", func := "theorbo/theorbolaw11.BookCollates", spec := "bookCollates", inPlace := ["internal/bytealg.IndexByteString", "internal/abi.NoEscape", "internal/bytealg.MakeNoZero"], unfollowed := true, recurses := true, named := ["theorbo/instrument.fifths", "theorbo/instrument.bases", "internal/strconv.uint64pow10", "math/bits.deBruijn32tab", "math/bits.deBruijn64tab"], plainKeys := false, apart := false, laid := [("math/bits.deBruijn32tab", laid_math_bits_deBruijn32tab), ("math/bits.deBruijn64tab", laid_math_bits_deBruijn64tab), ("internal/strconv.uint64pow10", laid_internal_strconv_uint64pow10), ("theorbo/instrument.bases", laid_theorbo_instrument_bases), ("theorbo/instrument.fifths", laid_theorbo_instrument_fifths)], narrowed := true }
def BookCollatesUptoSaid : Prop := bookCollatesUptoRow.holds Tryz.pinned (OpenSpec.upto bookCollatesSpec)

/-- 'theorbolaw11.BookAligned', WHERE WHAT IT READS IS OF BULK AT MOST 1048576: true; the input reads as it did. -/
def bookAlignedUptoRow : OpenClaim := { program := "ytgelfflighgajaagreatdoor", sum := "e148375c78fca484208084317e03f66c4a19492e69d368a80925ac724ec5b13e", func := "theorbo/theorbolaw11.BookAligned", spec := "bookAligned", inPlace := ["internal/bytealg.IndexByteString", "internal/abi.NoEscape", "internal/bytealg.MakeNoZero"], unfollowed := true, recurses := true, named := ["theorbo/instrument.fifths", "theorbo/instrument.bases", "internal/strconv.uint64pow10", "math/bits.deBruijn32tab", "math/bits.deBruijn64tab"], plainKeys := false, apart := false, laid := [("math/bits.deBruijn32tab", laid_math_bits_deBruijn32tab), ("math/bits.deBruijn64tab", laid_math_bits_deBruijn64tab), ("internal/strconv.uint64pow10", laid_internal_strconv_uint64pow10), ("theorbo/instrument.bases", laid_theorbo_instrument_bases), ("theorbo/instrument.fifths", laid_theorbo_instrument_fifths)], narrowed := true }
def BookAlignedUptoSaid : Prop := bookAlignedUptoRow.holds Tryz.pinned (OpenSpec.upto bookAlignedSpec)

/-- 'theorbolaw11.BookDraws', WHERE WHAT IT READS IS OF BULK AT MOST 1048576: true; the input reads as it did. -/
def bookDrawsUptoRow : OpenClaim := { program := "ytgelfflighgajaagreatdoor", sum := "e148375c78fca484208084317e03f66c4a19492e69d368a80925ac724ec5b13e", func := "theorbo/theorbolaw11.BookDraws", spec := "bookDraws", inPlace := ["internal/bytealg.IndexByteString", "internal/abi.NoEscape", "internal/bytealg.MakeNoZero"], unfollowed := true, recurses := true, named := ["theorbo/instrument.fifths", "theorbo/instrument.bases", "internal/strconv.uint64pow10", "math/bits.deBruijn32tab", "math/bits.deBruijn64tab"], plainKeys := false, apart := false, laid := [("math/bits.deBruijn32tab", laid_math_bits_deBruijn32tab), ("math/bits.deBruijn64tab", laid_math_bits_deBruijn64tab), ("internal/strconv.uint64pow10", laid_internal_strconv_uint64pow10), ("theorbo/instrument.bases", laid_theorbo_instrument_bases), ("theorbo/instrument.fifths", laid_theorbo_instrument_fifths)], narrowed := true }
def BookDrawsUptoSaid : Prop := bookDrawsUptoRow.holds Tryz.pinned (OpenSpec.upto bookDrawsSpec)

/-- 'theorbolaw11.BookVariants', WHERE WHAT IT READS IS OF BULK AT MOST 1048576: true; the input reads as it did. -/
def bookVariantsUptoRow : OpenClaim := { program := "ytgelfflighgajaagreatdoor", sum := "e148375c78fca484208084317e03f66c4a19492e69d368a80925ac724ec5b13e", func := "theorbo/theorbolaw11.BookVariants", spec := "bookVariants", inPlace := ["internal/bytealg.IndexByteString", "internal/abi.NoEscape", "internal/bytealg.MakeNoZero"], unfollowed := true, recurses := true, named := ["theorbo/instrument.fifths", "theorbo/instrument.bases", "internal/strconv.uint64pow10", "math/bits.deBruijn32tab", "math/bits.deBruijn64tab"], plainKeys := false, apart := false, laid := [("math/bits.deBruijn32tab", laid_math_bits_deBruijn32tab), ("math/bits.deBruijn64tab", laid_math_bits_deBruijn64tab), ("internal/strconv.uint64pow10", laid_internal_strconv_uint64pow10), ("theorbo/instrument.bases", laid_theorbo_instrument_bases), ("theorbo/instrument.fifths", laid_theorbo_instrument_fifths)], narrowed := true }
def BookVariantsUptoSaid : Prop := bookVariantsUptoRow.holds Tryz.pinned (OpenSpec.upto bookVariantsSpec)

/-- 'theorbolaw11.BookAgrees', WHERE WHAT IT READS IS OF BULK AT MOST 1048576: true; the input reads as it did. -/
def bookAgreesUptoRow : OpenClaim := { program := "ytgelfflighgajaagreatdoor", sum := "e148375c78fca484208084317e03f66c4a19492e69d368a80925ac724ec5b13e", func := "theorbo/theorbolaw11.BookAgrees", spec := "bookAgrees", inPlace := ["internal/bytealg.IndexByteString", "internal/abi.NoEscape", "internal/bytealg.MakeNoZero"], unfollowed := true, recurses := true, named := ["theorbo/instrument.fifths", "theorbo/instrument.bases", "internal/strconv.uint64pow10", "math/bits.deBruijn32tab", "math/bits.deBruijn64tab"], plainKeys := false, apart := false, laid := [("math/bits.deBruijn32tab", laid_math_bits_deBruijn32tab), ("math/bits.deBruijn64tab", laid_math_bits_deBruijn64tab), ("internal/strconv.uint64pow10", laid_internal_strconv_uint64pow10), ("theorbo/instrument.bases", laid_theorbo_instrument_bases), ("theorbo/instrument.fifths", laid_theorbo_instrument_fifths)], narrowed := true }
def BookAgreesUptoSaid : Prop := bookAgreesUptoRow.holds Tryz.pinned (OpenSpec.upto bookAgreesSpec)

/-- 'theorbolaw11.BookUnanimous', WHERE WHAT IT READS IS OF BULK AT MOST 1048576: true; the input reads as it did. -/
def bookUnanimousUptoRow : OpenClaim := { program := "ytgelfflighgajaagreatdoor", sum := "e148375c78fca484208084317e03f66c4a19492e69d368a80925ac724ec5b13e", func := "theorbo/theorbolaw11.BookUnanimous", spec := "bookUnanimous", inPlace := ["internal/bytealg.IndexByteString", "internal/abi.NoEscape", "internal/bytealg.MakeNoZero"], unfollowed := true, recurses := true, named := ["theorbo/instrument.fifths", "theorbo/instrument.bases", "internal/strconv.uint64pow10", "math/bits.deBruijn32tab", "math/bits.deBruijn64tab"], plainKeys := false, apart := false, laid := [("math/bits.deBruijn32tab", laid_math_bits_deBruijn32tab), ("math/bits.deBruijn64tab", laid_math_bits_deBruijn64tab), ("internal/strconv.uint64pow10", laid_internal_strconv_uint64pow10), ("theorbo/instrument.bases", laid_theorbo_instrument_bases), ("theorbo/instrument.fifths", laid_theorbo_instrument_fifths)], narrowed := true }
def BookUnanimousUptoSaid : Prop := bookUnanimousUptoRow.holds Tryz.pinned (OpenSpec.upto bookUnanimousSpec)

/-- 'theorbolaw11.BookRestores', WHERE WHAT IT READS IS OF BULK AT MOST 1048576: true; the input reads as it did. -/
def bookRestoresUptoRow : OpenClaim := { program := "ytgelfflighgajaagreatdoor", sum := "e148375c78fca484208084317e03f66c4a19492e69d368a80925ac724ec5b13e", func := "theorbo/theorbolaw11.BookRestores", spec := "bookRestores", inPlace := ["internal/bytealg.IndexByteString", "internal/abi.NoEscape", "internal/bytealg.MakeNoZero"], unfollowed := true, recurses := true, named := ["theorbo/instrument.fifths", "theorbo/instrument.bases", "internal/strconv.uint64pow10", "math/bits.deBruijn32tab", "math/bits.deBruijn64tab"], plainKeys := false, apart := false, laid := [("math/bits.deBruijn32tab", laid_math_bits_deBruijn32tab), ("math/bits.deBruijn64tab", laid_math_bits_deBruijn64tab), ("internal/strconv.uint64pow10", laid_internal_strconv_uint64pow10), ("theorbo/instrument.bases", laid_theorbo_instrument_bases), ("theorbo/instrument.fifths", laid_theorbo_instrument_fifths)], narrowed := true }
def BookRestoresUptoSaid : Prop := bookRestoresUptoRow.holds Tryz.pinned (OpenSpec.upto bookRestoresSpec)

/-- 'theorbolaw11.BookIndexes', WHERE WHAT IT READS IS OF BULK AT MOST 1048576: true; the input reads as it did. -/
def bookIndexesUptoRow : OpenClaim := { program := "ytgelfflighgajaagreatdoor", sum := "e148375c78fca484208084317e03f66c4a19492e69d368a80925ac724ec5b13e", func := "theorbo/theorbolaw11.BookIndexes", spec := "bookIndexes", inPlace := ["internal/bytealg.IndexByteString", "internal/abi.NoEscape", "internal/bytealg.MakeNoZero"], unfollowed := true, recurses := true, named := ["theorbo/instrument.fifths", "theorbo/instrument.bases", "internal/strconv.uint64pow10", "math/bits.deBruijn32tab", "math/bits.deBruijn64tab"], plainKeys := false, apart := false, laid := [("math/bits.deBruijn32tab", laid_math_bits_deBruijn32tab), ("math/bits.deBruijn64tab", laid_math_bits_deBruijn64tab), ("internal/strconv.uint64pow10", laid_internal_strconv_uint64pow10), ("theorbo/instrument.bases", laid_theorbo_instrument_bases), ("theorbo/instrument.fifths", laid_theorbo_instrument_fifths)], narrowed := true }
def BookIndexesUptoSaid : Prop := bookIndexesUptoRow.holds Tryz.pinned (OpenSpec.upto bookIndexesSpec)

/-- 'theorbolaw11.BookTransposed', WHERE WHAT IT READS IS OF BULK AT MOST 1048576: true; the input reads as it did. -/
def bookTransposedUptoRow : OpenClaim := { program := "ytgelfflighgajaagreatdoor", sum := "e148375c78fca484208084317e03f66c4a19492e69d368a80925ac724ec5b13e", func := "theorbo/theorbolaw11.BookTransposed", spec := "bookTransposed", inPlace := ["internal/bytealg.IndexByteString", "internal/abi.NoEscape", "internal/bytealg.MakeNoZero"], unfollowed := true, recurses := true, named := ["theorbo/instrument.fifths", "theorbo/instrument.bases", "internal/strconv.uint64pow10", "math/bits.deBruijn32tab", "math/bits.deBruijn64tab"], plainKeys := false, apart := false, laid := [("math/bits.deBruijn32tab", laid_math_bits_deBruijn32tab), ("math/bits.deBruijn64tab", laid_math_bits_deBruijn64tab), ("internal/strconv.uint64pow10", laid_internal_strconv_uint64pow10), ("theorbo/instrument.bases", laid_theorbo_instrument_bases), ("theorbo/instrument.fifths", laid_theorbo_instrument_fifths)], narrowed := true }
def BookTransposedUptoSaid : Prop := bookTransposedUptoRow.holds Tryz.pinned (OpenSpec.upto bookTransposedSpec)

end Rows
end Go.Proofs.YtgelfflighgajaaGreatDoor
