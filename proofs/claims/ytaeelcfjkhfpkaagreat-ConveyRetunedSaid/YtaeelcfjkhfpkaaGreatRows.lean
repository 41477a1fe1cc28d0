/-
  No cell of these rows narrows 'for every input' (looked for: loops, veiled, ifaces, maps, wideKeys, modest, calm, conditions, laid).
  DERIVED. THE GIVEN ROWS OF THIS SEAT. 10 by the template 'for every input the law returns true; each argument reads behind the call as it read before'; 0 by the template 'total and deterministic' (their statements: YtaeelcfjkhfpkaaGreatTotals.lean).
  GIVEN WITH THE SEED: the statements are not yours to turn. If you find one false, say at which input.
  Laid BY PROGRAM, IN A SANDBOX (cutbox-rows.mjs): the forced cells as the released guide's own fill.sh prints them over the translation ae4db697ffdd8c10… (all of the seat's roots in one cut). By AI agents, Wed Nov 11 2026. No macro, syntax, notation, axiom, sorry.
-/
import Derived.Test.YtaeelcfjkhfpkaaGreatChecked
import GoSem.Claim
import GoSem.ClaimJoined
import GoSem.ClaimMapViews
import Derived.JoinedTies
import Derived.KernelRfl
namespace Go.Proofs.YtaeelcfjkhfpkaaGreat
/- THE CELL 'sum', in the pinned program and in every row, IS THE sha256 OF THE DUMP (.gsa) THAT YtaeelcfjkhfpkaaGreatProg.lean LOADS. Nothing in Lean hashes anything: it is a label: what it is worth is what the hold of that sum in a sandbox is worth. -/
noncomputable def Tryz.pinned : Pinned := { name := "ytaeelcfjkhfpkaagreat", sum := "ae4db697ffdd8c100802336f113577f3ed05b13e0e4b2c51bbeb61acdb4e4ecc", checked := Tryz.checked }
namespace Rows
def none {H : Type} : Left H := { results := [], args := [] }

/-- 'theorbolaw04.ConveyReduces': WHATEVER THE INPUT: true; the input reads as it did. -/
def conveyReducesSpec : ChangeSpec := { name := "conveyReduces", fn := fun _ => fun
  | [d1, d2] => { results := [.lit (.bool true)], args := [d1, d2] }
  | _ => none }
def conveyReducesRow : OpenClaim := { program := "ytaeelcfjkhfpkaagreat", sum := "ae4db697ffdd8c100802336f113577f3ed05b13e0e4b2c51bbeb61acdb4e4ecc", func := "theorbo/theorbolaw04.ConveyReduces", spec := "conveyReduces", unfollowed := true, recurses := true, apart := false }
def ConveyReducesSaid : Prop := conveyReducesRow.holds Tryz.pinned (OpenSpec.ofChange conveyReducesSpec)

/-- ITS FALSE NEIGHBOUR: 'it returns false'. Refute it at one input. -/
def conveyReducesWrong : ChangeSpec := { name := "conveyReduces", fn := fun _ => fun
  | [d1, d2] => { results := [.lit (.bool false)], args := [d1, d2] }
  | _ => none }
def ConveyReducesWrongFalsely : Prop := conveyReducesRow.holds Tryz.pinned (OpenSpec.ofChange conveyReducesWrong)

/-- 'theorbolaw04.ConveyDeclares': WHATEVER THE INPUT: true; the input reads as it did. -/
def conveyDeclaresSpec : ChangeSpec := { name := "conveyDeclares", fn := fun _ => fun
  | [d1, d2] => { results := [.lit (.bool true)], args := [d1, d2] }
  | _ => none }
def conveyDeclaresRow : OpenClaim := { program := "ytaeelcfjkhfpkaagreat", sum := "ae4db697ffdd8c100802336f113577f3ed05b13e0e4b2c51bbeb61acdb4e4ecc", func := "theorbo/theorbolaw04.ConveyDeclares", spec := "conveyDeclares", unfollowed := true, recurses := true, apart := false }
def ConveyDeclaresSaid : Prop := conveyDeclaresRow.holds Tryz.pinned (OpenSpec.ofChange conveyDeclaresSpec)

/-- ITS FALSE NEIGHBOUR: 'it returns false'. Refute it at one input. -/
def conveyDeclaresWrong : ChangeSpec := { name := "conveyDeclares", fn := fun _ => fun
  | [d1, d2] => { results := [.lit (.bool false)], args := [d1, d2] }
  | _ => none }
def ConveyDeclaresWrongFalsely : Prop := conveyDeclaresRow.holds Tryz.pinned (OpenSpec.ofChange conveyDeclaresWrong)

/-- 'theorbolaw04.ConveyCapos': WHATEVER THE INPUT: true; the input reads as it did. -/
def conveyCaposSpec : ChangeSpec := { name := "conveyCapos", fn := fun _ => fun
  | [d1, d2] => { results := [.lit (.bool true)], args := [d1, d2] }
  | _ => none }
def conveyCaposRow : OpenClaim := { program := "ytaeelcfjkhfpkaagreat", sum := "ae4db697ffdd8c100802336f113577f3ed05b13e0e4b2c51bbeb61acdb4e4ecc", func := "theorbo/theorbolaw04.ConveyCapos", spec := "conveyCapos", unfollowed := true, recurses := true, apart := false }
def ConveyCaposSaid : Prop := conveyCaposRow.holds Tryz.pinned (OpenSpec.ofChange conveyCaposSpec)

/-- ITS FALSE NEIGHBOUR: 'it returns false'. Refute it at one input. -/
def conveyCaposWrong : ChangeSpec := { name := "conveyCapos", fn := fun _ => fun
  | [d1, d2] => { results := [.lit (.bool false)], args := [d1, d2] }
  | _ => none }
def ConveyCaposWrongFalsely : Prop := conveyCaposRow.holds Tryz.pinned (OpenSpec.ofChange conveyCaposWrong)

/-- 'theorbolaw04.ConveySystems': WHATEVER THE INPUT: true; the input reads as it did. -/
def conveySystemsSpec : ChangeSpec := { name := "conveySystems", fn := fun _ => fun
  | [d] => { results := [.lit (.bool true)], args := [d] }
  | _ => none }
def conveySystemsRow : OpenClaim := { program := "ytaeelcfjkhfpkaagreat", sum := "ae4db697ffdd8c100802336f113577f3ed05b13e0e4b2c51bbeb61acdb4e4ecc", func := "theorbo/theorbolaw04.ConveySystems", spec := "conveySystems", unfollowed := true, recurses := true, apart := false }
def ConveySystemsSaid : Prop := conveySystemsRow.holds Tryz.pinned (OpenSpec.ofChange conveySystemsSpec)

/-- ITS FALSE NEIGHBOUR: 'it returns false'. Refute it at one input. -/
def conveySystemsWrong : ChangeSpec := { name := "conveySystems", fn := fun _ => fun
  | [d] => { results := [.lit (.bool false)], args := [d] }
  | _ => none }
def ConveySystemsWrongFalsely : Prop := conveySystemsRow.holds Tryz.pinned (OpenSpec.ofChange conveySystemsWrong)

/-- 'theorbolaw04.ConveyReduced': WHATEVER THE INPUT: true; the input reads as it did. -/
def conveyReducedSpec : ChangeSpec := { name := "conveyReduced", fn := fun _ => fun
  | [d1, d2] => { results := [.lit (.bool true)], args := [d1, d2] }
  | _ => none }
def conveyReducedRow : OpenClaim := { program := "ytaeelcfjkhfpkaagreat", sum := "ae4db697ffdd8c100802336f113577f3ed05b13e0e4b2c51bbeb61acdb4e4ecc", func := "theorbo/theorbolaw04.ConveyReduced", spec := "conveyReduced", unfollowed := true, recurses := true, apart := false }
def ConveyReducedSaid : Prop := conveyReducedRow.holds Tryz.pinned (OpenSpec.ofChange conveyReducedSpec)

/-- ITS FALSE NEIGHBOUR: 'it returns false'. Refute it at one input. -/
def conveyReducedWrong : ChangeSpec := { name := "conveyReduced", fn := fun _ => fun
  | [d1, d2] => { results := [.lit (.bool false)], args := [d1, d2] }
  | _ => none }
def ConveyReducedWrongFalsely : Prop := conveyReducedRow.holds Tryz.pinned (OpenSpec.ofChange conveyReducedWrong)

/-- 'theorbolaw04.ConveyReleases': WHATEVER THE INPUT: true; the input reads as it did. -/
def conveyReleasesSpec : ChangeSpec := { name := "conveyReleases", fn := fun _ => fun
  | [d1, d2, d3] => { results := [.lit (.bool true)], args := [d1, d2, d3] }
  | _ => none }
def conveyReleasesRow : OpenClaim := { program := "ytaeelcfjkhfpkaagreat", sum := "ae4db697ffdd8c100802336f113577f3ed05b13e0e4b2c51bbeb61acdb4e4ecc", func := "theorbo/theorbolaw04.ConveyReleases", spec := "conveyReleases", unfollowed := true, recurses := true, apart := false }
def ConveyReleasesSaid : Prop := conveyReleasesRow.holds Tryz.pinned (OpenSpec.ofChange conveyReleasesSpec)

/-- ITS FALSE NEIGHBOUR: 'it returns false'. Refute it at one input. -/
def conveyReleasesWrong : ChangeSpec := { name := "conveyReleases", fn := fun _ => fun
  | [d1, d2, d3] => { results := [.lit (.bool false)], args := [d1, d2, d3] }
  | _ => none }
def ConveyReleasesWrongFalsely : Prop := conveyReleasesRow.holds Tryz.pinned (OpenSpec.ofChange conveyReleasesWrong)

/-- 'theorbolaw04.ConveySlides': WHATEVER THE INPUT: true; the input reads as it did. -/
def conveySlidesSpec : ChangeSpec := { name := "conveySlides", fn := fun _ => fun
  | [d1, d2] => { results := [.lit (.bool true)], args := [d1, d2] }
  | _ => none }
def conveySlidesRow : OpenClaim := { program := "ytaeelcfjkhfpkaagreat", sum := "ae4db697ffdd8c100802336f113577f3ed05b13e0e4b2c51bbeb61acdb4e4ecc", func := "theorbo/theorbolaw04.ConveySlides", spec := "conveySlides", unfollowed := true, recurses := true, apart := false }
def ConveySlidesSaid : Prop := conveySlidesRow.holds Tryz.pinned (OpenSpec.ofChange conveySlidesSpec)

/-- ITS FALSE NEIGHBOUR: 'it returns false'. Refute it at one input. -/
def conveySlidesWrong : ChangeSpec := { name := "conveySlides", fn := fun _ => fun
  | [d1, d2] => { results := [.lit (.bool false)], args := [d1, d2] }
  | _ => none }
def ConveySlidesWrongFalsely : Prop := conveySlidesRow.holds Tryz.pinned (OpenSpec.ofChange conveySlidesWrong)

/-- 'theorbolaw04.ConveyRetunes': WHATEVER THE INPUT: true; the input reads as it did. -/
def conveyRetunesSpec : ChangeSpec := { name := "conveyRetunes", fn := fun _ => fun
  | [d1, d2, d3] => { results := [.lit (.bool true)], args := [d1, d2, d3] }
  | _ => none }
def conveyRetunesRow : OpenClaim := { program := "ytaeelcfjkhfpkaagreat", sum := "ae4db697ffdd8c100802336f113577f3ed05b13e0e4b2c51bbeb61acdb4e4ecc", func := "theorbo/theorbolaw04.ConveyRetunes", spec := "conveyRetunes", unfollowed := true, recurses := true, apart := false }
def ConveyRetunesSaid : Prop := conveyRetunesRow.holds Tryz.pinned (OpenSpec.ofChange conveyRetunesSpec)

/-- ITS FALSE NEIGHBOUR: 'it returns false'. Refute it at one input. -/
def conveyRetunesWrong : ChangeSpec := { name := "conveyRetunes", fn := fun _ => fun
  | [d1, d2, d3] => { results := [.lit (.bool false)], args := [d1, d2, d3] }
  | _ => none }
def ConveyRetunesWrongFalsely : Prop := conveyRetunesRow.holds Tryz.pinned (OpenSpec.ofChange conveyRetunesWrong)

/-- 'theorbolaw04.ConveyRetuned': WHATEVER THE INPUT: true; the input reads as it did. -/
def conveyRetunedSpec : ChangeSpec := { name := "conveyRetuned", fn := fun _ => fun
  | [d1, d2, d3] => { results := [.lit (.bool true)], args := [d1, d2, d3] }
  | _ => none }
def conveyRetunedRow : OpenClaim := { program := "ytaeelcfjkhfpkaagreat", sum := "ae4db697ffdd8c100802336f113577f3ed05b13e0e4b2c51bbeb61acdb4e4ecc", func := "theorbo/theorbolaw04.ConveyRetuned", spec := "conveyRetuned", unfollowed := true, recurses := true, apart := false }
def ConveyRetunedSaid : Prop := conveyRetunedRow.holds Tryz.pinned (OpenSpec.ofChange conveyRetunedSpec)

/-- ITS FALSE NEIGHBOUR: 'it returns false'. Refute it at one input. -/
def conveyRetunedWrong : ChangeSpec := { name := "conveyRetuned", fn := fun _ => fun
  | [d1, d2, d3] => { results := [.lit (.bool false)], args := [d1, d2, d3] }
  | _ => none }
def ConveyRetunedWrongFalsely : Prop := conveyRetunedRow.holds Tryz.pinned (OpenSpec.ofChange conveyRetunedWrong)

/-- 'theorbolaw04.ConveyCapoed': WHATEVER THE INPUT: true; the input reads as it did. -/
def conveyCapoedSpec : ChangeSpec := { name := "conveyCapoed", fn := fun _ => fun
  | [d1, d2] => { results := [.lit (.bool true)], args := [d1, d2] }
  | _ => none }
def conveyCapoedRow : OpenClaim := { program := "ytaeelcfjkhfpkaagreat", sum := "ae4db697ffdd8c100802336f113577f3ed05b13e0e4b2c51bbeb61acdb4e4ecc", func := "theorbo/theorbolaw04.ConveyCapoed", spec := "conveyCapoed", unfollowed := true, recurses := true, apart := false }
def ConveyCapoedSaid : Prop := conveyCapoedRow.holds Tryz.pinned (OpenSpec.ofChange conveyCapoedSpec)

/-- ITS FALSE NEIGHBOUR: 'it returns false'. Refute it at one input. -/
def conveyCapoedWrong : ChangeSpec := { name := "conveyCapoed", fn := fun _ => fun
  | [d1, d2] => { results := [.lit (.bool false)], args := [d1, d2] }
  | _ => none }
def ConveyCapoedWrongFalsely : Prop := conveyCapoedRow.holds Tryz.pinned (OpenSpec.ofChange conveyCapoedWrong)

/- THE SECOND FORM. 'bulk': how many values and letters a reading holds, each counted each time it is reached (what is shared counts as often as it is met; a slice's spare places count too). A statement '..UptoSaid' is the law's where the arguments, and the package variables that the reading takes, are together of bulk at most 1048576: NARROWER than '..Said'. Prove '..Said' where nothing that the law and all that it calls make is longer than what came in: it says more and counts as full. Else prove '..UptoSaid'. A law counts once. -/
mutual
def uptoBulk {H : Type} : DataW H → Nat
  | .lit (.string bytes) => bytes.length + 1
  | .lit _ => 1
  | .nil => 1
  | .ptr d => uptoBulk d + 1
  | .slice elems spare => uptoBulkAll elems + uptoBulkAll spare + 1
  | .agg parts => uptoBulkAll parts + 1
  | .iface _ d => uptoBulk d + 1
  | .map entries => uptoBulkEntries entries + 1
  | .held _ => 1
def uptoBulkAll {H : Type} : List (DataW H) → Nat
  | [] => 0
  | d :: r => uptoBulk d + uptoBulkAll r
def uptoBulkEntries {H : Type} : List (Lit × DataW H) → Nat
  | [] => 0
  | x :: r => uptoBulkEntry x + uptoBulkEntries r
def uptoBulkEntry {H : Type} : Lit × DataW H → Nat
  | (.string bytes, d) => bytes.length + uptoBulk d + 1
  | (_, d) => uptoBulk d + 1
 end
def uptoSmall : (H : Type) → List (DataW H) → Bool := fun _ ds => decide (uptoBulkAll ds ≤ 1048576)
def OpenSpec.upto (s : _root_.Go.ChangeSpec) : _root_.Go.OpenSpec := { _root_.Go.OpenSpec.ofChange s with cond := some uptoSmall }

/-- 'theorbolaw04.ConveyReduces', WHERE WHAT IT READS IS OF BULK AT MOST 1048576: true; the input reads as it did. -/
def conveyReducesUptoRow : OpenClaim := { program := "ytaeelcfjkhfpkaagreat", sum := "ae4db697ffdd8c100802336f113577f3ed05b13e0e4b2c51bbeb61acdb4e4ecc", func := "theorbo/theorbolaw04.ConveyReduces", spec := "conveyReduces", unfollowed := true, recurses := true, apart := false, narrowed := true }
def ConveyReducesUptoSaid : Prop := conveyReducesUptoRow.holds Tryz.pinned (OpenSpec.upto conveyReducesSpec)

/-- 'theorbolaw04.ConveyDeclares', WHERE WHAT IT READS IS OF BULK AT MOST 1048576: true; the input reads as it did. -/
def conveyDeclaresUptoRow : OpenClaim := { program := "ytaeelcfjkhfpkaagreat", sum := "ae4db697ffdd8c100802336f113577f3ed05b13e0e4b2c51bbeb61acdb4e4ecc", func := "theorbo/theorbolaw04.ConveyDeclares", spec := "conveyDeclares", unfollowed := true, recurses := true, apart := false, narrowed := true }
def ConveyDeclaresUptoSaid : Prop := conveyDeclaresUptoRow.holds Tryz.pinned (OpenSpec.upto conveyDeclaresSpec)

/-- 'theorbolaw04.ConveyCapos', WHERE WHAT IT READS IS OF BULK AT MOST 1048576: true; the input reads as it did. -/
def conveyCaposUptoRow : OpenClaim := { program := "ytaeelcfjkhfpkaagreat", sum := "ae4db697ffdd8c100802336f113577f3ed05b13e0e4b2c51bbeb61acdb4e4ecc", func := "theorbo/theorbolaw04.ConveyCapos", spec := "conveyCapos", unfollowed := true, recurses := true, apart := false, narrowed := true }
def ConveyCaposUptoSaid : Prop := conveyCaposUptoRow.holds Tryz.pinned (OpenSpec.upto conveyCaposSpec)

/-- 'theorbolaw04.ConveySystems', WHERE WHAT IT READS IS OF BULK AT MOST 1048576: true; the input reads as it did. -/
def conveySystemsUptoRow : OpenClaim := { program := "ytaeelcfjkhfpkaagreat", sum := "ae4db697ffdd8c100802336f113577f3ed05b13e0e4b2c51bbeb61acdb4e4ecc", func := "theorbo/theorbolaw04.ConveySystems", spec := "conveySystems", unfollowed := true, recurses := true, apart := false, narrowed := true }
def ConveySystemsUptoSaid : Prop := conveySystemsUptoRow.holds Tryz.pinned (OpenSpec.upto conveySystemsSpec)

/-- 'theorbolaw04.ConveyReduced', WHERE WHAT IT READS IS OF BULK AT MOST 1048576: true; the input reads as it did. -/
def conveyReducedUptoRow : OpenClaim := { program := "ytaeelcfjkhfpkaagreat", sum := "ae4db697ffdd8c100802336f113577f3ed05b13e0e4b2c51bbeb61acdb4e4ecc", func := "theorbo/theorbolaw04.ConveyReduced", spec := "conveyReduced", unfollowed := true, recurses := true, apart := false, narrowed := true }
def ConveyReducedUptoSaid : Prop := conveyReducedUptoRow.holds Tryz.pinned (OpenSpec.upto conveyReducedSpec)

/-- 'theorbolaw04.ConveyReleases', WHERE WHAT IT READS IS OF BULK AT MOST 1048576: true; the input reads as it did. -/
def conveyReleasesUptoRow : OpenClaim := { program := "ytaeelcfjkhfpkaagreat", sum := "ae4db697ffdd8c100802336f113577f3ed05b13e0e4b2c51bbeb61acdb4e4ecc", func := "theorbo/theorbolaw04.ConveyReleases", spec := "conveyReleases", unfollowed := true, recurses := true, apart := false, narrowed := true }
def ConveyReleasesUptoSaid : Prop := conveyReleasesUptoRow.holds Tryz.pinned (OpenSpec.upto conveyReleasesSpec)

/-- 'theorbolaw04.ConveySlides', WHERE WHAT IT READS IS OF BULK AT MOST 1048576: true; the input reads as it did. -/
def conveySlidesUptoRow : OpenClaim := { program := "ytaeelcfjkhfpkaagreat", sum := "ae4db697ffdd8c100802336f113577f3ed05b13e0e4b2c51bbeb61acdb4e4ecc", func := "theorbo/theorbolaw04.ConveySlides", spec := "conveySlides", unfollowed := true, recurses := true, apart := false, narrowed := true }
def ConveySlidesUptoSaid : Prop := conveySlidesUptoRow.holds Tryz.pinned (OpenSpec.upto conveySlidesSpec)

/-- 'theorbolaw04.ConveyRetunes', WHERE WHAT IT READS IS OF BULK AT MOST 1048576: true; the input reads as it did. -/
def conveyRetunesUptoRow : OpenClaim := { program := "ytaeelcfjkhfpkaagreat", sum := "ae4db697ffdd8c100802336f113577f3ed05b13e0e4b2c51bbeb61acdb4e4ecc", func := "theorbo/theorbolaw04.ConveyRetunes", spec := "conveyRetunes", unfollowed := true, recurses := true, apart := false, narrowed := true }
def ConveyRetunesUptoSaid : Prop := conveyRetunesUptoRow.holds Tryz.pinned (OpenSpec.upto conveyRetunesSpec)

/-- 'theorbolaw04.ConveyRetuned', WHERE WHAT IT READS IS OF BULK AT MOST 1048576: true; the input reads as it did. -/
def conveyRetunedUptoRow : OpenClaim := { program := "ytaeelcfjkhfpkaagreat", sum := "ae4db697ffdd8c100802336f113577f3ed05b13e0e4b2c51bbeb61acdb4e4ecc", func := "theorbo/theorbolaw04.ConveyRetuned", spec := "conveyRetuned", unfollowed := true, recurses := true, apart := false, narrowed := true }
def ConveyRetunedUptoSaid : Prop := conveyRetunedUptoRow.holds Tryz.pinned (OpenSpec.upto conveyRetunedSpec)

/-- 'theorbolaw04.ConveyCapoed', WHERE WHAT IT READS IS OF BULK AT MOST 1048576: true; the input reads as it did. -/
def conveyCapoedUptoRow : OpenClaim := { program := "ytaeelcfjkhfpkaagreat", sum := "ae4db697ffdd8c100802336f113577f3ed05b13e0e4b2c51bbeb61acdb4e4ecc", func := "theorbo/theorbolaw04.ConveyCapoed", spec := "conveyCapoed", unfollowed := true, recurses := true, apart := false, narrowed := true }
def ConveyCapoedUptoSaid : Prop := conveyCapoedUptoRow.holds Tryz.pinned (OpenSpec.upto conveyCapoedSpec)

end Rows
end Go.Proofs.YtaeelcfjkhfpkaaGreat
