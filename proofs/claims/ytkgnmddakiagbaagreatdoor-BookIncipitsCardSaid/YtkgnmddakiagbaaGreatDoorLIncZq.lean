/- The law BookIncipits: its walk. -/
import Derived.Test.YtkgnmddakiagbaaGreatDoorW11Zq
import Derived.Laws.OwnMore
import Derived.Still
import Derived.Lib.Hide
import Derived.Lib.FrozenHead
import Derived.Deep.MidRow
import Derived.Deep.Draws
import Derived.OwnWalk
import Derived.Maps.AppendAt
import Derived.Deep.AppendLies
import Derived.WalkKit
import Derived.Handy
import Derived.WalkLawsBesides
import Derived.Test.YtkgnmddakiagbaaGreatDoorBwubZq
import Derived.Test.YtkgnmddakiagbaaGreatDoorProg
import Derived.BigQuiet
import Derived.Deep.QuietTactic
import Derived.Deep.RegionHeld3
import Derived.Shelf.Strings.Builder1
import Derived.Shelf.Strings.Builder2
import Derived.Shelf.Small.Strs
import Derived.Shelf.Strings.BuilderF
import Derived.Shelf.Strings.BuilderK
import Derived.Shelf.Strings.Builder2Cap
import Derived.Shelf.Strconv.Itoa0
import Derived.Shelf.Strconv.Itoa1
import Derived.Shelf.LaysM
import Derived.Shelf.Strconv.Itoa2
import Derived.Shelf.Strconv.Itoa3
import Derived.Shelf.Strings.Search1
import Derived.Shelf.Strings.Search2
import Derived.Shelf.Strings.Search3
import Derived.Shelf.Strings.Cut
import Derived.Shelf.Strings.Count
import Derived.Shelf.Strings.Shaped
import Derived.Shelf.Strings.Prefix
import Derived.Shelf.Bits.Mul64
import Derived.Shelf.Strings.Repeat
import Derived.Shelf.Unicode.DecodeSlow
import Derived.Shelf.Strings.BuilderCap
import Derived.Lib.ItoaNum
import Derived.Laws.StructEq
import Derived.Deep.RegionWith
import Derived.Deep.DeepCutAuto
import Derived.Shelf.Strings.OnBuilder
import Derived.RangeFuncNested
import Derived.RangeFuncBound
import Derived.RangeFuncCalls
import Derived.RangeFuncLeaves
import Derived.RangeFuncBox
import Derived.Shelf.Abstract
import Derived.Shelf.RegionOpen
import Derived.OwnWalkIn
import Derived.TacticsInMore
import Derived.LoopNIn
import Derived.LoopIn
import Derived.WideKeyRuns
import Derived.DeepKeys3
import Derived.Test.YtkgnmddakiagbaaGreatDoorLinubZq
set_option linter.unusedVariables false
set_option linter.unusedSimpArgs false
namespace Go.Proofs.YtkgnmddakiagbaaGreatDoor
open Go.RowKit
set_option maxHeartbeats 8000000
set_option maxRecDepth 100000
theorem incL_len (p : Pce) (hO : PcOk p) (n : Int) : (incL p n).length ≤ 420 := by
  have hn := hO.n3
  have hdl := difs_length (sungR p)
  have := List.length_filter_le (fun x : Int => !decide (x < 0)) (melR p)
  have hml : (melR p).length = p.evs.length := by unfold melR; simp
  have hs : (sungR p).length ≤ 420 := by unfold sungR; omega
  unfold incL
  split
  · unfold incR; rw [List.length_take]; omega
  · simp
theorem incipits_G (p : Pce) (n : Int) : Ctg tabB Tryz.prog 4 [ePce p, .sc (.int .i64 n)] (.sc (.bool true)) := by
  refine Ctg.intro stabB Tryz.func4 rfl Tryz.ntmps4 (Nat.le_of_ble_eq_true rfl) (bd_all rfl) fun w0 F0 hB => ?_; dsimp only [St.init, number, Nat.reduceAdd]
  repeat refine W.go rfl ?_
  refine (?_ : WL _ _ _ _ _ _)
  dsimp only [St.put, Nat.reduceAdd]
  refine WL.vl rfl (WV.call rfl (callF Tryz.func11 rfl rfl) rfl rfl (big_FS p)) ?_
  repeat refine WL.nil ?_
  refine (?_ : W _ _ _ _ _)
  dsimp only [St.put, Nat.reduceAdd]
  (refine W.cond rfl (fun hif => ?_) (fun hif => ?_) <;> (try simp only [decide_eq_true_eq, decide_eq_false_iff_not, Int.not_lt, Int.not_le, Bool.not_eq_true', Bool.not_eq_false'] at hif))
  · repeat refine W.go rfl ?_
    refine (?_ : WL _ _ _ _ _ _)
    refine WL.vl rfl (WV.callG hB rfl (callF Tryz.func16 rfl rfl) rfl rfl works11_G) ?_
    repeat refine WL.ev rfl ?_
    refine (?_ : W _ _ _ _ _)
    dsimp only [St.put, Nat.reduceAdd]
    exact W.ret (fin1 rfl rfl rfl rfl)
  have hO := pcOk_of2 (p := p) hif
  have hl := incL_len p hO n
  have hS := sameInts_FS (incL p n) (incL p n) (by omega) (by omega)
  rw [decide_eq_true (rfl : incL p n = incL p n)] at hS
  repeat refine W.go rfl ?_
  refine (?_ : WL _ _ _ _ _ _)
  refine WL.vl rfl (WV.call rfl (callF Tryz.func14 rfl rfl) rfl rfl (pcCopy_FS p hO)) ?_
  repeat refine WL.ev rfl ?_
  refine (?_ : WL _ _ _ _ _ _)
  dsimp only [St.put, Nat.reduceAdd]
  refine WL.vl rfl (WV.call rfl (callF Tryz.func17 rfl rfl) rfl rfl (pIncipit_FS p hO n)) ?_
  repeat (first | refine W.go rfl ?_ | refine WL.ev rfl ?_)
  refine (?_ : WL _ _ _ _ _ _)
  dsimp only [St.put, Nat.reduceAdd]
  refine WL.vl rfl (WV.call rfl (callF Tryz.func18 rfl rfl) rfl rfl (rIncipit_FS p hO n)) ?_
  repeat (first | refine W.go rfl ?_ | refine WL.ev rfl ?_)
  refine (?_ : WL _ _ _ _ _ _)
  dsimp only [St.put, Nat.reduceAdd]
  refine WL.vl rfl (WV.call rfl (callF Tryz.func19 rfl rfl) rfl rfl hS) ?_
  repeat (first | refine WL.ev rfl ?_ | refine WL.gyes rfl rfl rfl rfl ?_)
  refine (?_ : WL _ _ _ _ _ _)
  dsimp only [St.put, Nat.reduceAdd]
  refine WL.partG rfl rfl rfl rfl (fun hp => ?_) (fun hp => absurd hp (by simp))
  refine WL.gyes rfl rfl rfl rfl ?_
  refine WL.vl rfl (WV.callG hB rfl (callF Tryz.func16 rfl rfl) rfl rfl works11_G) ?_
  repeat refine WL.ev rfl ?_
  refine (?_ : W _ _ _ _ _)
  dsimp only [St.put, Nat.reduceAdd]
  exact W.ret (fin1 rfl rfl rfl rfl)
end Go.Proofs.YtkgnmddakiagbaaGreatDoor
