/- The law BookSings: its walk. -/
import Derived.Test.YtkgnmddakiagbaaGreatDoorW11Zq
import Derived.Laws.OwnMore
import Derived.Still
import Derived.Lib.Hide
import Derived.Lib.FrozenHead
import Derived.Deep.MidRow
import Derived.Deep.Draws
import Derived.OwnWalk
import Derived.Maps.AppendAt
import Derived.Deep.AppendLies
import Derived.WalkKit
import Derived.Handy
import Derived.WalkLawsBesides
import Derived.Test.YtkgnmddakiagbaaGreatDoorProg
import Derived.BigQuiet
import Derived.Deep.QuietTactic
import Derived.Deep.RegionHeld3
import Derived.Shelf.Strings.Builder1
import Derived.Shelf.Strings.Builder2
import Derived.Shelf.Small.Strs
import Derived.Shelf.Strings.BuilderF
import Derived.Shelf.Strings.BuilderK
import Derived.Shelf.Strings.Builder2Cap
import Derived.Shelf.Strconv.Itoa0
import Derived.Shelf.Strconv.Itoa1
import Derived.Shelf.LaysM
import Derived.Shelf.Strconv.Itoa2
import Derived.Shelf.Strconv.Itoa3
import Derived.Shelf.Strings.Search1
import Derived.Shelf.Strings.Search2
import Derived.Shelf.Strings.Search3
import Derived.Shelf.Strings.Cut
import Derived.Shelf.Strings.Count
import Derived.Shelf.Strings.Shaped
import Derived.Shelf.Strings.Prefix
import Derived.Shelf.Bits.Mul64
import Derived.Shelf.Strings.Repeat
import Derived.Shelf.Unicode.DecodeSlow
import Derived.Shelf.Strings.BuilderCap
import Derived.Lib.ItoaNum
import Derived.Laws.StructEq
import Derived.Deep.RegionWith
import Derived.Deep.DeepCutAuto
import Derived.Shelf.Strings.OnBuilder
import Derived.RangeFuncNested
import Derived.RangeFuncBound
import Derived.RangeFuncCalls
import Derived.RangeFuncLeaves
import Derived.RangeFuncBox
import Derived.Shelf.Abstract
import Derived.Shelf.RegionOpen
import Derived.OwnWalkIn
import Derived.TacticsInMore
import Derived.LoopNIn
import Derived.LoopIn
import Derived.WideKeyRuns
import Derived.DeepKeys3
import Derived.Test.YtkgnmddakiagbaaGreatDoorRSnZq
set_option linter.unusedVariables false
set_option linter.unusedSimpArgs false
namespace Go.Proofs.YtkgnmddakiagbaaGreatDoor
open Go.RowKit
set_option maxHeartbeats 8000000
set_option maxRecDepth 100000
theorem snL_len (L : List Sf) (st : List Int) (key : Int) : (snL L st key).length ≤ L.length := by
  unfold snL
  split
  · rw [sngV_length]; omega
  · simp
theorem sings_G (L : List Sf) (st : List Int) (key : Int) : Ctg tabB Tryz.prog 8 [.ls 4 (L.map eSf), .ls 1 (st.map eInt), .sc (.int .i64 key)] (.sc (.bool true)) := by
  by_cases hL : (L.length : Int) > 200
  · refine Ctg.intro stabB Tryz.func8 rfl Tryz.ntmps8 (Nat.le_of_ble_eq_true rfl) (bd_all rfl) fun w0 F0 hB => ?_; dsimp only [St.init, number, Nat.reduceAdd]
    repeat (first | refine W.gob rfl ?_ | refine WL.nil ?_ | refine WL.bt rfl rfl rfl (by omega) ?_ | refine WL.e1 rfl ?_ | refine WL.opno rfl rfl rfl rfl rfl rfl rfl ?_ | refine WL.len rfl rfl (by first | exact List.length_map _ | exact List.length_replicate | rfl) ?_ | refine W.condT rfl ?_)
    refine (?_ : WL _ _ _ _ _ _)
    dsimp only [St.put, Nat.reduceAdd]
    refine WL.vl rfl (WV.callG hB rfl (callF Tryz.func16 rfl rfl) rfl rfl works11_G) ?_
    repeat refine WL.ev rfl ?_
    refine (?_ : W _ _ _ _ _)
    dsimp only [St.put, Nat.reduceAdd]
    exact W.ret (fin1 rfl rfl rfl rfl)
  by_cases hS : (st.length : Int) > 200
  · refine Ctg.intro stabB Tryz.func8 rfl Tryz.ntmps8 (Nat.le_of_ble_eq_true rfl) (bd_all rfl) fun w0 F0 hB => ?_; dsimp only [St.init, number, Nat.reduceAdd]
    repeat (first | refine W.gob rfl ?_ | refine WL.nil ?_ | refine WL.bt rfl rfl rfl (by omega) ?_ | refine WL.bf rfl rfl rfl (by omega) ?_ | refine WL.e1 rfl ?_ | refine WL.gyes rfl rfl rfl rfl ?_ | refine WL.len rfl rfl (by first | exact List.length_map _ | exact List.length_replicate | rfl) ?_ | refine W.condT rfl ?_)
    refine (?_ : WL _ _ _ _ _ _)
    dsimp only [St.put, Nat.reduceAdd]
    refine WL.vl rfl (WV.callG hB rfl (callF Tryz.func16 rfl rfl) rfl rfl works11_G) ?_
    repeat refine WL.ev rfl ?_
    refine (?_ : W _ _ _ _ _)
    dsimp only [St.put, Nat.reduceAdd]
    exact W.ret (fin1 rfl rfl rfl rfl)
  have hl := snL_len L st key
  have hSm := sameInts_FS (snL L st key) (snL L st key) (by omega) (by omega)
  rw [decide_eq_true (rfl : snL L st key = snL L st key)] at hSm
  refine Ctg.intro stabB Tryz.func8 rfl Tryz.ntmps8 (Nat.le_of_ble_eq_true rfl) (bd_all rfl) fun w0 F0 hB => ?_; dsimp only [St.init, number, Nat.reduceAdd]
  repeat (first | refine W.gob rfl ?_ | refine WL.nil ?_ | refine WL.bf rfl rfl rfl (by omega) ?_ | refine WL.e1 rfl ?_ | refine WL.gyes rfl rfl rfl rfl ?_ | refine WL.len rfl rfl (by first | exact List.length_map _ | exact List.length_replicate | rfl) ?_ | refine WL.app rfl rfl rfl (by first | omega | (simp; done) | (simp; omega)) ?_ | refine W.condF rfl ?_)
  refine (?_ : WL _ _ _ _ _ _)
  dsimp only [St.put, Nat.reduceAdd]
  refine WL.tr (Tr.freeze 1 rfl) ?_
  refine WL.tr (Tr.freeze 3 rfl) ?_
  refine WL.vl rfl (WV.callG hB rfl (callF Tryz.func33 rfl rfl) rfl rfl (pSing_G L st key (by omega) (by omega))) ?_
  repeat (first | refine W.go rfl ?_ | refine WL.ev rfl ?_)
  refine (?_ : WL _ _ _ _ _ _)
  dsimp only [St.put, Nat.reduceAdd]
  refine WL.vl rfl (WV.call rfl (callF Tryz.func34 rfl rfl) rfl rfl (rSing_FS L st key (by omega) (by omega))) ?_
  repeat (first | refine W.go rfl ?_ | refine WL.ev rfl ?_)
  refine (?_ : WL _ _ _ _ _ _)
  dsimp only [St.put, Nat.reduceAdd]
  refine WL.vl rfl (WV.call rfl (callF Tryz.func19 rfl rfl) rfl rfl hSm) ?_
  repeat (first | refine WL.ev rfl ?_ | refine WL.gyes rfl rfl rfl rfl ?_)
  refine (?_ : WL _ _ _ _ _ _)
  dsimp only [St.put, Nat.reduceAdd]
  refine WL.partG rfl rfl rfl rfl (fun hp => ?_) (fun hp => absurd hp (by simp))
  refine WL.gyes rfl rfl rfl rfl ?_
  refine WL.vl rfl (WV.callG hB rfl (callF Tryz.func16 rfl rfl) rfl rfl works11_G) ?_
  repeat refine WL.ev rfl ?_
  refine (?_ : W _ _ _ _ _)
  dsimp only [St.put, Nat.reduceAdd]
  exact W.ret (fin1 rfl rfl rfl rfl)
end Go.Proofs.YtkgnmddakiagbaaGreatDoor
