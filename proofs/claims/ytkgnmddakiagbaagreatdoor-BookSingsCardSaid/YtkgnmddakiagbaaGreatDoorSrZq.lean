/- Notes of the staff, their names, the text of an instrument: the reference. BLD -/
import Derived.Test.YtkgnmddakiagbaaGreatDoorEHZq
import Derived.Test.YtkgnmddakiagbaaGreatDoorCalmZq
import Derived.Deep.Draws
import Derived.OwnWalk
import Derived.Maps.AppendAt
import Derived.Deep.AppendLies
import Derived.Laws.OwnMore
import Derived.WalkKit
import Derived.Handy
import Derived.WalkLawsBesides
import Derived.Test.YtkgnmddakiagbaaGreatDoorProg
import Derived.Lib.Hide
import Derived.BigQuiet
import Derived.Deep.QuietTactic
import Derived.Deep.RegionHeld3
import Derived.Shelf.Strings.Builder1
import Derived.Shelf.Strings.Builder2
import Derived.Shelf.Small.Strs
import Derived.Shelf.Strings.BuilderF
import Derived.Shelf.Strings.BuilderK
import Derived.Shelf.Strings.Builder2Cap
import Derived.Shelf.Strconv.Itoa0
import Derived.Shelf.Strconv.Itoa1
import Derived.Shelf.LaysM
import Derived.Shelf.Strconv.Itoa2
import Derived.Shelf.Strconv.Itoa3
import Derived.Shelf.Strings.Search1
import Derived.Shelf.Strings.Search2
import Derived.Shelf.Strings.Search3
import Derived.Shelf.Strings.Cut
import Derived.Shelf.Strings.Count
import Derived.Shelf.Strings.Shaped
import Derived.Shelf.Strings.Prefix
import Derived.Shelf.Bits.Mul64
import Derived.Shelf.Strings.Repeat
import Derived.Shelf.Unicode.DecodeSlow
import Derived.Shelf.Strings.BuilderCap
import Derived.Still
import Derived.Lib.FrozenHead
import Derived.Deep.MidRow
import Derived.Lib.ItoaNum
set_option linter.unusedVariables false
set_option linter.unusedSimpArgs false
namespace Go.Proofs.YtkgnmddakiagbaaGreatDoor
open Go.RowKit
set_option maxRecDepth 100000
set_option maxHeartbeats 4000000
theorem bas_all : ((List.range 7).all fun k => decide (basV k = if (k : Int) < 3 then 2 * (k : Int) else 2 * (k : Int) - 1)) = true := by decide
theorem rBase_FS (l : Int) (h : 0 ≤ l ∧ l ≤ 6) : Ctr Tryz.prog 152 [.sc (.int .i64 l)] (.sc (.int .i64 (basV l))) := by
  have hb : basV l = if l < 3 then 2 * l else 2 * l - 1 := by
    obtain ⟨k, rfl⟩ := Int.eq_ofNat_of_zero_le h.1
    have := List.all_eq_true.1 bas_all k (List.mem_range.2 (by omega))
    simpa using this
  by_cases h3 : l < 3
  · rw [if_pos h3] at hb
    rw [hb]
    refine Ctr.intro Tryz.func152 rfl Tryz.ntmps152 (Nat.le_of_ble_eq_true rfl) (bd_all rfl) fun w0 F0 => ?_; dsimp only [St.init, number, Nat.reduceAdd]
    repeat (first | refine W.gob rfl ?_ | refine WL.nil ?_ | refine WL.bt rfl rfl rfl (by omega) ?_ | refine WL.e1 rfl ?_ | refine WL.ar rfl rfl (by unfold I64; omega) ?_ | refine W.condT rfl ?_)
    refine (?_ : W _ _ _ _ _)
    dsimp only [St.put, Nat.reduceAdd]
    exact W.ret (fin1 rfl rfl rfl rfl)
  · rw [if_neg h3] at hb
    rw [hb]
    refine Ctr.intro Tryz.func152 rfl Tryz.ntmps152 (Nat.le_of_ble_eq_true rfl) (bd_all rfl) fun w0 F0 => ?_; dsimp only [St.init, number, Nat.reduceAdd]
    repeat (first | refine W.gob rfl ?_ | refine WL.nil ?_ | refine WL.bf rfl rfl rfl (by omega) ?_ | refine WL.e1 rfl ?_ | refine WL.ar rfl rfl (by unfold I64; omega) ?_ | refine W.condF rfl ?_)
    refine (?_ : W _ _ _ _ _)
    dsimp only [St.put, Nat.reduceAdd]
    exact W.ret (fin1 rfl rfl rfl rfl)
theorem rRight_FS (l al o : Int) : Ctr Tryz.prog 151 [.ag [.sc (.int .i64 l), .sc (.int .i64 al), .sc (.int .i64 o)]] (.sc (.bool (sndOk l al o))) := by
  refine Ctr.intro Tryz.func151 rfl Tryz.ntmps151 (Nat.le_of_ble_eq_true rfl) (bd_all rfl) fun w0 F0 => ?_; dsimp only [St.init, number, Nat.reduceAdd]
  have hc : (l < 0 ∨ (¬ l < 0 ∧ 6 < l) ∨ (¬ l < 0 ∧ ¬ 6 < l ∧ al < -1) ∨ (¬ l < 0 ∧ ¬ 6 < l ∧ ¬ al < -1 ∧ 1 < al) ∨ (¬ l < 0 ∧ ¬ 6 < l ∧ ¬ al < -1 ∧ ¬ 1 < al ∧ o < -1) ∨ (¬ l < 0 ∧ ¬ 6 < l ∧ ¬ al < -1 ∧ ¬ 1 < al ∧ ¬ o < -1 ∧ 9 < o)) ∨ sndIn l al o := by unfold sndIn; omega
  rcases hc with hc | hc
  · have hno := sndOk_out (l := l) (al := al) (o := o) (by unfold sndIn; omega)
    rw [hno]
    rcases hc with h | h | h | h | h | h
    all_goals
      repeat (first | refine W.gob rfl ?_ | refine WL.nil ?_ | refine WL.bt rfl rfl rfl (by omega) ?_ | refine WL.bf rfl rfl rfl (by omega) ?_ | refine WL.e1 rfl ?_ | refine WL.gyes rfl rfl rfl rfl ?_ | refine WL.opno rfl rfl rfl rfl rfl rfl rfl ?_ | refine W.condT rfl ?_)
      refine (?_ : W _ _ _ _ _)
      dsimp only [St.put, Nat.reduceAdd]
      exact W.ret (fin1 rfl rfl rfl rfl)
  · obtain ⟨⟨h1, h2⟩, ⟨h3, h4⟩, h5, h6⟩ := id hc
    have hbd := basV_bd ⟨h1, h2⟩
    have hB := rBase_FS l ⟨h1, h2⟩
    have hin := sndOk_in hc
    unfold sndV at hin
    obtain ⟨b, hb⟩ : ∃ b, basV l = b := ⟨_, rfl⟩
    rw [hb] at hbd hB hin
    rw [hin]
    by_cases hr : 0 ≤ 12 * (o + 1) + b + al ∧ 12 * (o + 1) + b + al ≤ 127
    · rw [decide_eq_true hr]
      repeat (first | refine W.gob rfl ?_ | refine WL.nil ?_ | refine WL.bf rfl rfl rfl (by omega) ?_ | refine WL.e1 rfl ?_ | refine WL.gyes rfl rfl rfl rfl ?_ | refine W.condF rfl ?_)
      refine (?_ : W _ _ _ _ _)
      dsimp only [St.put, Nat.reduceAdd]
      refine W.drawK (by kernel_rfl) (by kernel_rfl) ?_
      repeat (first | refine DK.st rfl ?_ | refine DK.ar rfl rfl (by unfold I64; omega) ?_)
      refine DK.vl rfl (WV.call rfl (callF Tryz.func152 rfl rfl) rfl rfl hB) ?_
      repeat (first | refine DK.st rfl ?_ | refine DK.ar rfl rfl (by unfold I64; omega) ?_ | refine DK.nil ?_)
      repeat (first | refine W.gob rfl ?_ | refine WL.nil ?_ | refine WL.bt rfl rfl rfl (by omega) ?_ | refine WL.e1 rfl ?_ | refine WL.gyes rfl rfl rfl rfl ?_)
      refine (?_ : W _ _ _ _ _)
      dsimp only [St.put, Nat.reduceAdd]
      exact W.ret (fin1 rfl rfl rfl rfl)
    · rw [decide_eq_false hr]
      have hr2 : (12 * (o + 1) + b + al < 0) ∨ (¬ 12 * (o + 1) + b + al < 0 ∧ 127 < 12 * (o + 1) + b + al) := by omega
      rcases hr2 with h | h
      all_goals
        repeat (first | refine W.gob rfl ?_ | refine WL.nil ?_ | refine WL.bf rfl rfl rfl (by omega) ?_ | refine WL.e1 rfl ?_ | refine WL.gyes rfl rfl rfl rfl ?_ | refine W.condF rfl ?_)
        refine (?_ : W _ _ _ _ _)
        dsimp only [St.put, Nat.reduceAdd]
        refine W.drawK (by kernel_rfl) (by kernel_rfl) ?_
        repeat (first | refine DK.st rfl ?_ | refine DK.ar rfl rfl (by unfold I64; omega) ?_)
        refine DK.vl rfl (WV.call rfl (callF Tryz.func152 rfl rfl) rfl rfl hB) ?_
        repeat (first | refine DK.st rfl ?_ | refine DK.ar rfl rfl (by unfold I64; omega) ?_ | refine DK.nil ?_)
        repeat (first | refine W.gob rfl ?_ | refine WL.nil ?_ | refine WL.bt rfl rfl rfl (by omega) ?_ | refine WL.bf rfl rfl rfl (by omega) ?_ | refine WL.e1 rfl ?_ | refine WL.gyes rfl rfl rfl rfl ?_ | refine WL.opno rfl rfl rfl rfl rfl rfl rfl ?_)
        refine (?_ : W _ _ _ _ _)
        dsimp only [St.put, Nat.reduceAdd]
        exact W.ret (fin1 rfl rfl rfl rfl)
theorem rSounding_FS (l al o : Int) : Ctr Tryz.prog 92 [.ag [.sc (.int .i64 l), .sc (.int .i64 al), .sc (.int .i64 o)]] (.tu [.sc (.int .i64 (sndR l al o)), .sc (.int .i64 (sndX l al o))]) := by
  refine Ctr.intro Tryz.func92 rfl Tryz.ntmps92 (Nat.le_of_ble_eq_true rfl) (bd_all rfl) fun w0 F0 => ?_; dsimp only [St.init, number, Nat.reduceAdd]
  repeat refine W.go rfl ?_
  refine (?_ : WL _ _ _ _ _ _)
  dsimp only [St.put, Nat.reduceAdd]
  refine WL.vl rfl (WV.call rfl (callF Tryz.func151 rfl rfl) rfl rfl (rRight_FS l al o)) ?_
  cases hok : sndOk l al o with
  | false =>
    rw [(snd_no hok).1, (snd_no hok).2]
    repeat (first | refine W.gob rfl ?_ | refine WL.nil ?_ | refine WL.e1 rfl ?_ | refine W.condT rfl ?_)
    refine (?_ : W _ _ _ _ _)
    dsimp only [St.put, Nat.reduceAdd]
    exact W.ret (fin2 rfl rfl rfl rfl rfl rfl rfl)
  | true =>
    obtain ⟨⟨⟨h1, h2⟩, ⟨h3, h4⟩, h5, h6⟩, hv⟩ := sndOk_of hok
    have hbd := basV_bd ⟨h1, h2⟩
    have hB := rBase_FS l ⟨h1, h2⟩
    have hR : sndR l al o = 12 * (o + 1) + basV l + al := (snd_ok hok).1
    obtain ⟨b, hb⟩ : ∃ b, basV l = b := ⟨_, rfl⟩
    rw [hb] at hbd hB hR
    rw [hR, (snd_ok hok).2]
    repeat (first | refine W.gob rfl ?_ | refine WL.nil ?_ | refine WL.e1 rfl ?_ | refine W.condF rfl ?_)
    refine (?_ : W _ _ _ _ _)
    dsimp only [St.put, Nat.reduceAdd]
    refine W.drawK (by kernel_rfl) (by kernel_rfl) ?_
    repeat (first | refine DK.st rfl ?_ | refine DK.ar rfl rfl (by unfold I64; omega) ?_)
    refine DK.vl rfl (WV.call rfl (callF Tryz.func152 rfl rfl) rfl rfl hB) ?_
    repeat (first | refine DK.st rfl ?_ | refine DK.ar rfl rfl (by unfold I64; omega) ?_ | refine DK.nil ?_)
    refine (?_ : W _ _ _ _ _)
    dsimp only [St.put, Nat.reduceAdd]
    exact W.ret (fin2 rfl rfl rfl rfl rfl rfl rfl)
end Go.Proofs.YtkgnmddakiagbaaGreatDoor
