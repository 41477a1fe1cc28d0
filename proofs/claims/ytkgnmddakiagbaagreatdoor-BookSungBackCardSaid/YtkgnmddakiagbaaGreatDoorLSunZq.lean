/- The law BookSungBack: its walk. -/
import Derived.Test.YtkgnmddakiagbaaGreatDoorW11Zq
import Derived.Test.YtkgnmddakiagbaaGreatDoorLinZq
import Derived.Test.YtkgnmddakiagbaaGreatDoorProg
import Derived.BigQuiet
import Derived.Deep.QuietTactic
import Derived.Deep.RegionHeld3
import Derived.Shelf.Strings.Builder1
import Derived.Shelf.Strings.Builder2
import Derived.Shelf.Small.Strs
import Derived.Shelf.Strings.BuilderF
import Derived.Shelf.Strings.BuilderK
import Derived.Shelf.Strings.Builder2Cap
import Derived.Shelf.Strconv.Itoa0
import Derived.Shelf.Strconv.Itoa1
import Derived.Shelf.LaysM
import Derived.Shelf.Strconv.Itoa2
import Derived.Shelf.Strconv.Itoa3
import Derived.Shelf.Strings.Search1
import Derived.Shelf.Strings.Search2
import Derived.Shelf.Strings.Search3
import Derived.Shelf.Strings.Cut
import Derived.Shelf.Strings.Count
import Derived.Shelf.Strings.Shaped
import Derived.Shelf.Strings.Prefix
import Derived.Shelf.Bits.Mul64
import Derived.Shelf.Strings.Repeat
import Derived.Shelf.Unicode.DecodeSlow
import Derived.Shelf.Strings.BuilderCap
import Derived.WalkKit
import Derived.Handy
import Derived.WalkLawsBesides
import Derived.Lib.Hide
import Derived.Deep.Draws
import Derived.OwnWalk
import Derived.Maps.AppendAt
import Derived.Deep.AppendLies
import Derived.Laws.OwnMore
import Derived.Still
import Derived.Lib.FrozenHead
import Derived.Deep.MidRow
import Derived.Lib.ItoaNum
import Derived.Laws.StructEq
import Derived.RangeFuncNested
import Derived.RangeFuncBound
import Derived.RangeFuncCalls
import Derived.RangeFuncLeaves
import Derived.RangeFuncBox
import Derived.Shelf.Abstract
import Derived.Shelf.RegionOpen
import Derived.OwnWalkIn
import Derived.TacticsInMore
import Derived.LoopNIn
import Derived.LoopIn
import Derived.Deep.RegionWith
import Derived.Test.YtkgnmddakiagbaaGreatDoorPSgZq
import Derived.Deep.DeepCutAuto
import Derived.Shelf.Strings.OnBuilder
import Derived.WideKeyRuns
import Derived.DeepKeys3
import Derived.Test.YtkgnmddakiagbaaGreatDoorEdQZq
set_option linter.unusedVariables false
set_option linter.unusedSimpArgs false
namespace Go.Proofs.YtkgnmddakiagbaaGreatDoor
open Go.RowKit
set_option maxHeartbeats 8000000
set_option maxRecDepth 100000
theorem engL_len0 (p : Pce) (hO : PcOk p) (h0 : pceE p = 0) (key : Int) : (engL p key).length ≤ 8400 := by
  by_cases h : engX p key = 0
  · have := congrArg List.length (engL_ev h)
    simp only [List.length_map] at this
    have h2 := notesR_len hO h0
    omega
  · have : engL p key = [] := if_neg h
    rw [this]; simp
theorem sungback_G (p : Pce) (key : Int) : Ctg tabB Tryz.prog 9 [ePce p, .sc (.int .i64 key)] (.sc (.bool true)) := by
  by_cases hb : longB p = true
  · have hL := long_FS p
    rw [hb] at hL
    refine Ctg.intro stabB Tryz.func9 rfl Tryz.ntmps9 (Nat.le_of_ble_eq_true rfl) (bd_all rfl) fun w0 F0 hB => ?_; dsimp only [St.init, number, Nat.reduceAdd]
    repeat (first | refine W.gob rfl ?_ | refine WL.nil ?_ | refine WL.e1 rfl ?_)
    refine (?_ : WL _ _ _ _ _ _)
    dsimp only [St.put, Nat.reduceAdd]
    refine WL.vl rfl (WV.call rfl (callF Tryz.func20 rfl rfl) rfl rfl hL) ?_
    repeat (first | refine W.gob rfl ?_ | refine WL.nil ?_ | refine WL.e1 rfl ?_ | refine WL.opno rfl rfl rfl rfl rfl rfl rfl ?_ | refine W.condT rfl ?_)
    refine (?_ : WL _ _ _ _ _ _)
    dsimp only [St.put, Nat.reduceAdd]
    refine WL.vl rfl (WV.callG hB rfl (callF Tryz.func16 rfl rfl) rfl rfl works11_G) ?_
    repeat refine WL.ev rfl ?_
    refine (?_ : W _ _ _ _ _)
    dsimp only [St.put, Nat.reduceAdd]
    exact W.ret (fin1 rfl rfl rfl rfl)
  have hb : longB p = false := by simpa using hb
  have hL := long_FS p
  rw [hb] at hL
  have hO := pcOk_of3 hb
  have hn3 := hO.n3
  have hC := rCheck_FS p hO
  by_cases h0 : pceE p = 0
  rotate_left
  · obtain ⟨E, hE⟩ : ∃ E, pceE p = E := ⟨_, rfl⟩
    rw [hE] at hC h0
    refine Ctg.intro stabB Tryz.func9 rfl Tryz.ntmps9 (Nat.le_of_ble_eq_true rfl) (bd_all rfl) fun w0 F0 hB => ?_; dsimp only [St.init, number, Nat.reduceAdd]
    repeat (first | refine W.gob rfl ?_ | refine WL.nil ?_ | refine WL.e1 rfl ?_)
    refine (?_ : WL _ _ _ _ _ _)
    dsimp only [St.put, Nat.reduceAdd]
    refine WL.vl rfl (WV.call rfl (callF Tryz.func20 rfl rfl) rfl rfl hL) ?_
    repeat (first | refine WL.e1 rfl ?_ | refine WL.gyes rfl rfl rfl rfl ?_)
    refine (?_ : WL _ _ _ _ _ _)
    dsimp only [St.put, Nat.reduceAdd]
    refine WL.vl rfl (WV.call rfl (callF Tryz.func35 rfl rfl) rfl rfl hC) ?_
    repeat (first | refine W.gob rfl ?_ | refine WL.nil ?_ | refine WL.nt rfl rfl rfl (by omega) ?_ | refine WL.e1 rfl ?_ | refine WL.gyes rfl rfl rfl rfl ?_ | refine WL.opno rfl rfl rfl rfl rfl rfl rfl ?_ | refine W.condT rfl ?_)
    refine (?_ : WL _ _ _ _ _ _)
    dsimp only [St.put, Nat.reduceAdd]
    refine WL.vl rfl (WV.callG hB rfl (callF Tryz.func16 rfl rfl) rfl rfl works11_G) ?_
    repeat refine WL.ev rfl ?_
    refine (?_ : W _ _ _ _ _)
    dsimp only [St.put, Nat.reduceAdd]
    exact W.ret (fin1 rfl rfl rfl rfl)
  rw [h0] at hC
  by_cases hk : key < -4 ∨ 4 < key
  · have hk2 : key < -4 ∨ (¬ key < -4 ∧ key > 4) := by omega
    rcases hk2 with hk2 | hk2
    all_goals
      refine Ctg.intro stabB Tryz.func9 rfl Tryz.ntmps9 (Nat.le_of_ble_eq_true rfl) (bd_all rfl) fun w0 F0 hB => ?_; dsimp only [St.init, number, Nat.reduceAdd]
      repeat (first | refine W.gob rfl ?_ | refine WL.nil ?_ | refine WL.e1 rfl ?_)
      refine (?_ : WL _ _ _ _ _ _)
      dsimp only [St.put, Nat.reduceAdd]
      refine WL.vl rfl (WV.call rfl (callF Tryz.func20 rfl rfl) rfl rfl hL) ?_
      repeat (first | refine WL.e1 rfl ?_ | refine WL.gyes rfl rfl rfl rfl ?_)
      refine (?_ : WL _ _ _ _ _ _)
      dsimp only [St.put, Nat.reduceAdd]
      refine WL.vl rfl (WV.call rfl (callF Tryz.func35 rfl rfl) rfl rfl hC) ?_
      repeat (first | refine W.gob rfl ?_ | refine WL.nil ?_ | refine WL.bt rfl rfl rfl (by omega) ?_ | refine WL.bf rfl rfl rfl (by omega) ?_ | refine WL.nf rfl rfl rfl (by omega) ?_ | refine WL.e1 rfl ?_ | refine WL.gyes rfl rfl rfl rfl ?_ | refine WL.opno rfl rfl rfl rfl rfl rfl rfl ?_ | refine W.condT rfl ?_)
      refine (?_ : WL _ _ _ _ _ _)
      dsimp only [St.put, Nat.reduceAdd]
      refine WL.vl rfl (WV.callG hB rfl (callF Tryz.func16 rfl rfl) rfl rfl works11_G) ?_
      repeat refine WL.ev rfl ?_
      refine (?_ : W _ _ _ _ _)
      dsimp only [St.put, Nat.reduceAdd]
      exact W.ret (fin1 rfl rfl rfl rfl)
  have hk1 : ¬ key < -4 := by omega
  have hk3 : ¬ key > 4 := by omega
  have hk2 : -4 ≤ key ∧ key ≤ 4 := by omega
  have hN := pNotes_FS p hO
  have e3 : notesP p = notesR p p.evs.length := if_pos h0
  rw [h0, e3] at hN
  have hnl := notesR_len hO h0
  have hEn := pEngrave_FS p hO key
  have hMe := pMeasures_FS p hO
  have e4 : meaR p = mea p.evs p.evs.length := if_pos h0
  rw [e4, h0] at hMe
  have hml := mea_length p.evs p.evs.length
  have hsb := sung_back (p := p) hk2
  have hez := eng_zero h0 hk2
  have hel := engL_len0 p hO h0 key
  obtain ⟨NS, hNS⟩ : ∃ L, notesR p p.evs.length = L := ⟨_, rfl⟩
  obtain ⟨MS, hMS⟩ : ∃ L, mea p.evs p.evs.length = L := ⟨_, rfl⟩
  obtain ⟨EL, hEL⟩ : ∃ L, engL p key = L := ⟨_, rfl⟩
  obtain ⟨EX, hEX⟩ : ∃ L, engX p key = L := ⟨_, rfl⟩
  rw [hNS] at hN hnl hez hsb
  rw [hMS] at hMe hml hsb
  rw [hEL] at hEn hsb hel
  rw [hEX] at hEn hsb hez
  refine Ctg.intro stabB Tryz.func9 rfl Tryz.ntmps9 (Nat.le_of_ble_eq_true rfl) (bd_all rfl) fun w0 F0 hB => ?_; dsimp only [St.init, number, Nat.reduceAdd]
  repeat (first | refine W.gob rfl ?_ | refine WL.nil ?_ | refine WL.e1 rfl ?_)
  refine (?_ : WL _ _ _ _ _ _)
  dsimp only [St.put, Nat.reduceAdd]
  refine WL.vl rfl (WV.call rfl (callF Tryz.func20 rfl rfl) rfl rfl hL) ?_
  repeat (first | refine WL.e1 rfl ?_ | refine WL.gyes rfl rfl rfl rfl ?_)
  refine (?_ : WL _ _ _ _ _ _)
  dsimp only [St.put, Nat.reduceAdd]
  refine WL.vl rfl (WV.call rfl (callF Tryz.func35 rfl rfl) rfl rfl hC) ?_
  repeat (first | refine W.gob rfl ?_ | refine WL.nil ?_ | refine WL.bf rfl rfl rfl (by omega) ?_ | refine WL.nf rfl rfl rfl (by omega) ?_ | refine WL.e1 rfl ?_ | refine WL.gyes rfl rfl rfl rfl ?_ | refine W.condF rfl ?_)
  refine (?_ : WL _ _ _ _ _ _)
  dsimp only [St.put, Nat.reduceAdd]
  refine WL.vl rfl (WV.call rfl (callF Tryz.func14 rfl rfl) rfl rfl (pcCopy_FS p hO)) ?_
  refine WL.vl rfl (WV.call rfl (callF Tryz.func36 rfl rfl) rfl rfl hN) ?_
  repeat (first | refine W.gob rfl ?_ | refine WL.nil ?_ | refine WL.e1 rfl ?_)
  refine (?_ : W _ _ _ _ _)
  dsimp only [St.put, Nat.reduceAdd]
  refine W.tr (Tr.nil (t := 7) 3 1 rfl rfl) ?_
  dsimp only [St.put, St.new, St.upd, Nat.reduceAdd]
  refine W.loop (fun k : Nat => k ≤ NS.length) (fun k => ⟨[(1, .sc (.int .i64 key)), (2, .pt 0 0 0), (5, .ls 5 (NS.map eNt)), (6, .sc (.int .i64 0)), (7, .sl 1), (8, .sc (.bool ((NS.take k).any fun n => decide (n.2.2.1 = 0)))), (9, .sc (.int .i64 k))], [(0, .box 29 (ePce p).cells), (1, .row 3 1 (((NS.take k).map fun n => n.2.2.1).map eInt))], 2⟩) (fun k => NS.length - k) 0 (by omega) (Tr.ren id (by repeat (first | exact trivial | refine ⟨⟨?_, ?_⟩, ?_⟩ | rfl)) (by repeat (first | exact trivial | refine ⟨⟨?_, ?_, ?_⟩, ?_⟩ | rfl)) rfl) fun k hk => ?_
  by_cases hlt : k < NS.length
  · have htk : ((NS.take (k + 1)).map fun n => n.2.2.1) = ((NS.take k).map fun n => n.2.2.1) ++ [NS[k].2.2.1] := by
      rw [List.take_succ_eq_append_getElem hlt, List.map_append]; rfl
    have hany : ((NS.take (k + 1)).any fun n => decide (n.2.2.1 = 0)) = (((NS.take k).any fun n => decide (n.2.2.1 = 0)) || decide (NS[k].2.2.1 = 0)) := by
      rw [List.take_succ_eq_append_getElem hlt, List.any_append]; simp
    cases ha : ((NS.take k).any fun n => decide (n.2.2.1 = 0)) with
    | true =>
      repeat (first | refine W.gob rfl ?_ | refine WL.nil ?_ | refine WL.bt rfl rfl rfl (by omega) ?_ | refine WL.e1 rfl ?_ | refine WL.opno rfl rfl rfl rfl rfl rfl rfl ?_ | refine WL.ar rfl rfl (by unfold I64; omega) ?_ | refine WL.len rfl rfl (by first | exact List.length_map _ | exact List.length_replicate | rfl) ?_ | refine WL.idx rfl rfl (by omega) (by first | exact map_at (by omega) | exact map_atZ (by omega) (by omega)) ?_ | refine WL.app rfl rfl rfl (by first | omega | (simp; done) | (simp; omega)) ?_ | refine W.condT rfl ?_)
      dsimp only [St.put, Nat.reduceAdd]
      refine ⟨k + 1, by omega, by omega, ?_⟩
      rw [htk, hany, ha]
      exact (Tr.ren (fun q => bif Nat.beq q 1 then 3 else q) (by repeat (first | exact trivial | refine ⟨⟨?_, ?_⟩, ?_⟩ | rfl)) (by repeat (first | exact trivial | refine ⟨⟨?_, ?_, ?_⟩, ?_⟩ | rfl | exact congrArg (fun q => some (AO.row _ _ q)) (by rw [List.map_append]; rfl))) rfl)
    | false =>
      repeat (first | refine W.gob rfl ?_ | refine WL.nil ?_ | refine WL.bt rfl rfl rfl (by omega) ?_ | refine WL.e1 rfl ?_ | refine WL.gyes rfl rfl rfl rfl ?_ | refine WL.ar rfl rfl (by unfold I64; omega) ?_ | refine WL.len rfl rfl (by first | exact List.length_map _ | exact List.length_replicate | rfl) ?_ | refine WL.idx rfl rfl (by omega) (by first | exact map_at (by omega) | exact map_atZ (by omega) (by omega)) ?_ | refine WL.app rfl rfl rfl (by first | omega | (simp; done) | (simp; omega)) ?_ | refine W.condT rfl ?_)
      dsimp only [St.put, Nat.reduceAdd]
      refine ⟨k + 1, by omega, by omega, ?_⟩
      rw [htk, hany, ha]
      exact (Tr.ren (fun q => bif Nat.beq q 1 then 3 else q) (by repeat (first | exact trivial | refine ⟨⟨?_, ?_⟩, ?_⟩ | rfl)) (by repeat (first | exact trivial | refine ⟨⟨?_, ?_, ?_⟩, ?_⟩ | rfl | exact congrArg (fun q => some (AO.row _ _ q)) (by rw [List.map_append]; rfl))) rfl)
  obtain rfl : k = NS.length := by omega
  rw [List.take_length]
  repeat (first | refine W.gob rfl ?_ | refine WL.nil ?_ | refine WL.bf rfl rfl rfl (by omega) ?_ | refine WL.e1 rfl ?_ | refine WL.len rfl rfl (by first | exact List.length_map _ | exact List.length_replicate | rfl) ?_ | refine W.condF rfl ?_)
  refine (?_ : WL _ _ _ _ _ _)
  dsimp only [St.put, Nat.reduceAdd]
  refine WL.vl rfl (WV.call rfl (callF Tryz.func14 rfl rfl) rfl rfl (pcCopy_FS p hO)) ?_
  repeat refine WL.e1 rfl ?_
  refine (?_ : WL _ _ _ _ _ _)
  dsimp only [St.put, Nat.reduceAdd]
  refine WL.vl rfl (WV.callG hB rfl (callF Tryz.func21 rfl rfl) rfl rfl hEn) ?_
  by_cases hx : EX = 0
  rotate_left
  · obtain ⟨⟨n, hn, hn0⟩, hk4⟩ := hez hx
    have hz : (NS.any fun n => decide (n.2.2.1 = 0)) = true := List.any_eq_true.2 ⟨n, hn, by simpa using hn0⟩
    rw [hz]
    repeat (first | refine W.gob rfl ?_ | refine WL.nil ?_ | refine WL.bt rfl rfl rfl (by omega) ?_ | refine WL.nt rfl rfl rfl (by omega) ?_ | refine WL.e1 rfl ?_ | refine WL.gyes rfl rfl rfl rfl ?_ | refine W.condT rfl ?_)
    refine (?_ : WL _ _ _ _ _ _)
    dsimp only [St.put, Nat.reduceAdd]
    refine WL.vl rfl (WV.callG hB rfl (callF Tryz.func16 rfl rfl) rfl rfl works11_G) ?_
    repeat refine WL.ev rfl ?_
    refine (?_ : W _ _ _ _ _)
    dsimp only [St.put, Nat.reduceAdd]
    exact W.ret (fin1 rfl rfl rfl rfl)
  obtain ⟨hs1, hs2⟩ := hsb hx
  have hfl : (fstL MS).length = MS.length := by simp [fstL]
  have hSi := pSing_G EL (fstL MS) key (by omega) (by omega)
  rw [hs1, hs2] at hSi
  have hSm := sameInts_FS (NS.map fun n => n.2.2.1) (NS.map fun n => n.2.2.1) (by rw [List.length_map]; omega) (by rw [List.length_map]; omega)
  rw [decide_eq_true rfl] at hSm
  obtain ⟨WN, hWN⟩ : ∃ l, (NS.map fun n => n.2.2.1) = l := ⟨_, rfl⟩
  rw [hWN] at hSi hSm ⊢
  rw [hx]
  refine WL.tr (Tr.freeze 1 rfl) ?_
  repeat (first | refine W.gob rfl ?_ | refine WL.nil ?_ | refine WL.nf rfl rfl rfl (by omega) ?_ | refine WL.e1 rfl ?_ | refine W.condF rfl ?_)
  refine (?_ : WL _ _ _ _ _ _)
  dsimp only [St.put, Nat.reduceAdd]
  refine WL.vl rfl (WV.call rfl (callF Tryz.func14 rfl rfl) rfl rfl (pcCopy_FS p hO)) ?_
  refine WL.vl rfl (WV.call rfl (callF Tryz.func37 rfl rfl) rfl rfl hMe) ?_
  repeat (first | refine W.gob rfl ?_ | refine WL.nil ?_ | refine WL.e1 rfl ?_)
  refine (?_ : W _ _ _ _ _)
  dsimp only [St.put, Nat.reduceAdd]
  refine W.tr (Tr.nil (t := 14) 3 1 rfl rfl) ?_
  dsimp only [St.put, St.new, St.upd, Nat.reduceAdd]
  refine W.loop (fun k : Nat => k ≤ MS.length) (fun k => ⟨[(1, .sc (.int .i64 key)), (6, .sc (.int .i64 0)), (7, .ls 1 (WN.map eInt)), (10, .ls 4 (EL.map eSf)), (12, .ls 3 (MS.map eMea)), (13, .sc (.int .i64 0)), (14, .sl 2), (15, .sc (.int .i64 k))], [(2, .row 3 1 (((fstL MS).take k).map eInt))], 3⟩) (fun k => MS.length - k) 0 (by omega) (Tr.ren id (by repeat (first | exact trivial | refine ⟨⟨?_, ?_⟩, ?_⟩ | rfl)) (by repeat (first | exact trivial | refine ⟨⟨?_, ?_, ?_⟩, ?_⟩ | rfl)) rfl) fun k hk => ?_
  by_cases hlt : k < MS.length
  · have htk : (fstL MS).take (k + 1) = (fstL MS).take k ++ [MS[k].1] := by
      rw [List.take_succ_eq_append_getElem (by omega)]; simp [fstL]
    repeat (first | refine W.gob rfl ?_ | refine WL.nil ?_ | refine WL.bt rfl rfl rfl (by omega) ?_ | refine WL.e1 rfl ?_ | refine WL.ar rfl rfl (by unfold I64; omega) ?_ | refine WL.len rfl rfl (by first | exact List.length_map _ | exact List.length_replicate | rfl) ?_ | refine WL.idx rfl rfl (by omega) (by first | exact map_at (by omega) | exact map_atZ (by omega) (by omega)) ?_ | refine WL.app rfl rfl rfl (by first | omega | (simp; done) | (simp; omega)) ?_ | refine W.condT rfl ?_)
    dsimp only [St.put, Nat.reduceAdd]
    refine ⟨k + 1, by omega, by omega, ?_⟩
    rw [htk]
    exact (Tr.ren (fun q => bif Nat.beq q 2 then 4 else q) (by repeat (first | exact trivial | refine ⟨⟨?_, ?_⟩, ?_⟩ | rfl)) (by repeat (first | exact trivial | refine ⟨⟨?_, ?_, ?_⟩, ?_⟩ | rfl | exact congrArg (fun q => some (AO.row _ _ q)) (by rw [List.map_append]; rfl))) rfl)
  obtain rfl : k = MS.length := by omega
  rw [List.take_of_length_le (by omega)]
  repeat (first | refine W.gob rfl ?_ | refine WL.nil ?_ | refine WL.bf rfl rfl rfl (by omega) ?_ | refine WL.e1 rfl ?_ | refine WL.len rfl rfl (by first | exact List.length_map _ | exact List.length_replicate | rfl) ?_ | refine W.condF rfl ?_)
  refine (?_ : WL _ _ _ _ _ _)
  dsimp only [St.put, Nat.reduceAdd]
  refine WL.tr (Tr.freeze 2 rfl) ?_
  refine WL.vl rfl (WV.callG hB rfl (callF Tryz.func33 rfl rfl) rfl rfl hSi) ?_
  repeat (first | refine W.gob rfl ?_ | refine WL.nil ?_ | refine WL.bt rfl rfl rfl (by omega) ?_ | refine WL.e1 rfl ?_ | refine WL.gyes rfl rfl rfl rfl ?_)
  refine (?_ : WL _ _ _ _ _ _)
  dsimp only [St.put, Nat.reduceAdd]
  refine WL.vl rfl (WV.call rfl (callF Tryz.func19 rfl rfl) rfl rfl hSm) ?_
  repeat (first | refine WL.e1 rfl ?_ | refine WL.gyes rfl rfl rfl rfl ?_)
  refine (?_ : WL _ _ _ _ _ _)
  dsimp only [St.put, Nat.reduceAdd]
  refine WL.vl rfl (WV.callG hB rfl (callF Tryz.func16 rfl rfl) rfl rfl works11_G) ?_
  repeat refine WL.ev rfl ?_
  refine (?_ : W _ _ _ _ _)
  dsimp only [St.put, Nat.reduceAdd]
  exact W.ret (fin1 rfl rfl rfl rfl)
end Go.Proofs.YtkgnmddakiagbaaGreatDoor
