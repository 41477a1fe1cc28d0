/- The law BookEngraves: its walk. -/
import Derived.Test.YtkgnmddakiagbaaGreatDoorEdeYq
import Derived.Test.YtkgnmddakiagbaaGreatDoorRFoYq
set_option linter.unusedVariables false
set_option linter.unusedSimpArgs false
namespace Go.Proofs.YtkgnmddakiagbaaGreatDoor
open Go.RowKit
set_option maxHeartbeats 8000000
set_option maxRecDepth 100000
def p11 : Pce := ⟨[(67, 3, false)], [1, 2, 3], [⟨false, 4, false, false, false, [(1, 1, 0, 0, 0)]⟩, ⟨false, 0, false, false, false, [(1, 0, 0, 0, 0)]⟩]⟩
theorem p11_ok : PcOk p11 := pcOk_of2 (by decide +kernel)
theorem inc11 : incE p11 4 = 0 ∧ incL p11 4 = [-1] := by decide +kernel
theorem edx11 : edX 1 p11 0 = 0 := by decide +kernel
theorem edt11 : edT 1 p11 0 = [49, 58, 48, 32, 71, 35, 52, 32, 59, 32, 67, 32, 98, 10, 49, 58, 52, 56, 32, 71, 61, 52, 32, 59, 32, 45, 32, 97, 10] := by decide +kernel
theorem works11_G : Ctg tabB Tryz.prog 16 [] (.sc (.bool true)) := by
  have hE := pEdition_G 1 p11 p11_ok 0
  have hI := pIncipit_FS p11 p11_ok 4
  rw [edt11, edx11] at hE
  rw [inc11.1, inc11.2] at hI
  refine Ctg.intro stabB Tryz.func16 rfl Tryz.ntmps16 (Nat.le_of_ble_eq_true rfl) (bd_all rfl) fun w0 F0 hB => ?_; dsimp only [St.init, number, Nat.reduceAdd]
  repeat refine W.go rfl ?_
  refine (?_ : WL _ _ _ _ _ _)
  dsimp only [St.put, Nat.reduceAdd]
  refine WL.tr (Tr.freeze 0 rfl) ?_
  refine WL.tr (Tr.freeze 1 rfl) ?_
  refine WL.tr (Tr.freeze 3 rfl) ?_
  refine WL.tr (Tr.freeze 4 rfl) ?_
  repeat (first | refine W.go rfl ?_ | refine WL.ev rfl ?_)
  refine (?_ : WL _ _ _ _ _ _)
  dsimp only [St.put, Nat.reduceAdd]
  refine WL.tr (Tr.freeze 5 rfl) ?_
  refine WL.vl rfl (WV.callG hB rfl (callF Tryz.func24 rfl rfl) rfl rfl hE) ?_
  repeat (first | refine W.go rfl ?_ | refine WL.ev rfl ?_)
  refine (?_ : WL _ _ _ _ _ _)
  dsimp only [St.put, Nat.reduceAdd]
  refine WL.vl rfl (WV.call rfl (callF Tryz.func17 rfl rfl) rfl rfl hI) ?_
  repeat (first | refine W.gob rfl ?_ | refine WL.nil ?_ | refine WL.bt rfl rfl rfl (by omega) ?_ | refine WL.e1 rfl ?_ | refine WL.gyes rfl rfl rfl rfl ?_ | refine WL.len rfl rfl (by first | exact List.length_map _ | exact List.length_replicate | rfl) ?_)
  refine (?_ : WL _ _ _ _ _ _)
  dsimp only [St.put, Nat.reduceAdd]
  refine WL.idx rfl rfl (by omega) rfl ?_
  repeat (first | refine WL.nil ?_ | refine WL.bt rfl rfl rfl (by omega) ?_ | refine WL.e1 rfl ?_ | refine WL.gyes rfl rfl rfl rfl ?_)
  refine (?_ : W _ _ _ _ _)
  dsimp only [St.put, Nat.reduceAdd]
  exact W.ret (fin1 rfl rfl rfl rfl)
end Go.Proofs.YtkgnmddakiagbaaGreatDoor
namespace Go.Proofs.YtkgnmddakiagbaaGreatDoor
open Go.RowKit
set_option maxHeartbeats 8000000
set_option maxRecDepth 100000
theorem engL_len (p : Pce) (hO : PcOk p) (key : Int) : (engL p key).length ≤ 8400 := by
  by_cases h : engX p key = 0
  · exact (engL_ok hO h).2.2
  · have : engL p key = [] := if_neg h
    rw [this]; simp
theorem engraves_G (p : Pce) (key : Int) : Ctg tabB Tryz.prog 5 [ePce p, .sc (.int .i64 key)] (.sc (.bool true)) := by
  refine Ctg.intro stabB Tryz.func5 rfl Tryz.ntmps5 (Nat.le_of_ble_eq_true rfl) (bd_all rfl) fun w0 F0 hB => ?_; dsimp only [St.init, number, Nat.reduceAdd]
  repeat refine W.go rfl ?_
  refine (?_ : WL _ _ _ _ _ _)
  dsimp only [St.put, Nat.reduceAdd]
  refine WL.vl rfl (WV.call rfl (callF Tryz.func20 rfl rfl) rfl rfl (long_FS p)) ?_
  repeat refine WL.nil ?_
  refine (?_ : W _ _ _ _ _)
  dsimp only [St.put, Nat.reduceAdd]
  (refine W.cond rfl (fun hif => ?_) (fun hif => ?_) <;> (try simp only [decide_eq_true_eq, decide_eq_false_iff_not, Int.not_lt, Int.not_le, Bool.not_eq_true', Bool.not_eq_false'] at hif))
  · repeat refine W.go rfl ?_
    refine (?_ : WL _ _ _ _ _ _)
    refine WL.vl rfl (WV.callG hB rfl (callF Tryz.func16 rfl rfl) rfl rfl works11_G) ?_
    repeat refine WL.ev rfl ?_
    refine (?_ : W _ _ _ _ _)
    dsimp only [St.put, Nat.reduceAdd]
    exact W.ret (fin1 rfl rfl rfl rfl)
  have hO := pcOk_of3 (p := p) hif
  have hl := engL_len p hO key
  repeat refine W.go rfl ?_
  refine (?_ : WL _ _ _ _ _ _)
  refine WL.vl rfl (WV.call rfl (callF Tryz.func14 rfl rfl) rfl rfl (pcCopy_FS p hO)) ?_
  repeat refine WL.ev rfl ?_
  refine (?_ : WL _ _ _ _ _ _)
  dsimp only [St.put, Nat.reduceAdd]
  refine WL.vl rfl (WV.callG hB rfl (callF Tryz.func21 rfl rfl) rfl rfl (pEngrave_FS p hO key)) ?_
  repeat (first | refine W.go rfl ?_ | refine WL.ev rfl ?_)
  refine (?_ : WL _ _ _ _ _ _)
  dsimp only [St.put, Nat.reduceAdd]
  refine WL.vl rfl (WV.call rfl (callF Tryz.func22 rfl rfl) rfl rfl (rEngrave_FS p hO key)) ?_
  repeat (first | refine W.go rfl ?_ | refine WL.ev rfl ?_)
  refine (?_ : WL _ _ _ _ _ _)
  dsimp only [St.put, Nat.reduceAdd]
  refine WL.vl rfl (WV.call rfl (callF Tryz.func23 rfl rfl) rfl rfl (sameSf_FS (engL p key) (by omega))) ?_
  repeat (first | refine WL.ev rfl ?_ | refine WL.gyes rfl rfl rfl rfl ?_)
  refine (?_ : WL _ _ _ _ _ _)
  dsimp only [St.put, Nat.reduceAdd]
  refine WL.partG rfl rfl rfl rfl (fun hp => ?_) (fun hp => absurd hp (by simp))
  refine WL.gyes rfl rfl rfl rfl ?_
  refine WL.vl rfl (WV.callG hB rfl (callF Tryz.func16 rfl rfl) rfl rfl works11_G) ?_
  repeat refine WL.ev rfl ?_
  refine (?_ : W _ _ _ _ _)
  dsimp only [St.put, Nat.reduceAdd]
  exact W.ret (fin1 rfl rfl rfl rfl)
end Go.Proofs.YtkgnmddakiagbaaGreatDoor
