/- The walk of NotationTimes. -/
import Derived.Test.YteldgllgagjciaaWorks
import Derived.Test.YteldgllgagjciaaPt1
import Derived.Test.YteldgllgagjciaaPt2
import Derived.Test.YteldgllgagjciaaPt3
import Derived.Test.YteldgllgagjciaaPt4
import Derived.Test.YteldgllgagjciaaRPt
namespace Go.Proofs.Yteldgllgagjciaa
open Go.RowKit
set_option maxHeartbeats 1600000
set_option maxRecDepth 100000
set_option linter.unusedVariables false
set_option linter.unusedSimpArgs false
attribute [local go_sem] mk_bs bs_size bs_toList bs_append bs_extract
attribute [local simp] run_cut run_cut_to run_cut_from run_add_bs

def ptAll (s : Int) (l : List UInt8) : Value := if 1 ≤ s ∧ s ≤ 4 then ptV (scanT (tmM s l) 0 8) else .tuple #[.agg #[.int .i64 0, .bool false, .bool false], .int .i64 30]
theorem ptime_any (s v : Int) (d t : Bool) (w : World) : Calls Try.prog 28 #[.int .u8 s, .agg #[.int .i64 v, .bool d, .bool t]] w (Ret (.tuple #[.string (bs (timeTxt s v d t)), .int .i64 (timeErr s v d t)]) w) := by
  by_cases hs : 1 ≤ s ∧ s ≤ 4
  · have h4 : s = 1 ∨ s = 2 ∨ s = 3 ∨ s = 4 := by omega
    rcases h4 with rfl | rfl | rfl | rfl
    · exact ptime_1 v d t w
    · exact ptime_2 v d t w
    · exact ptime_3 v d t w
    · exact ptime_4 v d t w
  · have e0 : timeErr s v d t = 30 := if_pos hs
    have e1 : timeTxt s v d t = [] := by unfold timeTxt; rw [e0, if_neg (by decide)]
    rw [e0, e1]
    have hs' : s < 1 ∨ 4 < s := by omega
    clear hs e0 e1
    go_enter Try.func28, Try.ntmps28
    go_wp2_with (go_at_call 43; refine (of_bad _ _ hs').mono ?_; rintro e w' ⟨rfl, rfl⟩)
    go_ret2
    exact Ret.mk' rfl (by repeat (first | exact Below.refl _ _ | assumption | refine bel_drewN ?_ _ | refine Below.drew ?_ | refine bel_alloc ?_ _ | refine Below.setCell ?_ (by first | omega | (simp; done) | (simp; omega)) _ | refine bel_step ?_ (by assumption)))
theorem pparseTime_any (s : Int) (l : List UInt8) (w : World) : Calls Try.prog 30 #[.int .u8 s, .string (bs l)] w (Ret (ptAll s l) w) := by
  by_cases hs : 1 ≤ s ∧ s ≤ 4
  · have e : ptAll s l = ptV (scanT (tmM s l) 0 8) := if_pos hs
    rw [e]
    have h4 : s = 1 ∨ s = 2 ∨ s = 3 ∨ s = 4 := by omega
    rcases h4 with rfl | rfl | rfl | rfl
    · exact pparseTime_1 l w
    · exact pparseTime_2 l w
    · exact pparseTime_3 l w
    · exact pparseTime_4 l w
  · have e : ptAll s l = .tuple #[.agg #[.int .i64 0, .bool false, .bool false], .int .i64 30] := if_neg hs
    rw [e]
    have hs' : s < 1 ∨ 4 < s := by omega
    clear hs e
    go_enter Try.func30, Try.ntmps30
    go_wp2_with (go_at_call 43; refine (of_bad _ _ hs').mono ?_; rintro e w' ⟨rfl, rfl⟩)
    go_returns
    exact Ret.mk' rfl (by repeat (first | exact Below.refl _ _ | assumption | refine bel_drewN ?_ _ | refine Below.drew ?_ | refine bel_alloc ?_ _ | refine Below.setCell ?_ (by first | omega | (simp; done) | (simp; omega)) _ | refine bel_step ?_ (by assumption)))
theorem rparseTime_all (s : Int) (l : List UInt8) (w : World) : Calls Try.prog 31 #[.int .u8 s, .string (bs l)] w (Ret (ptAll s l) w) := by
  by_cases hs : 1 ≤ s ∧ s ≤ 4
  · have e : ptAll s l = ptV (refSigns.find? (refM s l)) := by unfold ptAll; rw [if_pos hs, parse_law]
    rw [e]
    exact rparseTime_any s l w hs
  · have e : ptAll s l = .tuple #[.agg #[.int .i64 0, .bool false, .bool false], .int .i64 30] := if_neg hs
    have hd : decide (1 ≤ s ∧ s ≤ 4) = false := decide_eq_false hs
    rw [e]
    clear hs e
    go_enter Try.func31, Try.ntmps31
    go_wp2_with (go_at_call 37; refine (known_any _ _).mono ?_; rintro e w' ⟨rfl, hw⟩; rw [hw]; clear hw)
    go_returns
    exact Ret.mk' rfl (by repeat (first | exact Below.refl _ _ | assumption | refine bel_drewN ?_ _ | refine Below.drew ?_ | refine bel_alloc ?_ _ | refine Below.setCell ?_ (by first | omega | (simp; done) | (simp; omega)) _ | refine bel_step ?_ (by assumption)))
theorem ptAll_form (s : Int) (l : List UInt8) : ∃ (v : Int) (d t : Bool) (e : Int), ptAll s l = .tuple #[.agg #[.int .i64 v, .bool d, .bool t], .int .i64 e] := by
  unfold ptAll ptV
  split
  · split
    · exact ⟨_, _, _, _, rfl⟩
    · exact ⟨_, _, _, _, rfl⟩
  · exact ⟨_, _, _, _, rfl⟩
theorem ptAll_back (s v : Int) (d t : Bool) (h : timeErr s v d t = 0) : ptAll s (timeTxt s v d t) = .tuple #[.agg #[.int .i64 v, .bool d, .bool t], .int .i64 0] := by
  have hs : 1 ≤ s ∧ s ≤ 4 := by
    by_cases hs : 1 ≤ s ∧ s ≤ 4
    · exact hs
    · unfold timeErr at h; rw [if_pos hs] at h; cases h
  obtain ⟨h1, h2, h3, h4⟩ := parse_back s v d t h
  unfold ptAll
  rw [if_pos hs, h1]
  simp only [ptV, h2, h3, h4]

theorem times_walk' (s v : Int) (d t : Bool) (l : List UInt8) (w : World) : Calls Try.prog 10 #[.int .u8 s, .agg #[.int .i64 v, .bool d, .bool t], .string (bs l)] w (Ret (.bool true) w) := by
  by_cases hl : l.length ≤ 4096
  · have h1 : ¬ (4096 : Int) < (l.length : Int) := by omega
    have h2 : (l.length : Int) ≤ 4096 := by omega
    obtain ⟨v2, d2, t2, e2, hp⟩ := ptAll_form s l
    have HP := Lib.hid hp
    obtain ⟨T, hT⟩ : ∃ T, timeTxt s v d t = T := ⟨_, rfl⟩
    obtain ⟨E, hE⟩ : ∃ E, timeErr s v d t = E := ⟨_, rfl⟩
    have A1 := Lib.hid (fun w => ptime_any s v d t w)
    have A2 := Lib.hid (fun w => rtime_any s v d t w)
    have A5 : E = 0 → ptAll s T = .tuple #[.agg #[.int .i64 v, .bool d, .bool t], .int .i64 0] := by
      intro h0
      rw [← hT]
      exact ptAll_back s v d t (by rw [hE, h0])
    rw [hT, hE] at A1 A2
    have A3 := Lib.hid (fun w => pparseTime_any s l w)
    have A4 := Lib.hid (fun w => rparseTime_all s l w)
    rw [hp] at A3 A4
    clear hp hT hE
    by_cases h0 : E = 0
    · have A6 := Lib.hid (fun w => pparseTime_any s T w)
      rw [A5 h0] at A6
      subst h0
      clear A5
      go_enter Try.func10, Try.ntmps10
      go_wp2_with fail
      refine (A1.out _).mono ?_
      rintro e w1 ⟨rfl, hb1⟩
      have k1 := (Blk.new _ _ _).after hb1
      have x10 : w1.cell? ⟨w.heap.size, 0, none⟩ = some (.int .i64 v) := k1.cell 0
      have x11 : w1.cell? ⟨w.heap.size, 1, none⟩ = some (.bool d) := k1.cell 1
      have x12 : w1.cell? ⟨w.heap.size, 2, none⟩ = some (.bool t) := k1.cell 2
      have K1 := Lib.hid k1
      clear k1
      go_wp2_with fail
      refine (A2.out _).mono ?_
      rintro e w2 ⟨rfl, hb2⟩
      have k2 := K1.out.after hb2
      have K2 := Lib.hid k2
      clear k2
      go_wp2_with fail
      refine (A3.out _).mono ?_
      rintro e w3 ⟨rfl, hb3⟩
      have k3 := K2.out.after hb3
      have K3 := Lib.hid k3
      clear k3
      go_wp2_with fail
      refine (A4.out _).mono ?_
      rintro e w4 ⟨rfl, hb4⟩
      have k4 := (K3.out.alloc _).after hb4
      have m4 := (Blk.new _ _ _).after hb4
      have x40 : w4.cell? ⟨w.heap.size, 0, none⟩ = some (.int .i64 v) := k4.cell 0
      have x41 : w4.cell? ⟨w.heap.size, 1, none⟩ = some (.bool d) := k4.cell 1
      have x42 : w4.cell? ⟨w.heap.size, 2, none⟩ = some (.bool t) := k4.cell 2
      have y40 : w4.cell? ⟨w3.heap.size, 0, none⟩ = some (.int .i64 v2) := m4.cell 0
      have y41 : w4.cell? ⟨w3.heap.size, 1, none⟩ = some (.bool d2) := m4.cell 1
      have y42 : w4.cell? ⟨w3.heap.size, 2, none⟩ = some (.bool t2) := m4.cell 2
      have z4 : w.heap.size < w4.heap.size := k4.lt
      have z5 : w3.heap.size < w4.heap.size := m4.lt
      have K4 := Lib.hid k4
      clear k4 m4
      go_wp2_with fail
      refine (A6.out _).mono ?_
      rintro e w5 ⟨rfl, hb5⟩
      have k5 := (K4.out.alloc _).after hb5
      have x50 : w5.cell? ⟨w.heap.size, 0, none⟩ = some (.int .i64 v) := k5.cell 0
      have x51 : w5.cell? ⟨w.heap.size, 1, none⟩ = some (.bool d) := k5.cell 1
      have x52 : w5.cell? ⟨w.heap.size, 2, none⟩ = some (.bool t) := k5.cell 2
      have z6 : w.heap.size < w5.heap.size := k5.lt
      clear k5
      go_wp2_with (go_at_call 14; refine (works_any _).mono ?_; rintro e w6 ⟨rfl, hb6⟩)
      go_ret
      exact Ret.mk' rfl (by repeat (first | exact Below.refl _ _ | assumption | refine bel_drewN ?_ _ | refine Below.drew ?_ | refine bel_alloc ?_ _ | refine Below.setCell ?_ (by first | omega | (simp; done) | (simp; omega)) _ | refine bel_step ?_ (by assumption)))
    · have hE0 : (E == 0) = false := by simpa using h0
      clear h0 A5
      go_enter Try.func10, Try.ntmps10
      go_wp2_with fail
      refine (A1.out _).mono ?_
      rintro e w1 ⟨rfl, hb1⟩
      have k1 := (Blk.new _ _ _).after hb1
      have x10 : w1.cell? ⟨w.heap.size, 0, none⟩ = some (.int .i64 v) := k1.cell 0
      have x11 : w1.cell? ⟨w.heap.size, 1, none⟩ = some (.bool d) := k1.cell 1
      have x12 : w1.cell? ⟨w.heap.size, 2, none⟩ = some (.bool t) := k1.cell 2
      have K1 := Lib.hid k1
      clear k1
      go_wp2_with fail
      refine (A2.out _).mono ?_
      rintro e w2 ⟨rfl, hb2⟩
      have k2 := K1.out.after hb2
      have K2 := Lib.hid k2
      clear k2
      go_wp2_with fail
      refine (A3.out _).mono ?_
      rintro e w3 ⟨rfl, hb3⟩
      have k3 := K2.out.after hb3
      have K3 := Lib.hid k3
      clear k3
      go_wp2_with fail
      refine (A4.out _).mono ?_
      rintro e w4 ⟨rfl, hb4⟩
      have k4 := (K3.out.alloc _).after hb4
      have m4 := (Blk.new _ _ _).after hb4
      have x40 : w4.cell? ⟨w.heap.size, 0, none⟩ = some (.int .i64 v) := k4.cell 0
      have x41 : w4.cell? ⟨w.heap.size, 1, none⟩ = some (.bool d) := k4.cell 1
      have x42 : w4.cell? ⟨w.heap.size, 2, none⟩ = some (.bool t) := k4.cell 2
      have y40 : w4.cell? ⟨w3.heap.size, 0, none⟩ = some (.int .i64 v2) := m4.cell 0
      have y41 : w4.cell? ⟨w3.heap.size, 1, none⟩ = some (.bool d2) := m4.cell 1
      have y42 : w4.cell? ⟨w3.heap.size, 2, none⟩ = some (.bool t2) := m4.cell 2
      have z4 : w.heap.size < w4.heap.size := k4.lt
      have z5 : w3.heap.size < w4.heap.size := m4.lt
      have K4 := Lib.hid k4
      clear k4 m4
      go_wp2_with (go_at_call 14; refine (works_any _).mono ?_; rintro e w6 ⟨rfl, hb6⟩)
      go_ret
      exact Ret.mk' rfl (by repeat (first | exact Below.refl _ _ | assumption | refine bel_drewN ?_ _ | refine Below.drew ?_ | refine bel_alloc ?_ _ | refine Below.setCell ?_ (by first | omega | (simp; done) | (simp; omega)) _ | refine bel_step ?_ (by assumption)))
  · have h1 : (4096 : Int) < (l.length : Int) := by omega
    go_enter Try.func10, Try.ntmps10
    go_wp2_with (go_at_call 14; refine (works_any _).mono ?_; rintro e w3 ⟨rfl, hb3⟩)
    go_ret
    exact Ret.mk' rfl (by repeat (first | exact Below.refl _ _ | assumption | refine bel_drewN ?_ _ | refine Below.drew ?_ | refine bel_alloc ?_ _ | refine Below.setCell ?_ (by first | omega | (simp; done) | (simp; omega)) _ | refine bel_step ?_ (by assumption)))
theorem times_walk (s v : Int) (d t : Bool) (x : ByteArray) (w : World) : Calls Try.prog 10 #[.int .u8 s, .agg #[.int .i64 v, .bool d, .bool t], .string x] w (Ret (.bool true) w) := by
  obtain ⟨l, rfl⟩ := bs_of x
  exact times_walk' s v d t l w
end Go.Proofs.Yteldgllgagjciaa
