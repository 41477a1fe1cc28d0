/- Cell of the reference. -/
import Derived.Test.YteldgllgagjciaaWants
import Derived.BigQuiet
import Derived.Deep.QuietTactic
namespace Go.Proofs.Yteldgllgagjciaa
open Go.RowKit
set_option maxHeartbeats 1600000
set_option maxRecDepth 100000
set_option linter.unusedVariables false
set_option linter.unusedSimpArgs false
attribute [local go_sem] mk_bs bs_size bs_toList bs_append bs_extract
attribute [local simp] run_cut run_cut_to run_cut_from run_add_bs
theorem rCell_place (s c f r g h L E : Int) (T : List UInt8) (w : World) (hSY : ∀ w, Calls Try.prog 13 #[.int .u8 s, .agg #[.int .i64 c, .int .i64 f]] w (Ret (.tuple #[.string (bs T), .int .i64 E]) w)) (h0 : E ≠ 0) (h1 : E ≠ 31) :
    Calls Try.prog 23 #[.int .u8 s, .agg #[.int .i64 c, .int .i64 f, .int .i64 r, .int .i64 g, .int .i64 h], .int .i64 L] w (Ret (.tuple #[.string (bs []), .int .i64 E]) w) := by
  have SY := Lib.hid hSY
  clear hSY
  have e1 : (E == 0) = false := by simpa using h0
  have e2 : (E != 0) = true := by simpa using h0
  have e3 : (E == 31) = false := by simpa using h1
  have e4 : (E != 31) = true := by simpa using h1
  clear h0 h1
  go_enter Try.func23, Try.ntmps23
  go_wp2_with (go_at_call 13; refine (SY.out _).mono ?_; rintro e w1 ⟨rfl, hb1⟩; have k1 := (Blk.new _ _ _).after hb1; have x0 : w1.cell? ⟨w.heap.size, 0, none⟩ = some (.int .i64 c) := k1.cell 0; have x1 : w1.cell? ⟨w.heap.size, 1, none⟩ = some (.int .i64 f) := k1.cell 1; have x2 : w1.cell? ⟨w.heap.size, 2, none⟩ = some (.int .i64 r) := k1.cell 2; have x3 : w1.cell? ⟨w.heap.size, 3, none⟩ = some (.int .i64 g) := k1.cell 3; have x4 : w1.cell? ⟨w.heap.size, 4, none⟩ = some (.int .i64 h) := k1.cell 4; have K1 := Lib.hid k1; clear k1)
  go_ret2
  exact Ret.mk' rfl (by repeat (first | exact Below.refl _ _ | assumption | refine bel_drewN ?_ _ | refine Below.drew ?_ | refine bel_alloc ?_ _ | refine Below.setCell ?_ (by first | omega | (simp; done) | (simp; omega)) _ | refine bel_step ?_ (by assumption)))
theorem rCell_marks (s c f r g h L E : Int) (T : List UInt8) (w : World) (hSY : ∀ w, Calls Try.prog 13 #[.int .u8 s, .agg #[.int .i64 c, .int .i64 f]] w (Ret (.tuple #[.string (bs T), .int .i64 E]) w)) (hE : E = 0 ∨ E = 31) (hm : (r < 0 ∨ 3 < r) ∨ (g < 0 ∨ 4 < g)) :
    Calls Try.prog 23 #[.int .u8 s, .agg #[.int .i64 c, .int .i64 f, .int .i64 r, .int .i64 g, .int .i64 h], .int .i64 L] w (Ret (.tuple #[.string (bs []), .int .i64 23]) w) := by
  have SY := Lib.hid hSY
  clear hSY
  by_cases h1 : r < 0
  · clear hm
    rcases hE with rfl | rfl
    all_goals
      go_enter Try.func23, Try.ntmps23
      go_wp2_with (go_at_call 13; refine (SY.out _).mono ?_; rintro e w1 ⟨rfl, hb1⟩; have k1 := (Blk.new _ _ _).after hb1; have x0 : w1.cell? ⟨w.heap.size, 0, none⟩ = some (.int .i64 c) := k1.cell 0; have x1 : w1.cell? ⟨w.heap.size, 1, none⟩ = some (.int .i64 f) := k1.cell 1; have x2 : w1.cell? ⟨w.heap.size, 2, none⟩ = some (.int .i64 r) := k1.cell 2; have x3 : w1.cell? ⟨w.heap.size, 3, none⟩ = some (.int .i64 g) := k1.cell 3; have x4 : w1.cell? ⟨w.heap.size, 4, none⟩ = some (.int .i64 h) := k1.cell 4; have K1 := Lib.hid k1; clear k1)
      go_ret2
      exact Ret.mk' rfl (by repeat (first | exact Below.refl _ _ | assumption | refine bel_drewN ?_ _ | refine Below.drew ?_ | refine bel_alloc ?_ _ | refine Below.setCell ?_ (by first | omega | (simp; done) | (simp; omega)) _ | refine bel_step ?_ (by assumption)))
  · by_cases h2 : 3 < r
    · clear hm
      rcases hE with rfl | rfl
      all_goals
        go_enter Try.func23, Try.ntmps23
        go_wp2_with (go_at_call 13; refine (SY.out _).mono ?_; rintro e w1 ⟨rfl, hb1⟩; have k1 := (Blk.new _ _ _).after hb1; have x0 : w1.cell? ⟨w.heap.size, 0, none⟩ = some (.int .i64 c) := k1.cell 0; have x1 : w1.cell? ⟨w.heap.size, 1, none⟩ = some (.int .i64 f) := k1.cell 1; have x2 : w1.cell? ⟨w.heap.size, 2, none⟩ = some (.int .i64 r) := k1.cell 2; have x3 : w1.cell? ⟨w.heap.size, 3, none⟩ = some (.int .i64 g) := k1.cell 3; have x4 : w1.cell? ⟨w.heap.size, 4, none⟩ = some (.int .i64 h) := k1.cell 4; have K1 := Lib.hid k1; clear k1)
        go_ret2
        exact Ret.mk' rfl (by repeat (first | exact Below.refl _ _ | assumption | refine bel_drewN ?_ _ | refine Below.drew ?_ | refine bel_alloc ?_ _ | refine Below.setCell ?_ (by first | omega | (simp; done) | (simp; omega)) _ | refine bel_step ?_ (by assumption)))
    · by_cases h3 : g < 0
      · clear hm
        rcases hE with rfl | rfl
        all_goals
          go_enter Try.func23, Try.ntmps23
          go_wp2_with (go_at_call 13; refine (SY.out _).mono ?_; rintro e w1 ⟨rfl, hb1⟩; have k1 := (Blk.new _ _ _).after hb1; have x0 : w1.cell? ⟨w.heap.size, 0, none⟩ = some (.int .i64 c) := k1.cell 0; have x1 : w1.cell? ⟨w.heap.size, 1, none⟩ = some (.int .i64 f) := k1.cell 1; have x2 : w1.cell? ⟨w.heap.size, 2, none⟩ = some (.int .i64 r) := k1.cell 2; have x3 : w1.cell? ⟨w.heap.size, 3, none⟩ = some (.int .i64 g) := k1.cell 3; have x4 : w1.cell? ⟨w.heap.size, 4, none⟩ = some (.int .i64 h) := k1.cell 4; have K1 := Lib.hid k1; clear k1)
          go_ret2
          exact Ret.mk' rfl (by repeat (first | exact Below.refl _ _ | assumption | refine bel_drewN ?_ _ | refine Below.drew ?_ | refine bel_alloc ?_ _ | refine Below.setCell ?_ (by first | omega | (simp; done) | (simp; omega)) _ | refine bel_step ?_ (by assumption)))
      · have h4 : 4 < g := by omega
        clear hm
        rcases hE with rfl | rfl
        all_goals
          go_enter Try.func23, Try.ntmps23
          go_wp2_with (go_at_call 13; refine (SY.out _).mono ?_; rintro e w1 ⟨rfl, hb1⟩; have k1 := (Blk.new _ _ _).after hb1; have x0 : w1.cell? ⟨w.heap.size, 0, none⟩ = some (.int .i64 c) := k1.cell 0; have x1 : w1.cell? ⟨w.heap.size, 1, none⟩ = some (.int .i64 f) := k1.cell 1; have x2 : w1.cell? ⟨w.heap.size, 2, none⟩ = some (.int .i64 r) := k1.cell 2; have x3 : w1.cell? ⟨w.heap.size, 3, none⟩ = some (.int .i64 g) := k1.cell 3; have x4 : w1.cell? ⟨w.heap.size, 4, none⟩ = some (.int .i64 h) := k1.cell 4; have K1 := Lib.hid k1; clear k1)
          go_ret2
          exact Ret.mk' rfl (by repeat (first | exact Below.refl _ _ | assumption | refine bel_drewN ?_ _ | refine Below.drew ?_ | refine bel_alloc ?_ _ | refine Below.setCell ?_ (by first | omega | (simp; done) | (simp; omega)) _ | refine bel_step ?_ (by assumption)))
theorem rCell_holds (s c f r g h L E : Int) (T : List UInt8) (w : World) (hSY : ∀ w, Calls Try.prog 13 #[.int .u8 s, .agg #[.int .i64 c, .int .i64 f]] w (Ret (.tuple #[.string (bs T), .int .i64 E]) w)) (hE : E = 0 ∨ E = 31) (hr : 0 ≤ r ∧ r ≤ 3) (hg : 0 ≤ g ∧ g ≤ 4) (hm : ((L < 0 ∨ 15 < L) ∨ (h < 0 ∨ L < h)) ∨ (0 < h ∧ f = 0)) :
    Calls Try.prog 23 #[.int .u8 s, .agg #[.int .i64 c, .int .i64 f, .int .i64 r, .int .i64 g, .int .i64 h], .int .i64 L] w (Ret (.tuple #[.string (bs []), .int .i64 24]) w) := by
  have SY := Lib.hid hSY
  clear hSY
  have n1 : ¬ r < 0 := by omega
  have n2 : ¬ 3 < r := by omega
  have n3 : ¬ g < 0 := by omega
  have n4 : ¬ 4 < g := by omega
  by_cases h1 : L < 0
  · clear hm
    rcases hE with rfl | rfl
    all_goals
      go_enter Try.func23, Try.ntmps23
      go_wp2_with (go_at_call 13; refine (SY.out _).mono ?_; rintro e w1 ⟨rfl, hb1⟩; have k1 := (Blk.new _ _ _).after hb1; have x0 : w1.cell? ⟨w.heap.size, 0, none⟩ = some (.int .i64 c) := k1.cell 0; have x1 : w1.cell? ⟨w.heap.size, 1, none⟩ = some (.int .i64 f) := k1.cell 1; have x2 : w1.cell? ⟨w.heap.size, 2, none⟩ = some (.int .i64 r) := k1.cell 2; have x3 : w1.cell? ⟨w.heap.size, 3, none⟩ = some (.int .i64 g) := k1.cell 3; have x4 : w1.cell? ⟨w.heap.size, 4, none⟩ = some (.int .i64 h) := k1.cell 4; have K1 := Lib.hid k1; clear k1)
      go_ret2
      exact Ret.mk' rfl (by repeat (first | exact Below.refl _ _ | assumption | refine bel_drewN ?_ _ | refine Below.drew ?_ | refine bel_alloc ?_ _ | refine Below.setCell ?_ (by first | omega | (simp; done) | (simp; omega)) _ | refine bel_step ?_ (by assumption)))
  · by_cases h2 : 15 < L
    · clear hm
      rcases hE with rfl | rfl
      all_goals
        go_enter Try.func23, Try.ntmps23
        go_wp2_with (go_at_call 13; refine (SY.out _).mono ?_; rintro e w1 ⟨rfl, hb1⟩; have k1 := (Blk.new _ _ _).after hb1; have x0 : w1.cell? ⟨w.heap.size, 0, none⟩ = some (.int .i64 c) := k1.cell 0; have x1 : w1.cell? ⟨w.heap.size, 1, none⟩ = some (.int .i64 f) := k1.cell 1; have x2 : w1.cell? ⟨w.heap.size, 2, none⟩ = some (.int .i64 r) := k1.cell 2; have x3 : w1.cell? ⟨w.heap.size, 3, none⟩ = some (.int .i64 g) := k1.cell 3; have x4 : w1.cell? ⟨w.heap.size, 4, none⟩ = some (.int .i64 h) := k1.cell 4; have K1 := Lib.hid k1; clear k1)
        go_ret2
        exact Ret.mk' rfl (by repeat (first | exact Below.refl _ _ | assumption | refine bel_drewN ?_ _ | refine Below.drew ?_ | refine bel_alloc ?_ _ | refine Below.setCell ?_ (by first | omega | (simp; done) | (simp; omega)) _ | refine bel_step ?_ (by assumption)))
    · by_cases h3 : h < 0
      · clear hm
        rcases hE with rfl | rfl
        all_goals
          go_enter Try.func23, Try.ntmps23
          go_wp2_with (go_at_call 13; refine (SY.out _).mono ?_; rintro e w1 ⟨rfl, hb1⟩; have k1 := (Blk.new _ _ _).after hb1; have x0 : w1.cell? ⟨w.heap.size, 0, none⟩ = some (.int .i64 c) := k1.cell 0; have x1 : w1.cell? ⟨w.heap.size, 1, none⟩ = some (.int .i64 f) := k1.cell 1; have x2 : w1.cell? ⟨w.heap.size, 2, none⟩ = some (.int .i64 r) := k1.cell 2; have x3 : w1.cell? ⟨w.heap.size, 3, none⟩ = some (.int .i64 g) := k1.cell 3; have x4 : w1.cell? ⟨w.heap.size, 4, none⟩ = some (.int .i64 h) := k1.cell 4; have K1 := Lib.hid k1; clear k1)
          go_ret2
          exact Ret.mk' rfl (by repeat (first | exact Below.refl _ _ | assumption | refine bel_drewN ?_ _ | refine Below.drew ?_ | refine bel_alloc ?_ _ | refine Below.setCell ?_ (by first | omega | (simp; done) | (simp; omega)) _ | refine bel_step ?_ (by assumption)))
      · by_cases h4 : L < h
        · clear hm
          rcases hE with rfl | rfl
          all_goals
            go_enter Try.func23, Try.ntmps23
            go_wp2_with (go_at_call 13; refine (SY.out _).mono ?_; rintro e w1 ⟨rfl, hb1⟩; have k1 := (Blk.new _ _ _).after hb1; have x0 : w1.cell? ⟨w.heap.size, 0, none⟩ = some (.int .i64 c) := k1.cell 0; have x1 : w1.cell? ⟨w.heap.size, 1, none⟩ = some (.int .i64 f) := k1.cell 1; have x2 : w1.cell? ⟨w.heap.size, 2, none⟩ = some (.int .i64 r) := k1.cell 2; have x3 : w1.cell? ⟨w.heap.size, 3, none⟩ = some (.int .i64 g) := k1.cell 3; have x4 : w1.cell? ⟨w.heap.size, 4, none⟩ = some (.int .i64 h) := k1.cell 4; have K1 := Lib.hid k1; clear k1)
            go_ret2
            exact Ret.mk' rfl (by repeat (first | exact Below.refl _ _ | assumption | refine bel_drewN ?_ _ | refine Below.drew ?_ | refine bel_alloc ?_ _ | refine Below.setCell ?_ (by first | omega | (simp; done) | (simp; omega)) _ | refine bel_step ?_ (by assumption)))
        · have h5 : 0 < h := by omega
          have h6 : f = 0 := by omega
          have h7 : (h == 0) = false := by simp; omega
          have h8 : (h != 0) = true := by simp; omega
          have h9 : (f == 0) = true := by simpa using h6
          clear hm h6
          rcases hE with rfl | rfl
          all_goals
            go_enter Try.func23, Try.ntmps23
            go_wp2_with (go_at_call 13; refine (SY.out _).mono ?_; rintro e w1 ⟨rfl, hb1⟩; have k1 := (Blk.new _ _ _).after hb1; have x0 : w1.cell? ⟨w.heap.size, 0, none⟩ = some (.int .i64 c) := k1.cell 0; have x1 : w1.cell? ⟨w.heap.size, 1, none⟩ = some (.int .i64 f) := k1.cell 1; have x2 : w1.cell? ⟨w.heap.size, 2, none⟩ = some (.int .i64 r) := k1.cell 2; have x3 : w1.cell? ⟨w.heap.size, 3, none⟩ = some (.int .i64 g) := k1.cell 3; have x4 : w1.cell? ⟨w.heap.size, 4, none⟩ = some (.int .i64 h) := k1.cell 4; have K1 := Lib.hid k1; clear k1)
            go_ret2
            exact Ret.mk' rfl (by repeat (first | exact Below.refl _ _ | assumption | refine bel_drewN ?_ _ | refine Below.drew ?_ | refine bel_alloc ?_ _ | refine Below.setCell ?_ (by first | omega | (simp; done) | (simp; omega)) _ | refine bel_step ?_ (by assumption)))
theorem rCell_cannot (s c f r g h L E : Int) (T : List UInt8) (w : World) (hSY : ∀ w, Calls Try.prog 13 #[.int .u8 s, .agg #[.int .i64 c, .int .i64 f]] w (Ret (.tuple #[.string (bs T), .int .i64 E]) w)) (hE : E = 31) (hr : 0 ≤ r ∧ r ≤ 3) (hg : 0 ≤ g ∧ g ≤ 4) (hm : ¬ (((L < 0 ∨ 15 < L) ∨ (h < 0 ∨ L < h)) ∨ (0 < h ∧ f = 0))) :
    Calls Try.prog 23 #[.int .u8 s, .agg #[.int .i64 c, .int .i64 f, .int .i64 r, .int .i64 g, .int .i64 h], .int .i64 L] w (Ret (.tuple #[.string (bs []), .int .i64 31]) w) := by
  have SY := Lib.hid hSY
  clear hSY
  have n1 : ¬ r < 0 := by omega
  have n2 : ¬ 3 < r := by omega
  have n3 : ¬ g < 0 := by omega
  have n4 : ¬ 4 < g := by omega
  have n5 : ¬ L < 0 := by omega
  have n6 : ¬ 15 < L := by omega
  have n7 : ¬ h < 0 := by omega
  have n8 : ¬ L < h := by omega
  have hcase : ((f == 0) = true ∧ (h == 0) = true ∧ (h != 0) = false) ∨ ((f == 0) = false ∧ True ∧ True) := by
    by_cases hz : f = 0
    · have : h = 0 := by omega
      exact .inl ⟨by simpa using hz, by simpa using this, by simpa using this⟩
    · exact .inr ⟨by simpa using hz, trivial, trivial⟩
  clear hm
  subst hE
  rcases hcase with ⟨m1, m2, m3⟩ | ⟨m1, m2, m3⟩
  all_goals
    go_enter Try.func23, Try.ntmps23
    go_wp2_with (go_at_call 13; refine (SY.out _).mono ?_; rintro e w1 ⟨rfl, hb1⟩; have k1 := (Blk.new _ _ _).after hb1; have x0 : w1.cell? ⟨w.heap.size, 0, none⟩ = some (.int .i64 c) := k1.cell 0; have x1 : w1.cell? ⟨w.heap.size, 1, none⟩ = some (.int .i64 f) := k1.cell 1; have x2 : w1.cell? ⟨w.heap.size, 2, none⟩ = some (.int .i64 r) := k1.cell 2; have x3 : w1.cell? ⟨w.heap.size, 3, none⟩ = some (.int .i64 g) := k1.cell 3; have x4 : w1.cell? ⟨w.heap.size, 4, none⟩ = some (.int .i64 h) := k1.cell 4; have K1 := Lib.hid k1; clear k1)
    go_ret2
    exact Ret.mk' rfl (by repeat (first | exact Below.refl _ _ | assumption | refine bel_drewN ?_ _ | refine Below.drew ?_ | refine bel_alloc ?_ _ | refine Below.setCell ?_ (by first | omega | (simp; done) | (simp; omega)) _ | refine bel_step ?_ (by assumption)))
end Go.Proofs.Yteldgllgagjciaa
