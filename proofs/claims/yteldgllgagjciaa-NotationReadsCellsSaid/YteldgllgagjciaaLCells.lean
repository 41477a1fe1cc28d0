/- The laws NotationCells and NotationReadsCells: the walks. -/
import Derived.Test.YteldgllgagjciaaWorks
import Derived.Test.YteldgllgagjciaaPcA
import Derived.Test.YteldgllgagjciaaRPc
namespace Go.Proofs.Yteldgllgagjciaa
open Go.RowKit
set_option maxHeartbeats 4000000
set_option maxRecDepth 100000
set_option linter.unusedVariables false
set_option linter.unusedSimpArgs false
attribute [local go_sem] mk_bs bs_size bs_toList bs_append bs_extract
attribute [local simp] run_cut run_cut_to run_cut_from run_add_bs
theorem cells_walk (s c f r g h L : Int) (w : World) :
    Calls Try.prog 7 #[.int .u8 s, .agg #[.int .i64 c, .int .i64 f, .int .i64 r, .int .i64 g, .int .i64 h], .int .i64 L] w (Ret (.bool true) w) := by
  have HA := fun w => pCell_any s c f r g h L w
  have HB := fun w => rCell_any s c f r g h L w
  by_cases h0 : cellErr s c f r g h L = 0
  · obtain ⟨b1, b2, b3, b4, b5, b6⟩ := pc_back s c f r g h L h0
    have HC := fun w => pparse_any s (spotOf s c) L (cellTxt s c f r g h L) w
    unfold pcR at HC
    simp only [b1, b2, b3, b4, b5, b6] at HC
    simp only [h0] at HA HB
    generalize cellTxt s c f r g h L = T at *
    have HS := fun w => spot_any s c w
    generalize spotOf s c = sp at *
    have KA := Lib.hid HA
    have KB := Lib.hid HB
    have KC := Lib.hid HC
    have KS := Lib.hid HS
    clear HA HB HC HS h0 b1 b2 b3 b4 b5 b6
    go_enter Try.func7, Try.ntmps7
    go_wp2_with (first
      | (go_at_call 22; refine (KA.out _).mono ?_; rintro e w1 ⟨rfl, hb1⟩; have k1 := (Blk.new _ _ _).after hb1; have x0 : w1.cell? ⟨w.heap.size, 0, none⟩ = some (.int .i64 c) := k1.cell 0; have x1 : w1.cell? ⟨w.heap.size, 1, none⟩ = some (.int .i64 f) := k1.cell 1; have x2 : w1.cell? ⟨w.heap.size, 2, none⟩ = some (.int .i64 r) := k1.cell 2; have x3 : w1.cell? ⟨w.heap.size, 3, none⟩ = some (.int .i64 g) := k1.cell 3; have x4 : w1.cell? ⟨w.heap.size, 4, none⟩ = some (.int .i64 h) := k1.cell 4; have K1 := Lib.hid k1; clear k1)
      | (go_at_call 23; refine (KB.out _).mono ?_; rintro e w2 ⟨rfl, hb2⟩; have k2 := K1.out.after hb2; have y0 : w2.cell? ⟨w.heap.size, 0, none⟩ = some (.int .i64 c) := k2.cell 0; have y1 : w2.cell? ⟨w.heap.size, 1, none⟩ = some (.int .i64 f) := k2.cell 1; have y2 : w2.cell? ⟨w.heap.size, 2, none⟩ = some (.int .i64 r) := k2.cell 2; have y3 : w2.cell? ⟨w.heap.size, 3, none⟩ = some (.int .i64 g) := k2.cell 3; have y4 : w2.cell? ⟨w.heap.size, 4, none⟩ = some (.int .i64 h) := k2.cell 4; have K2 := Lib.hid k2; clear k2)
      | (go_at_call 17; refine (KS.out _).mono ?_; rintro e w' ⟨rfl, hw⟩; rw [hw]; clear hw)
      | (go_at_call 24; refine (KC.out _).mono ?_; rintro e w3 ⟨rfl, hb3⟩; have k3 := K2.out.after hb3; have z0 : w3.cell? ⟨w.heap.size, 0, none⟩ = some (.int .i64 c) := k3.cell 0; have z1 : w3.cell? ⟨w.heap.size, 1, none⟩ = some (.int .i64 f) := k3.cell 1; have z2 : w3.cell? ⟨w.heap.size, 2, none⟩ = some (.int .i64 r) := k3.cell 2; have z3 : w3.cell? ⟨w.heap.size, 3, none⟩ = some (.int .i64 g) := k3.cell 3; have z4 : w3.cell? ⟨w.heap.size, 4, none⟩ = some (.int .i64 h) := k3.cell 4; have hlt3 : w.heap.size < w3.heap.size := k3.lt; clear k3)
      | (go_at_call 14; refine (works_any _).mono ?_; rintro e w4 ⟨rfl, hb4⟩))
    go_ret
    exact Ret.mk' (by simp) (by repeat (first | exact Below.refl _ _ | assumption | refine bel_drewN ?_ _ | refine Below.drew ?_ | refine bel_alloc ?_ _ | refine Below.setCell ?_ (by first | omega | (simp; done) | (simp; omega)) _ | refine bel_step ?_ (by assumption)))
  · have h1 : (cellErr s c f r g h L == 0) = false := by simpa using h0
    have h2 : (cellErr s c f r g h L != 0) = true := by simpa using h0
    generalize cellTxt s c f r g h L = T at *
    generalize cellErr s c f r g h L = E at *
    have KA := Lib.hid HA
    have KB := Lib.hid HB
    clear HA HB h0
    go_enter Try.func7, Try.ntmps7
    go_wp2_with (first
      | (go_at_call 22; refine (KA.out _).mono ?_; rintro e w1 ⟨rfl, hb1⟩; have k1 := (Blk.new _ _ _).after hb1; have x0 : w1.cell? ⟨w.heap.size, 0, none⟩ = some (.int .i64 c) := k1.cell 0; have x1 : w1.cell? ⟨w.heap.size, 1, none⟩ = some (.int .i64 f) := k1.cell 1; have x2 : w1.cell? ⟨w.heap.size, 2, none⟩ = some (.int .i64 r) := k1.cell 2; have x3 : w1.cell? ⟨w.heap.size, 3, none⟩ = some (.int .i64 g) := k1.cell 3; have x4 : w1.cell? ⟨w.heap.size, 4, none⟩ = some (.int .i64 h) := k1.cell 4; have K1 := Lib.hid k1; clear k1)
      | (go_at_call 23; refine (KB.out _).mono ?_; rintro e w2 ⟨rfl, hb2⟩)
      | (go_at_call 14; refine (works_any _).mono ?_; rintro e w4 ⟨rfl, hb4⟩))
    go_ret
    exact Ret.mk' (by simp) (by repeat (first | exact Below.refl _ _ | assumption | refine bel_drewN ?_ _ | refine Below.drew ?_ | refine bel_alloc ?_ _ | refine Below.setCell ?_ (by first | omega | (simp; done) | (simp; omega)) _ | refine bel_step ?_ (by assumption)))
theorem reads_walk (s crs L : Int) (t : ByteArray) (w : World) :
    Calls Try.prog 8 #[.agg #[.int .u8 s, .int .i64 crs, .int .i64 L, .string t]] w (Ret (.bool true) w) := by
  obtain ⟨l, rfl⟩ := bs_of t
  by_cases hb : 64 < l.length
  · go_enter Try.func8, Try.ntmps8
    go_wp2_with (go_at_call 14; refine (works_any _).mono ?_; rintro e w4 ⟨rfl, hb4⟩)
    go_ret
    exact Ret.mk' rfl (by repeat (first | exact Below.refl _ _ | assumption | refine bel_drewN ?_ _ | refine Below.drew ?_ | refine bel_alloc ?_ _ | refine Below.setCell ?_ (by first | omega | (simp; done) | (simp; omega)) _ | refine bel_step ?_ (by assumption)))
  · have HA := fun w => pparse_any s crs L l w
    have HB := fun w => rparse_any s crs L l w (by omega)
    unfold pcR at HA HB
    generalize pcA s crs L l = a at *
    generalize pcB s crs L l = b at *
    generalize pcC s crs L l = c at *
    generalize pcD s crs L l = d at *
    generalize pcE s crs L l = e at *
    generalize pcF s crs L l = f at *
    have KA := Lib.hid HA
    have KB := Lib.hid HB
    clear HA HB
    go_enter Try.func8, Try.ntmps8
    go_wp2_with (first
      | (go_at_call 24; refine (KA.out _).mono ?_; rintro e' w1 ⟨rfl, hb1⟩; have k1 := (Blk.new _ _ _).after hb1; have x0 : w1.cell? ⟨w.heap.size, 0, none⟩ = some (.int .u8 s) := k1.cell 0; have x1 : w1.cell? ⟨w.heap.size, 1, none⟩ = some (.int .i64 crs) := k1.cell 1; have x2 : w1.cell? ⟨w.heap.size, 2, none⟩ = some (.int .i64 L) := k1.cell 2; have x3 : w1.cell? ⟨w.heap.size, 3, none⟩ = some (.string (bs l)) := k1.cell 3; have hlt1 : w.heap.size < w1.heap.size := k1.lt; clear k1)
      | (go_at_call 25; refine (KB.out _).mono ?_; rintro e' w2 ⟨rfl, hb2⟩; have k2 := (Blk.new _ _ _).after hb2; have y0 : w2.cell? ⟨w1.heap.size, 0, none⟩ = some (.int .i64 a) := k2.cell 0; have y1 : w2.cell? ⟨w1.heap.size, 1, none⟩ = some (.int .i64 b) := k2.cell 1; have y2 : w2.cell? ⟨w1.heap.size, 2, none⟩ = some (.int .i64 c) := k2.cell 2; have y3 : w2.cell? ⟨w1.heap.size, 3, none⟩ = some (.int .i64 d) := k2.cell 3; have y4 : w2.cell? ⟨w1.heap.size, 4, none⟩ = some (.int .i64 e) := k2.cell 4; have hlt2 : w1.heap.size < w2.heap.size := k2.lt; clear k2)
      | (go_at_call 14; refine (works_any _).mono ?_; rintro e' w4 ⟨rfl, hb4⟩))
    go_ret
    exact Ret.mk' (by simp) (by repeat (first | exact Below.refl _ _ | assumption | refine bel_drewN ?_ _ | refine Below.drew ?_ | refine bel_alloc ?_ _ | refine Below.setCell ?_ (by first | omega | (simp; done) | (simp; omega)) _ | refine bel_step ?_ (by assumption)))
theorem reads_perm (s crs L : Int) (t : ByteArray) (w : World) :
    Calls Try.prog 8 #[.agg #[.int .u8 s, .int .i64 crs, .int .i64 L, .string t]] w (Ret (.bool true) w) := reads_walk s crs L t w
end Go.Proofs.Yteldgllgagjciaa
