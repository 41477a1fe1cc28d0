/- 'works': the look at the chapter's examples returns true. -/
import Derived.Test.YteldgllgagjciaaPlA
import Derived.Test.YteldgllgagjciaaCell1
namespace Go.Proofs.Yteldgllgagjciaa
open Go.RowKit
set_option maxHeartbeats 1600000
set_option maxRecDepth 100000
set_option linter.unusedVariables false
set_option linter.unusedSimpArgs false
attribute [local go_sem] mk_bs bs_size bs_toList bs_append bs_extract
theorem works_e1 : symTxt 4 6 4 = [68] := by decide +kernel
theorem works_e2 : symErr 4 6 4 = 0 := by decide +kernel
theorem works_e3 : placeOf 4 0 [38] = (2, 5, 0) := by decide +kernel
theorem works_e4 : cellTxt 1 1 2 1 0 3 4 = [99, 46, 95, 51] := by decide +kernel
theorem works_e5 : cellErr 1 1 2 1 0 3 4 = 0 := by decide +kernel
theorem works_place (w : World) : Calls Try.prog 15 #[.int .u8 4, .int .i64 0, .string (bs [38])] w (Ret (.tuple #[.agg #[.int .i64 2, .int .i64 5], .int .i64 0]) w) := by
  have h := place_any 4 0 [38] w
  unfold placeV at h
  rw [works_e3] at h
  exact h
theorem works_any (w : World) : Calls Try.prog 14 #[] w (Ret (.bool true) w) := by
  have e1 := works_e1
  have e2 := works_e2
  have e4 := works_e4
  have e5 := works_e5
  go_enter Try.func14, Try.ntmps14
  go_wp2_with (first
    | (go_at_call 12; refine (psymbol_any _ _ _ _).mono ?_; rintro e w1 ⟨rfl, hb1⟩)
    | (go_at_call 15; refine (works_place _).mono ?_; rintro e w2 ⟨rfl, hb2⟩)
    | (go_at_call 22; refine (pCell_1 _ _ _ _ _ _ _).mono ?_; rintro e w3 ⟨rfl, hb3⟩; have k3 := (Blk.new _ _ _).after hb3; have x0 : w3.cell? ⟨w2.heap.size, 0, none⟩ = some (.int .i64 2) := k3.cell 0; have x1 : w3.cell? ⟨w2.heap.size, 1, none⟩ = some (.int .i64 5) := k3.cell 1; clear k3))
  go_ret
  exact Ret.mk' rfl (by repeat (first | exact Below.refl _ _ | assumption | refine bel_drewN ?_ _ | refine Below.drew ?_ | refine bel_alloc ?_ _ | refine Below.setCell ?_ (by first | omega | (simp; done) | (simp; omega)) _ | refine bel_step ?_ (by assumption)))
end Go.Proofs.Yteldgllgagjciaa
