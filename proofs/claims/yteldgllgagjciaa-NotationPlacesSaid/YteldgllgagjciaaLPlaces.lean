/- The walk of NotationPlaces. -/
import Derived.Test.YteldgllgagjciaaWorks
import Derived.Test.YteldgllgagjciaaRPlace
namespace Go.Proofs.Yteldgllgagjciaa
open Go.RowKit
set_option maxHeartbeats 1600000
set_option maxRecDepth 100000
set_option linter.unusedVariables false
set_option linter.unusedSimpArgs false
attribute [local go_sem] mk_bs bs_size bs_toList bs_append bs_extract
theorem places_walk' (s crs : Int) (l : List UInt8) (w : World) : Calls Try.prog 4 #[.int .u8 s, .int .i64 crs, .string (bs l)] w (Ret (.bool true) w) := by
  by_cases hl : l.length ≤ 4096
  · have h1 : ¬ (4096 : Int) < (l.length : Int) := by omega
    have h2 : (l.length : Int) ≤ 4096 := by omega
    go_enter Try.func4, Try.ntmps4
    go_wp2_with (first
      | (go_at_call 15; refine (place_any _ _ _ _).mono ?_; unfold placeV; rintro e w1 ⟨rfl, hb1⟩)
      | (go_at_call 16; refine (rplace_any _ _ _ _).mono ?_; unfold placeV; rintro e w2 ⟨rfl, hb2⟩; have k2 := (Blk.new _ _ _).after hb2; have x0 : w2.cell? ⟨w1.heap.size, 0, none⟩ = some (.int .i64 (placeOf s crs l).1) := k2.cell 0; have x1 : w2.cell? ⟨w1.heap.size, 1, none⟩ = some (.int .i64 (placeOf s crs l).2.1) := k2.cell 1; have z2 : w1.heap.size < w2.heap.size := k2.lt; clear k2)
      | (go_at_call 14; refine (works_any _).mono ?_; rintro e w3 ⟨rfl, hb3⟩))
    go_ret
    exact Ret.mk' rfl (by repeat (first | exact Below.refl _ _ | assumption | refine bel_drewN ?_ _ | refine Below.drew ?_ | refine bel_alloc ?_ _ | refine Below.setCell ?_ (by first | omega | (simp; done) | (simp; omega)) _ | refine bel_step ?_ (by assumption)))
  · have h1 : (4096 : Int) < (l.length : Int) := by omega
    go_enter Try.func4, Try.ntmps4
    go_wp2_with (go_at_call 14; refine (works_any _).mono ?_; rintro e w3 ⟨rfl, hb3⟩)
    go_ret
    exact Ret.mk' rfl (by repeat (first | exact Below.refl _ _ | assumption | refine bel_drewN ?_ _ | refine Below.drew ?_ | refine bel_alloc ?_ _ | refine Below.setCell ?_ (by first | omega | (simp; done) | (simp; omega)) _ | refine bel_step ?_ (by assumption)))
theorem places_walk (s crs : Int) (t : ByteArray) (w : World) : Calls Try.prog 4 #[.int .u8 s, .int .i64 crs, .string t] w (Ret (.bool true) w) := by
  obtain ⟨l, rfl⟩ := bs_of t
  exact places_walk' s crs l w
end Go.Proofs.Yteldgllgagjciaa
