/- The walk of NotationSymbols. -/
import Derived.Test.YteldgllgagjciaaWorks
import Derived.Test.YteldgllgagjciaaRPl
namespace Go.Proofs.Yteldgllgagjciaa
open Go.RowKit
set_option maxHeartbeats 1600000
set_option maxRecDepth 100000
set_option linter.unusedVariables false
set_option linter.unusedSimpArgs false
attribute [local go_sem] mk_bs bs_size bs_toList bs_append bs_extract
theorem symbols_walk (s c f : Int) (w : World) : Calls Try.prog 3 #[.int .u8 s, .agg #[.int .i64 c, .int .i64 f]] w (Ret (.bool true) w) := by
  go_enter Try.func3, Try.ntmps3
  go_wp2_with (first
    | (go_at_call 12; refine (psymbol_any _ _ _ _).mono ?_; rintro e w1 ⟨rfl, hb1⟩; have k1 := (Blk.new _ _ _).after hb1; have x0 : w1.cell? ⟨w.heap.size, 0, none⟩ = some (.int .i64 c) := k1.cell 0; have x1 : w1.cell? ⟨w.heap.size, 1, none⟩ = some (.int .i64 f) := k1.cell 1; clear k1)
    | (go_at_call 13; refine (rsymbolT_any _ _ _ _).mono ?_; rintro e w2 ⟨rfl, hb2⟩)
    | (go_at_call 14; refine (works_any _).mono ?_; rintro e w3 ⟨rfl, hb3⟩))
  go_ret
  exact Ret.mk' rfl (by repeat (first | exact Below.refl _ _ | assumption | refine bel_drewN ?_ _ | refine Below.drew ?_ | refine bel_alloc ?_ _ | refine Below.setCell ?_ (by first | omega | (simp; done) | (simp; omega)) _ | refine bel_step ?_ (by assumption)))
end Go.Proofs.Yteldgllgagjciaa
