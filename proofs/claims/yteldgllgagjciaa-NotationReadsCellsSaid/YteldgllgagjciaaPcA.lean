/- Cell and ParseCell of the program, in any system. -/
import Derived.Test.YteldgllgagjciaaPlA
import Derived.Test.YteldgllgagjciaaCell1
import Derived.Test.YteldgllgagjciaaCell2
import Derived.Test.YteldgllgagjciaaCell3
import Derived.Test.YteldgllgagjciaaCell4
import Derived.Test.YteldgllgagjciaaPc1
import Derived.Test.YteldgllgagjciaaPc2
import Derived.Test.YteldgllgagjciaaPc3
import Derived.Test.YteldgllgagjciaaPc4
namespace Go.Proofs.Yteldgllgagjciaa
open Go.RowKit
set_option maxHeartbeats 1600000
set_option maxRecDepth 100000
set_option linter.unusedVariables false
set_option linter.unusedSimpArgs false
attribute [local go_sem] mk_bs bs_size bs_toList bs_append bs_extract
attribute [local simp] run_cut run_cut_to run_cut_from run_add_bs
theorem pCell_any (s c f r g h L : Int) (w : World) :
    Calls Try.prog 22 #[.int .u8 s, .agg #[.int .i64 c, .int .i64 f, .int .i64 r, .int .i64 g, .int .i64 h], .int .i64 L] w (Ret (.tuple #[.string (bs (cellTxt s c f r g h L)), .int .i64 (cellErr s c f r g h L)]) w) := by
  by_cases hs : 1 ≤ s ∧ s ≤ 4
  · have h4 : s = 1 ∨ s = 2 ∨ s = 3 ∨ s = 4 := by omega
    rcases h4 with rfl | rfl | rfl | rfl
    · exact pCell_1 c f r g h L w
    · exact pCell_2 c f r g h L w
    · exact pCell_3 c f r g h L w
    · exact pCell_4 c f r g h L w
  · have e0 : symErr s c f = 30 := if_pos hs
    have e1 : cellErr s c f r g h L = 30 := by unfold cellErr; rw [e0, if_pos (by decide)]
    have e2 : cellTxt s c f r g h L = [] := by unfold cellTxt; rw [e1, if_neg (by decide)]
    rw [e1, e2]
    have hs' : s < 1 ∨ 4 < s := by omega
    have hpl : ∀ w : World, Calls Try.prog 36 #[.int .u8 s, .int .i64 c, .int .i64 f] w fun e w' => e = .returned (.tuple #[.nilIface, .int .i64 30]) ∧ w = w' := by
      intro w
      clear hs e0 e1 e2
      go_enter Try.func36, Try.ntmps36
      go_wp2_with (go_at_call 43; refine (of_bad _ _ hs').mono ?_; rintro e w' ⟨rfl, rfl⟩)
      go_ret2
      exact ⟨rfl, rfl⟩
    have H := Lib.hid hpl
    clear hpl hs e0 e1 e2
    go_enter Try.func22, Try.ntmps22
    go_wp2_with (go_at_call 36; refine (H.out _).mono ?_; rintro e w' ⟨rfl, rfl⟩)
    go_ret2
    exact Ret.mk' rfl (by repeat (first | exact Below.refl _ _ | assumption | refine bel_drewN ?_ _ | refine Below.drew ?_ | refine bel_alloc ?_ _ | refine Below.setCell ?_ (by first | omega | (simp; done) | (simp; omega)) _ | refine bel_step ?_ (by assumption)))
theorem pparse_any (s crs L : Int) (l : List UInt8) (w : World) :
    Calls Try.prog 24 #[.int .u8 s, .int .i64 crs, .string (bs l), .int .i64 L] w (Ret (pcR s crs L l) w) := by
  by_cases hs : 1 ≤ s ∧ s ≤ 4
  · have h4 : s = 1 ∨ s = 2 ∨ s = 3 ∨ s = 4 := by omega
    rcases h4 with rfl | rfl | rfl | rfl
    · exact pparse_1 crs L l w
    · exact pparse_2 crs L l w
    · exact pparse_3 crs L l w
    · exact pparse_4 crs L l w
  · have e0 : spotErr s crs = 30 := if_pos hs
    have HR := Lib.hid (pcV_eq (v := pcVal 0 0 0 0 0 30) (show PcV s crs L l (pcVal 0 0 0 0 0 30) from .inl ⟨by rw [e0]; decide, by rw [e0]⟩))
    have hs' : s < 1 ∨ 4 < s := by omega
    have hst : ∀ w : World, Calls Try.prog 39 #[.int .u8 s, .int .i64 crs] w fun e w' => e = .returned (.tuple #[.nilIface, .int .i64 30]) ∧ w = w' := by
      intro w
      clear hs e0 HR
      go_enter Try.func39, Try.ntmps39
      go_wp2_with (go_at_call 43; refine (of_bad _ _ hs').mono ?_; rintro e w' ⟨rfl, rfl⟩)
      go_ret2
      exact ⟨rfl, rfl⟩
    have HC := Lib.hid hst
    clear hs e0 hst
    go_enter Try.func24, Try.ntmps24
    go_wp2_with (go_at_call 39; refine (HC.out _).mono ?_; rintro e w' ⟨rfl, rfl⟩)
    go_returns
    exact Ret.mk' (by rw [← HR.out]; rfl) (by repeat (first | exact Below.refl _ _ | assumption | refine bel_drewN ?_ _ | refine Below.drew ?_ | refine bel_alloc ?_ _ | refine Below.setCell ?_ (by first | omega | (simp; done) | (simp; omega)) _ | refine bel_step ?_ (by assumption)))
end Go.Proofs.Yteldgllgagjciaa
