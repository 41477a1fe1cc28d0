/- Symbol and Place of the program, in any system. -/
import Derived.Test.YteldgllgagjciaaPl1
import Derived.Test.YteldgllgagjciaaPl2
import Derived.Test.YteldgllgagjciaaPl3
import Derived.Test.YteldgllgagjciaaPl4
namespace Go.Proofs.Yteldgllgagjciaa
open Go.RowKit
set_option maxHeartbeats 1600000
set_option maxRecDepth 100000
set_option linter.unusedVariables false
set_option linter.unusedSimpArgs false
attribute [local go_sem] mk_bs bs_size bs_toList bs_append bs_extract
attribute [local simp] run_cut run_cut_to run_cut_from run_add_bs
theorem psymbol_any (s c f : Int) (w : World) :
    Calls Try.prog 12 #[.int .u8 s, .agg #[.int .i64 c, .int .i64 f]] w (Ret (.tuple #[.string (bs (symTxt s c f)), .int .i64 (symErr s c f)]) w) := by
  by_cases hs : 1 ≤ s ∧ s ≤ 4
  · have h4 : s = 1 ∨ s = 2 ∨ s = 3 ∨ s = 4 := by omega
    by_cases h : (c < 1 ∨ 14 < c) ∨ (f < 0 ∨ 18 < f)
    · rcases h4 with rfl | rfl | rfl | rfl
      · exact psymbol_bad_1 c f w h
      · exact psymbol_bad_2 c f w h
      · exact psymbol_bad_3 c f w h
      · exact psymbol_bad_4 c f w h
    · have hc : 1 ≤ c ∧ c ≤ 14 := by omega
      have hf : 0 ≤ f ∧ f ≤ 18 := by omega
      rcases h4 with rfl | rfl | rfl | rfl
      · exact psymbol_ok_1 c f w hc hf
      · exact psymbol_ok_2 c f w hc hf
      · exact psymbol_ok_3 c f w hc hf
      · exact psymbol_ok_4 c f w hc hf
  · have e0 : symErr s c f = 30 := if_pos hs
    have e1 : symTxt s c f = [] := by unfold symTxt; rw [e0, if_neg (by decide)]
    rw [e0, e1]
    have hpl : ∀ w : World, Calls Try.prog 36 #[.int .u8 s, .int .i64 c, .int .i64 f] w fun e w' => e = .returned (.tuple #[.nilIface, .int .i64 30]) ∧ w = w' := by
      intro w
      have hs' : s < 1 ∨ 4 < s := by omega
      clear hs
      go_enter Try.func36, Try.ntmps36
      go_wp2_with (go_at_call 43; refine (of_bad _ _ hs').mono ?_; rintro e w' ⟨rfl, rfl⟩)
      go_ret2
      exact ⟨rfl, rfl⟩
    have H := Lib.hid hpl
    clear hpl hs e0 e1
    go_enter Try.func12, Try.ntmps12
    go_wp2_with (go_at_call 36; refine (H.out _).mono ?_; rintro e w' ⟨rfl, rfl⟩)
    go_ret2
    exact Ret.mk' rfl (by repeat (first | exact Below.refl _ _ | assumption | refine bel_drewN ?_ _ | refine Below.drew ?_ | refine bel_alloc ?_ _ | refine Below.setCell ?_ (by first | omega | (simp; done) | (simp; omega)) _ | refine bel_step ?_ (by assumption)))
theorem place_any (s crs : Int) (l : List UInt8) (w : World) :
    Calls Try.prog 15 #[.int .u8 s, .int .i64 crs, .string (bs l)] w (Ret (placeV s crs l) w) := by
  by_cases hs : 1 ≤ s ∧ s ≤ 4
  · have h4 : s = 1 ∨ s = 2 ∨ s = 3 ∨ s = 4 := by omega
    rcases h4 with rfl | rfl | rfl | rfl
    · by_cases h : spotErr 1 crs = 0
      · exact place_ok_1 crs l w h
      · exact place_bad_1 crs l w h
    · by_cases h : spotErr 2 crs = 0
      · exact place_ok_2 crs l w h
      · exact place_bad_2 crs l w h
    · by_cases h : spotErr 3 crs = 0
      · exact place_ok_3 crs l w h
      · exact place_bad_3 crs l w h
    · by_cases h : spotErr 4 crs = 0
      · exact place_ok_4 crs l w h
      · exact place_bad_4 crs l w h
  · have e0 : spotErr s crs = 30 := if_pos hs
    have HR := Lib.hid (placeOf_bad (l := l) (show spotErr s crs ≠ 0 from by rw [e0]; decide))
    rw [e0] at HR
    have hs' : s < 1 ∨ 4 < s := by omega
    have hst : ∀ w : World, Calls Try.prog 39 #[.int .u8 s, .int .i64 crs] w fun e w' => e = .returned (.tuple #[.nilIface, .int .i64 30]) ∧ w = w' := by
      intro w
      clear hs e0 HR
      go_enter Try.func39, Try.ntmps39
      go_wp2_with (go_at_call 43; refine (of_bad _ _ hs').mono ?_; rintro e w' ⟨rfl, rfl⟩)
      go_ret2
      exact ⟨rfl, rfl⟩
    have HC := Lib.hid hst
    clear hs e0 hst
    go_enter Try.func15, Try.ntmps15
    go_wp2_with (go_at_call 39; refine (HC.out _).mono ?_; rintro e w' ⟨rfl, rfl⟩)
    go_returns
    exact Ret.mk' (by unfold placeV; rw [HR.out]) (by repeat (first | exact Below.refl _ _ | assumption | refine bel_drewN ?_ _ | refine Below.drew ?_ | refine bel_alloc ?_ _ | refine Below.setCell ?_ (by first | omega | (simp; done) | (simp; omega)) _ | refine bel_step ?_ (by assumption)))
end Go.Proofs.Yteldgllgagjciaa
