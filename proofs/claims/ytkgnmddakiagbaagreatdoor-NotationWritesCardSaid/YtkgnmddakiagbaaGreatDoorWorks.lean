/- 'works': the look at the chapter's examples returns true. -/
import Derived.Test.YtkgnmddakiagbaaGreatDoorPl1
import Derived.Test.YtkgnmddakiagbaaGreatDoorPl2
import Derived.Test.YtkgnmddakiagbaaGreatDoorPl3
import Derived.Test.YtkgnmddakiagbaaGreatDoorPl4
import Derived.Test.YtkgnmddakiagbaaGreatDoorMk1

/- Symbol and Place of the program, in any system. -/
namespace Go.Proofs.YtkgnmddakiagbaaGreatDoor
open Go.RowKit
set_option maxHeartbeats 1600000
set_option maxRecDepth 100000
set_option linter.unusedVariables false
set_option linter.unusedSimpArgs false
attribute [local go_sem] mk_bs bs_size bs_toList bs_append bs_extract
attribute [local simp] run_cut run_cut_to run_cut_from run_add_bs
theorem psymbol_any (s c f : Int) (w : World) :
    Calls Tryz.prog 41 #[.int .u8 s, .agg #[.int .i64 c, .int .i64 f]] w (Ret (.tuple #[.string (bs (symTxt s c f)), .int .i64 (symErr s c f)]) w) := by
  by_cases hs : 1 ≤ s ∧ s ≤ 4
  · have h4 : s = 1 ∨ s = 2 ∨ s = 3 ∨ s = 4 := by omega
    by_cases h : (c < 1 ∨ 14 < c) ∨ (f < 0 ∨ 18 < f)
    · rcases h4 with rfl | rfl | rfl | rfl
      · exact psymbol_bad_1 c f w h
      · exact psymbol_bad_2 c f w h
      · exact psymbol_bad_3 c f w h
      · exact psymbol_bad_4 c f w h
    · have hc : 1 ≤ c ∧ c ≤ 14 := by omega
      have hf : 0 ≤ f ∧ f ≤ 18 := by omega
      rcases h4 with rfl | rfl | rfl | rfl
      · exact psymbol_ok_1 c f w hc hf
      · exact psymbol_ok_2 c f w hc hf
      · exact psymbol_ok_3 c f w hc hf
      · exact psymbol_ok_4 c f w hc hf
  · have e0 : symErr s c f = 30 := if_pos hs
    have e1 : symTxt s c f = [] := by unfold symTxt; rw [e0, if_neg (by decide)]
    rw [e0, e1]
    have hpl : ∀ w : World, Calls Tryz.prog 112 #[.int .u8 s, .int .i64 c, .int .i64 f] w fun e w' => e = .returned (.tuple #[.nilIface, .int .i64 30]) ∧ w = w' := by
      intro w
      have hs' : s < 1 ∨ 4 < s := by omega
      clear hs
      go_enter Tryz.func112, Tryz.ntmps112
      go_wp2_with (go_at_call 44; refine (of_bad _ _ hs').mono ?_; rintro e w' ⟨rfl, rfl⟩)
      go_ret2
      exact ⟨rfl, rfl⟩
    have H := Lib.hid hpl
    clear hpl hs e0 e1
    go_enter Tryz.func41, Tryz.ntmps41
    go_wp2_with (go_at_call 112; refine (H.out _).mono ?_; rintro e w' ⟨rfl, rfl⟩)
    go_ret2
    exact Ret.mk' rfl (by repeat (first | exact Below.refl _ _ | assumption | refine bel_drewN ?_ _ | refine Below.drew ?_ | refine bel_alloc ?_ _ | refine Below.setCell ?_ (by first | omega | (simp; done) | (simp; omega)) _ | refine bel_step ?_ (by assumption)))
theorem place_any (s crs : Int) (l : List UInt8) (w : World) :
    Calls Tryz.prog 42 #[.int .u8 s, .int .i64 crs, .string (bs l)] w (Ret (placeV s crs l) w) := by
  by_cases hs : 1 ≤ s ∧ s ≤ 4
  · have h4 : s = 1 ∨ s = 2 ∨ s = 3 ∨ s = 4 := by omega
    rcases h4 with rfl | rfl | rfl | rfl
    · by_cases h : spotErr 1 crs = 0
      · exact place_ok_1 crs l w h
      · exact place_bad_1 crs l w h
    · by_cases h : spotErr 2 crs = 0
      · exact place_ok_2 crs l w h
      · exact place_bad_2 crs l w h
    · by_cases h : spotErr 3 crs = 0
      · exact place_ok_3 crs l w h
      · exact place_bad_3 crs l w h
    · by_cases h : spotErr 4 crs = 0
      · exact place_ok_4 crs l w h
      · exact place_bad_4 crs l w h
  · have e0 : spotErr s crs = 30 := if_pos hs
    have HR := Lib.hid (placeOf_bad (l := l) (show spotErr s crs ≠ 0 from by rw [e0]; decide))
    rw [e0] at HR
    have hs' : s < 1 ∨ 4 < s := by omega
    have hst : ∀ w : World, Calls Tryz.prog 113 #[.int .u8 s, .int .i64 crs] w fun e w' => e = .returned (.tuple #[.nilIface, .int .i64 30]) ∧ w = w' := by
      intro w
      clear hs e0 HR
      go_enter Tryz.func113, Tryz.ntmps113
      go_wp2_with (go_at_call 44; refine (of_bad _ _ hs').mono ?_; rintro e w' ⟨rfl, rfl⟩)
      go_ret2
      exact ⟨rfl, rfl⟩
    have HC := Lib.hid hst
    clear hs e0 hst
    go_enter Tryz.func42, Tryz.ntmps42
    go_wp2_with (go_at_call 113; refine (HC.out _).mono ?_; rintro e w' ⟨rfl, rfl⟩)
    go_returns
    exact Ret.mk' (by unfold placeV; rw [HR.out]) (by repeat (first | exact Below.refl _ _ | assumption | refine bel_drewN ?_ _ | refine Below.drew ?_ | refine bel_alloc ?_ _ | refine Below.setCell ?_ (by first | omega | (simp; done) | (simp; omega)) _ | refine bel_step ?_ (by assumption)))
end Go.Proofs.YtkgnmddakiagbaaGreatDoor

/- Cell of the program, in one system. -/
namespace Go.Proofs.YtkgnmddakiagbaaGreatDoor
open Go.RowKit
set_option maxHeartbeats 1600000
set_option maxRecDepth 100000
set_option linter.unusedVariables false
set_option linter.unusedSimpArgs false
attribute [local go_sem] mk_bs bs_size bs_toList bs_append bs_extract
attribute [local simp] run_cut run_cut_to run_cut_from run_add_bs
theorem pCell_marks_1 (c f r g h L : Int) (w : World) (hc : 1 ≤ c ∧ c ≤ 14) (hf : 0 ≤ f ∧ f ≤ 18) (hm : (r < 0 ∨ 3 < r) ∨ (g < 0 ∨ 4 < g)) :
    Calls Tryz.prog 43 #[.int .u8 1, .agg #[.int .i64 c, .int .i64 f, .int .i64 r, .int .i64 g, .int .i64 h], .int .i64 L] w (Ret (.tuple #[.string (bs []), .int .i64 23]) w) := by
  by_cases h1 : r < 0
  · clear hm
    go_enter Tryz.func43, Tryz.ntmps43
    go_wp2_with (go_at_call 112; refine (placed_1 _ _ _ hc hf).mono ?_; rintro e w' ⟨rfl, rfl⟩)
    go_ret2
    exact Ret.mk' rfl (by repeat (first | exact Below.refl _ _ | assumption | refine bel_drewN ?_ _ | refine Below.drew ?_ | refine bel_alloc ?_ _ | refine Below.setCell ?_ (by first | omega | (simp; done) | (simp; omega)) _ | refine bel_step ?_ (by assumption)))
  · by_cases h2 : 3 < r
    · clear hm
      go_enter Tryz.func43, Tryz.ntmps43
      go_wp2_with (go_at_call 112; refine (placed_1 _ _ _ hc hf).mono ?_; rintro e w' ⟨rfl, rfl⟩)
      go_ret2
      exact Ret.mk' rfl (by repeat (first | exact Below.refl _ _ | assumption | refine bel_drewN ?_ _ | refine Below.drew ?_ | refine bel_alloc ?_ _ | refine Below.setCell ?_ (by first | omega | (simp; done) | (simp; omega)) _ | refine bel_step ?_ (by assumption)))
    · by_cases h3 : g < 0
      · clear hm
        go_enter Tryz.func43, Tryz.ntmps43
        go_wp2_with (go_at_call 112; refine (placed_1 _ _ _ hc hf).mono ?_; rintro e w' ⟨rfl, rfl⟩)
        go_ret2
        exact Ret.mk' rfl (by repeat (first | exact Below.refl _ _ | assumption | refine bel_drewN ?_ _ | refine Below.drew ?_ | refine bel_alloc ?_ _ | refine Below.setCell ?_ (by first | omega | (simp; done) | (simp; omega)) _ | refine bel_step ?_ (by assumption)))
      · have h4 : 4 < g := by omega
        clear hm
        go_enter Tryz.func43, Tryz.ntmps43
        go_wp2_with (go_at_call 112; refine (placed_1 _ _ _ hc hf).mono ?_; rintro e w' ⟨rfl, rfl⟩)
        go_ret2
        exact Ret.mk' rfl (by repeat (first | exact Below.refl _ _ | assumption | refine bel_drewN ?_ _ | refine Below.drew ?_ | refine bel_alloc ?_ _ | refine Below.setCell ?_ (by first | omega | (simp; done) | (simp; omega)) _ | refine bel_step ?_ (by assumption)))
theorem pCell_holds_1 (c f r g h L : Int) (w : World) (hc : 1 ≤ c ∧ c ≤ 14) (hf : 0 ≤ f ∧ f ≤ 18) (hr : 0 ≤ r ∧ r ≤ 3) (hg : 0 ≤ g ∧ g ≤ 4) (hm : ((L < 0 ∨ 15 < L) ∨ (h < 0 ∨ L < h)) ∨ (0 < h ∧ f = 0)) :
    Calls Tryz.prog 43 #[.int .u8 1, .agg #[.int .i64 c, .int .i64 f, .int .i64 r, .int .i64 g, .int .i64 h], .int .i64 L] w (Ret (.tuple #[.string (bs []), .int .i64 24]) w) := by
  have n1 : ¬ r < 0 := by omega
  have n2 : ¬ 3 < r := by omega
  have n3 : ¬ g < 0 := by omega
  have n4 : ¬ 4 < g := by omega
  by_cases h1 : L < 0
  · clear hm
    go_enter Tryz.func43, Tryz.ntmps43
    go_wp2_with (go_at_call 112; refine (placed_1 _ _ _ hc hf).mono ?_; rintro e w' ⟨rfl, rfl⟩)
    go_ret2
    exact Ret.mk' rfl (by repeat (first | exact Below.refl _ _ | assumption | refine bel_drewN ?_ _ | refine Below.drew ?_ | refine bel_alloc ?_ _ | refine Below.setCell ?_ (by first | omega | (simp; done) | (simp; omega)) _ | refine bel_step ?_ (by assumption)))
  · by_cases h2 : 15 < L
    · clear hm
      go_enter Tryz.func43, Tryz.ntmps43
      go_wp2_with (go_at_call 112; refine (placed_1 _ _ _ hc hf).mono ?_; rintro e w' ⟨rfl, rfl⟩)
      go_ret2
      exact Ret.mk' rfl (by repeat (first | exact Below.refl _ _ | assumption | refine bel_drewN ?_ _ | refine Below.drew ?_ | refine bel_alloc ?_ _ | refine Below.setCell ?_ (by first | omega | (simp; done) | (simp; omega)) _ | refine bel_step ?_ (by assumption)))
    · by_cases h3 : h < 0
      · clear hm
        go_enter Tryz.func43, Tryz.ntmps43
        go_wp2_with (go_at_call 112; refine (placed_1 _ _ _ hc hf).mono ?_; rintro e w' ⟨rfl, rfl⟩)
        go_ret2
        exact Ret.mk' rfl (by repeat (first | exact Below.refl _ _ | assumption | refine bel_drewN ?_ _ | refine Below.drew ?_ | refine bel_alloc ?_ _ | refine Below.setCell ?_ (by first | omega | (simp; done) | (simp; omega)) _ | refine bel_step ?_ (by assumption)))
      · by_cases h4 : L < h
        · clear hm
          go_enter Tryz.func43, Tryz.ntmps43
          go_wp2_with (go_at_call 112; refine (placed_1 _ _ _ hc hf).mono ?_; rintro e w' ⟨rfl, rfl⟩)
          go_ret2
          exact Ret.mk' rfl (by repeat (first | exact Below.refl _ _ | assumption | refine bel_drewN ?_ _ | refine Below.drew ?_ | refine bel_alloc ?_ _ | refine Below.setCell ?_ (by first | omega | (simp; done) | (simp; omega)) _ | refine bel_step ?_ (by assumption)))
        · have h5 : 0 < h := by omega
          have h6 : f = 0 := by omega
          subst h6
          clear hm
          go_enter Tryz.func43, Tryz.ntmps43
          go_wp2_with (go_at_call 112; refine (placed_1 _ _ _ hc hf).mono ?_; rintro e w' ⟨rfl, rfl⟩)
          go_ret2
          exact Ret.mk' rfl (by repeat (first | exact Below.refl _ _ | assumption | refine bel_drewN ?_ _ | refine Below.drew ?_ | refine bel_alloc ?_ _ | refine Below.setCell ?_ (by first | omega | (simp; done) | (simp; omega)) _ | refine bel_step ?_ (by assumption)))
theorem pCell_ok_1 (c f r g h L : Int) (w : World) (hc : 1 ≤ c ∧ c ≤ 14) (hf : 0 ≤ f ∧ f ≤ 18) (hr : 0 ≤ r ∧ r ≤ 3) (hg : 0 ≤ g ∧ g ≤ 4) (hm : ¬ (((L < 0 ∨ 15 < L) ∨ (h < 0 ∨ L < h)) ∨ (0 < h ∧ f = 0))) :
    Calls Tryz.prog 43 #[.int .u8 1, .agg #[.int .i64 c, .int .i64 f, .int .i64 r, .int .i64 g, .int .i64 h], .int .i64 L] w (Ret (if cellOk 1 c f r g h L = true then .tuple #[.string (bs (cellS 1 c f r g h L)), .int .i64 0] else .tuple #[.string (bs []), .int .i64 31]) w) := by
  have n1 : ¬ r < 0 := by omega
  have n2 : ¬ 3 < r := by omega
  have n3 : ¬ g < 0 := by omega
  have n4 : ¬ 4 < g := by omega
  have n5 : ¬ L < 0 := by omega
  have n6 : ¬ 15 < L := by omega
  have n7 : ¬ h < 0 := by omega
  have n8 : ¬ L < h := by omega
  have hh : 0 ≤ h ∧ h ≤ 15 := by omega
  by_cases hz : 0 < h
  · have hf0 : (f == 0) = false := by simp; omega
    clear hm
    cases hok : cellOk 1 c f r g h L
    all_goals
      go_enter Tryz.func43, Tryz.ntmps43
      go_wp2_with (first | (go_at_call 112; refine (placed_1 _ _ _ hc hf).mono ?_; rintro e w' ⟨rfl, rfl⟩) | (go_at_call 115; refine (pcell_1 _ _ _ _ _ _ _ hc hf hr hg hh).mono ?_; rintro e w1 ⟨rfl, hb1⟩))
      go_ret2
      exact Ret.mk' rfl (by repeat (first | exact Below.refl _ _ | assumption | refine bel_drewN ?_ _ | refine Below.drew ?_ | refine bel_alloc ?_ _ | refine Below.setCell ?_ (by first | omega | (simp; done) | (simp; omega)) _ | refine bel_step ?_ (by assumption)))
  · clear hm
    cases hok : cellOk 1 c f r g h L
    all_goals
      go_enter Tryz.func43, Tryz.ntmps43
      go_wp2_with (first | (go_at_call 112; refine (placed_1 _ _ _ hc hf).mono ?_; rintro e w' ⟨rfl, rfl⟩) | (go_at_call 115; refine (pcell_1 _ _ _ _ _ _ _ hc hf hr hg hh).mono ?_; rintro e w1 ⟨rfl, hb1⟩))
      go_ret2
      exact Ret.mk' rfl (by repeat (first | exact Below.refl _ _ | assumption | refine bel_drewN ?_ _ | refine Below.drew ?_ | refine bel_alloc ?_ _ | refine Below.setCell ?_ (by first | omega | (simp; done) | (simp; omega)) _ | refine bel_step ?_ (by assumption)))
theorem pCell_place_1 (c f r g h L : Int) (w : World) (hb : (c < 1 ∨ 14 < c) ∨ (f < 0 ∨ 18 < f)) :
    Calls Tryz.prog 43 #[.int .u8 1, .agg #[.int .i64 c, .int .i64 f, .int .i64 r, .int .i64 g, .int .i64 h], .int .i64 L] w (Ret (.tuple #[.string (bs []), .int .i64 (symErr 1 c f)]) w) := by
  rw [symErr_bad 1 c f (by decide) hb]
  obtain ⟨E, hE1, hE2⟩ : ∃ E : Int, (if c < 1 ∨ 14 < c then 12 else 13) = E ∧ E ≠ 0 := ⟨_, rfl, by by_cases hc : c < 1 ∨ 14 < c <;> simp [hc]⟩
  have hb2 : (E == 0) = false := by simp; exact hE2
  have hb3 : (E != 0) = true := by simp; exact hE2
  have hpl := placed_bad_1 c f
  rw [hE1] at hpl ⊢
  have H := Lib.hid hpl
  have HB := Lib.hid hb
  clear hpl hE1 hb
  go_enter Tryz.func43, Tryz.ntmps43
  go_wp2_with (go_at_call 112; refine (H.out _ HB.out).mono ?_; rintro e w' ⟨rfl, rfl⟩)
  go_ret2
  exact Ret.mk' rfl (by repeat (first | exact Below.refl _ _ | assumption | refine bel_drewN ?_ _ | refine Below.drew ?_ | refine bel_alloc ?_ _ | refine Below.setCell ?_ (by first | omega | (simp; done) | (simp; omega)) _ | refine bel_step ?_ (by assumption)))
theorem pCell_1 (c f r g h L : Int) (w : World) :
    Calls Tryz.prog 43 #[.int .u8 1, .agg #[.int .i64 c, .int .i64 f, .int .i64 r, .int .i64 g, .int .i64 h], .int .i64 L] w (Ret (.tuple #[.string (bs (cellTxt 1 c f r g h L)), .int .i64 (cellErr 1 c f r g h L)]) w) := by
  by_cases hb : (c < 1 ∨ 14 < c) ∨ (f < 0 ∨ 18 < f)
  · have e := cellErr_place 1 c f r g h L (by decide) hb
    rw [e.1, e.2]; exact pCell_place_1 c f r g h L w hb
  · have hc : 1 ≤ c ∧ c ≤ 14 := by omega
    have hf : 0 ≤ f ∧ f ≤ 18 := by omega
    by_cases h1 : (r < 0 ∨ 3 < r) ∨ (g < 0 ∨ 4 < g)
    · have e := cellErr_marks 1 c f r g h L (by decide) hc hf h1
      rw [e.1, e.2]; exact pCell_marks_1 c f r g h L w hc hf h1
    · have hr : 0 ≤ r ∧ r ≤ 3 := by omega
      have hg : 0 ≤ g ∧ g ≤ 4 := by omega
      by_cases h2 : ((L < 0 ∨ 15 < L) ∨ (h < 0 ∨ L < h)) ∨ (0 < h ∧ f = 0)
      · have e := cellErr_holds 1 c f r g h L (by decide) hc hf h1 h2
        rw [e.1, e.2]; exact pCell_holds_1 c f r g h L w hc hf hr hg h2
      · have e := cellErr_ok 1 c f r g h L (by decide) hc hf h1 h2
        rw [e]; exact pCell_ok_1 c f r g h L w hc hf hr hg h2
end Go.Proofs.YtkgnmddakiagbaaGreatDoor

namespace Go.Proofs.YtkgnmddakiagbaaGreatDoor
open Go.RowKit
set_option maxHeartbeats 1600000
set_option maxRecDepth 100000
set_option linter.unusedVariables false
set_option linter.unusedSimpArgs false
attribute [local go_sem] mk_bs bs_size bs_toList bs_append bs_extract
theorem works_e1 : symTxt 4 6 4 = [68] := by decide +kernel
theorem works_e2 : symErr 4 6 4 = 0 := by decide +kernel
theorem works_e3 : placeOf 4 0 [38] = (2, 5, 0) := by decide +kernel
theorem works_e4 : cellTxt 1 1 2 1 0 3 4 = [99, 46, 95, 51] := by decide +kernel
theorem works_e5 : cellErr 1 1 2 1 0 3 4 = 0 := by decide +kernel
theorem works_place (w : World) : Calls Tryz.prog 42 #[.int .u8 4, .int .i64 0, .string (bs [38])] w (Ret (.tuple #[.agg #[.int .i64 2, .int .i64 5], .int .i64 0]) w) := by
  have h := place_any 4 0 [38] w
  unfold placeV at h
  rw [works_e3] at h
  exact h
theorem works_any (w : World) : Calls Tryz.prog 12 #[] w (Ret (.bool true) w) := by
  have e1 := works_e1
  have e2 := works_e2
  have e4 := works_e4
  have e5 := works_e5
  go_enter Tryz.func12, Tryz.ntmps12
  go_wp2_with (first
    | (go_at_call 41; refine (psymbol_any _ _ _ _).mono ?_; rintro e w1 ⟨rfl, hb1⟩)
    | (go_at_call 42; refine (works_place _).mono ?_; rintro e w2 ⟨rfl, hb2⟩)
    | (go_at_call 43; refine (pCell_1 _ _ _ _ _ _ _).mono ?_; rintro e w3 ⟨rfl, hb3⟩; have k3 := (Blk.new _ _ _).after hb3; have x0 : w3.cell? ⟨w2.heap.size, 0, none⟩ = some (.int .i64 2) := k3.cell 0; have x1 : w3.cell? ⟨w2.heap.size, 1, none⟩ = some (.int .i64 5) := k3.cell 1; clear k3))
  go_ret
  exact Ret.mk' rfl (by repeat (first | exact Below.refl _ _ | assumption | refine bel_drewN ?_ _ | refine Below.drew ?_ | refine bel_alloc ?_ _ | refine Below.setCell ?_ (by first | omega | (simp; done) | (simp; omega)) _ | refine bel_step ?_ (by assumption)))
end Go.Proofs.YtkgnmddakiagbaaGreatDoor
