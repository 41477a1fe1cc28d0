/- Symbol and Place of the reference. -/
import Derived.Test.YteldgllgagjciaaPlain
namespace Go.Proofs.Yteldgllgagjciaa
open Go.RowKit
set_option maxHeartbeats 1600000
set_option maxRecDepth 100000
set_option linter.unusedVariables false
set_option linter.unusedSimpArgs false
attribute [local go_sem] mk_bs bs_size bs_toList bs_append bs_extract
attribute [local simp] run_cut run_cut_to run_cut_from run_add_bs

theorem rstands_any (s crs c : Int) (w : World) :
    Calls Try.prog 42 #[.int .u8 s, .int .i64 crs, .int .i64 c] w fun e w' => e = .returned (.bool (standsB s crs c)) ∧ w' = w := by
  by_cases h : 0 < crs
  · have e1 : standsB s crs c = (c == crs) := if_pos h
    rw [e1]
    go_enter Try.func42, Try.ntmps42
    go_wp2
    go_ret
    exact ⟨rfl, rfl⟩
  · have e1 : standsB s crs c = (s == 4 || decide (6 < c)) := if_neg h
    rw [e1]
    by_cases h4 : s = 4
    · subst h4
      go_enter Try.func42, Try.ntmps42
      go_wp2
      go_ret
      exact ⟨rfl, rfl⟩
    · have hb : (s == 4) = false := by simp; exact h4
      go_enter Try.func42, Try.ntmps42
      go_wp2
      go_ret
      exact ⟨rfl, rfl⟩

theorem rspot_any (s crs : Int) (w : World) :
    Calls Try.prog 41 #[.int .u8 s, .int .i64 crs] w fun e w' => e = .returned (.int .i64 (spotErr s crs)) ∧ w' = w := by
  by_cases hs : 1 ≤ s ∧ s ≤ 4
  · have hd : decide (1 ≤ s ∧ s ≤ 4) = true := decide_eq_true hs
    by_cases h1 : crs < 0
    · have e : spotErr s crs = 12 := by unfold spotErr; rw [if_neg (fun k => k hs), if_pos (.inl (.inl h1))]
      rw [e]
      clear hs
      go_enter Try.func41, Try.ntmps41
      go_wp2_with (go_at_call 37; refine (known_any _ _).mono ?_; rintro e w' ⟨rfl, hw⟩; rw [hw]; clear hw)
      go_ret
      exact ⟨rfl, rfl⟩
    · by_cases h2 : 6 < crs
      · have e : spotErr s crs = 12 := by unfold spotErr; rw [if_neg (fun k => k hs), if_pos (.inl (.inr h2))]
        rw [e]
        clear hs
        go_enter Try.func41, Try.ntmps41
        go_wp2_with (go_at_call 37; refine (known_any _ _).mono ?_; rintro e w' ⟨rfl, hw⟩; rw [hw]; clear hw)
        go_ret
        exact ⟨rfl, rfl⟩
      · by_cases h4 : s = 4
        · subst h4
          by_cases h0 : crs = 0
          · subst h0
            clear hs
            go_enter Try.func41, Try.ntmps41
            go_wp2_with (go_at_call 37; refine (known_any _ _).mono ?_; rintro e w' ⟨rfl, hw⟩; rw [hw]; clear hw)
            go_ret
            exact ⟨rfl, rfl⟩
          · have e : spotErr 4 crs = 12 := by unfold spotErr; rw [if_neg (fun k => k hs), if_pos (.inr ⟨rfl, h0⟩)]
            have hb : (crs == 0) = false := by simp; exact h0
            have hb' : (crs != 0) = true := by simp; exact h0
            rw [e]
            clear hs
            go_enter Try.func41, Try.ntmps41
            go_wp2_with (go_at_call 37; refine (known_any _ _).mono ?_; rintro e w' ⟨rfl, hw⟩; rw [hw]; clear hw)
            go_ret
            exact ⟨rfl, rfl⟩
        · have e : spotErr s crs = 0 := by unfold spotErr; rw [if_neg (fun k => k hs), if_neg (by omega)]
          have hb : (s == 4) = false := by simp; exact h4
          rw [e]
          clear hs
          go_enter Try.func41, Try.ntmps41
          go_wp2_with (go_at_call 37; refine (known_any _ _).mono ?_; rintro e w' ⟨rfl, hw⟩; rw [hw]; clear hw)
          go_ret
          exact ⟨rfl, rfl⟩
  · have hd : decide (1 ≤ s ∧ s ≤ 4) = false := decide_eq_false hs
    have e : spotErr s crs = 30 := if_pos hs
    rw [e]
    clear hs
    go_enter Try.func41, Try.ntmps41
    go_wp2_with (go_at_call 37; refine (known_any _ _).mono ?_; rintro e w' ⟨rfl, hw⟩; rw [hw]; clear hw)
    go_ret
    exact ⟨rfl, rfl⟩

theorem rsymbolT_any (s c f : Int) (w : World) :
    Calls Try.prog 13 #[.int .u8 s, .agg #[.int .i64 c, .int .i64 f]] w (Ret (.tuple #[.string (bs (symTxt s c f)), .int .i64 (symErr s c f)]) w) := by
  by_cases hs : 1 ≤ s ∧ s ≤ 4
  · have hd : decide (1 ≤ s ∧ s ≤ 4) = true := decide_eq_true hs
    by_cases h : (c < 1 ∨ 14 < c) ∨ (f < 0 ∨ 18 < f)
    · have e0 := symErr_bad s c f hs h
      by_cases hc : c < 1 ∨ 14 < c
      · rw [if_pos hc] at e0
        have e1 : symTxt s c f = [] := by unfold symTxt; rw [e0, if_neg (by decide)]
        rw [e0, e1]
        by_cases h1 : c < 1
        · clear hs h hc e0 e1
          go_enter Try.func13, Try.ntmps13
          go_wp2_with (go_at_call 37; refine (known_any _ _).mono ?_; rintro e w' ⟨rfl, hw⟩; rw [hw]; clear hw)
          go_ret2
          exact Ret.mk' rfl (by repeat (first | exact Below.refl _ _ | assumption | refine bel_drewN ?_ _ | refine Below.drew ?_ | refine bel_alloc ?_ _ | refine Below.setCell ?_ (by first | omega | (simp; done) | (simp; omega)) _ | refine bel_step ?_ (by assumption)))
        · have h2 : 14 < c := by omega
          clear hs h hc e0 e1
          go_enter Try.func13, Try.ntmps13
          go_wp2_with (go_at_call 37; refine (known_any _ _).mono ?_; rintro e w' ⟨rfl, hw⟩; rw [hw]; clear hw)
          go_ret2
          exact Ret.mk' rfl (by repeat (first | exact Below.refl _ _ | assumption | refine bel_drewN ?_ _ | refine Below.drew ?_ | refine bel_alloc ?_ _ | refine Below.setCell ?_ (by first | omega | (simp; done) | (simp; omega)) _ | refine bel_step ?_ (by assumption)))
      · rw [if_neg hc] at e0
        have e1 : symTxt s c f = [] := by unfold symTxt; rw [e0, if_neg (by decide)]
        rw [e0, e1]
        have h1 : ¬ c < 1 := by omega
        have h2 : ¬ 14 < c := by omega
        by_cases h3 : f < 0
        · clear hs h hc e0 e1
          go_enter Try.func13, Try.ntmps13
          go_wp2_with (go_at_call 37; refine (known_any _ _).mono ?_; rintro e w' ⟨rfl, hw⟩; rw [hw]; clear hw)
          go_ret2
          exact Ret.mk' rfl (by repeat (first | exact Below.refl _ _ | assumption | refine bel_drewN ?_ _ | refine Below.drew ?_ | refine bel_alloc ?_ _ | refine Below.setCell ?_ (by first | omega | (simp; done) | (simp; omega)) _ | refine bel_step ?_ (by assumption)))
        · have h4 : 18 < f := by omega
          clear hs h hc e0 e1
          go_enter Try.func13, Try.ntmps13
          go_wp2_with (go_at_call 37; refine (known_any _ _).mono ?_; rintro e w' ⟨rfl, hw⟩; rw [hw]; clear hw)
          go_ret2
          exact Ret.mk' rfl (by repeat (first | exact Below.refl _ _ | assumption | refine bel_drewN ?_ _ | refine Below.drew ?_ | refine bel_alloc ?_ _ | refine Below.setCell ?_ (by first | omega | (simp; done) | (simp; omega)) _ | refine bel_step ?_ (by assumption)))
    · have hc : 1 ≤ c ∧ c ≤ 14 := by omega
      have hf : 0 ≤ f ∧ f ≤ 18 := by omega
      have h1 : ¬ c < 1 := by omega
      have h2 : ¬ 14 < c := by omega
      have h3 : ¬ f < 0 := by omega
      have h4 : ¬ 18 < f := by omega
      have HS := Lib.hid hs
      by_cases hr : rS s c f = []
      · have e0 : symErr s c f = 31 := by unfold symErr; rw [if_neg (fun k => k hs), if_neg (by omega), if_neg (by omega), if_pos hr]
        have e1 : symTxt s c f = [] := by unfold symTxt; rw [e0, if_neg (by decide)]
        rw [e0, e1]
        clear hs h e0 e1
        go_enter Try.func13, Try.ntmps13
        go_wp2_with (first | (go_at_call 37; refine (known_any _ _).mono ?_; rintro e w' ⟨rfl, hw⟩; rw [hw]; clear hw) | (go_at_call 38; refine (rsymbol_any _ _ _ _ HS.out hc hf).mono ?_; rintro e w' ⟨rfl, hb⟩))
        go_ret2
        exact Ret.mk' rfl (by repeat (first | exact Below.refl _ _ | assumption | refine bel_drewN ?_ _ | refine Below.drew ?_ | refine bel_alloc ?_ _ | refine Below.setCell ?_ (by first | omega | (simp; done) | (simp; omega)) _ | refine bel_step ?_ (by assumption)))
      · have e0 : symErr s c f = 0 := by unfold symErr; rw [if_neg (fun k => k hs), if_neg (by omega), if_neg (by omega), if_neg hr]
        have e1 : symTxt s c f = rS s c f := by unfold symTxt; rw [if_pos e0]
        have hb2 : (rS s c f == []) = false := by simpa using hr
        have hb3 : (rS s c f).isEmpty = false := by simpa using hr
        rw [e0, e1]
        clear hs h e0 e1
        go_enter Try.func13, Try.ntmps13
        go_wp2_with (first | (go_at_call 37; refine (known_any _ _).mono ?_; rintro e w' ⟨rfl, hw⟩; rw [hw]; clear hw) | (go_at_call 38; refine (rsymbol_any _ _ _ _ HS.out hc hf).mono ?_; rintro e w' ⟨rfl, hb⟩))
        go_ret2
        exact Ret.mk' rfl (by repeat (first | exact Below.refl _ _ | assumption | refine bel_drewN ?_ _ | refine Below.drew ?_ | refine bel_alloc ?_ _ | refine Below.setCell ?_ (by first | omega | (simp; done) | (simp; omega)) _ | refine bel_step ?_ (by assumption)))
  · have hd : decide (1 ≤ s ∧ s ≤ 4) = false := decide_eq_false hs
    have e0 : symErr s c f = 30 := if_pos hs
    have e1 : symTxt s c f = [] := by unfold symTxt; rw [e0, if_neg (by decide)]
    rw [e0, e1]
    clear hs e0 e1
    go_enter Try.func13, Try.ntmps13
    go_wp2_with (go_at_call 37; refine (known_any _ _).mono ?_; rintro e w' ⟨rfl, hw⟩; rw [hw]; clear hw)
    go_ret2
    exact Ret.mk' rfl (by repeat (first | exact Below.refl _ _ | assumption | refine bel_drewN ?_ _ | refine Below.drew ?_ | refine bel_alloc ?_ _ | refine Below.setCell ?_ (by first | omega | (simp; done) | (simp; omega)) _ | refine bel_step ?_ (by assumption)))
end Go.Proofs.Yteldgllgagjciaa
