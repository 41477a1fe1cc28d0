/- Line of the reference. -/
import Derived.Test.YteldgllgagjciaaRIns
import Derived.Test.YteldgllgagjciaaRPl
import Derived.Test.YteldgllgagjciaaLnP
namespace Go.Proofs.Yteldgllgagjciaa
open Go.RowKit
set_option maxHeartbeats 1600000
set_option maxRecDepth 100000
set_option linter.unusedVariables false
set_option linter.unusedSimpArgs false
theorem rstaff_any (A1 A2 : Option Addr) (n1 n2 c1 c2 : Nat) (w : World) : Calls Try.prog 55 #[.agg #[.slice A1 n1 c1, .slice A2 n2 c2]] w (Ret (.int .i64 (min (n1 : Int) 6)) w) := by
  go_enter Try.func55, Try.ntmps55
  go_wp2
  go_ret
  exact Ret.mk' (by first | rfl | (simp; done) | (simp; omega)) (by repeat (first | exact Below.refl _ _ | assumption | refine bel_drewN ?_ _ | refine Below.drew ?_ | refine bel_alloc ?_ _ | refine Below.setCell ?_ (by first | omega | (simp; done) | (simp; omega)) _ | refine bel_step ?_ (by assumption)))
theorem rline_any (s : Int) (A1 A2 : Option Addr) (cs : List (Int × Int × Bool)) (st : List Int) (n1 n2 c1 c2 : Nat) (c : Int) (w : World) (hI : InsAt w w.heap.size A1 A2 cs st) (hn1 : n1 = cs.length) (hn2 : n2 = st.length) :
    Calls Try.prog 27 #[.int .u8 s, .agg #[.slice A1 n1 c1, .slice A2 n2 c2], .int .i64 c] w (Ret (.tuple #[.int .i64 (lineE s c n1 (insE cs st)).1, .int .i64 (lineE s c n1 (insE cs st)).2]) w) := by
  have HCK := Lib.hid (fun w' (hI : InsAt w' w'.heap.size A1 A2 cs st) => rInsCheck A1 A2 cs st n1 n2 c1 c2 w' hI hn1 hn2)
  have HI := Lib.hid (fun o => (hI.alloc (Nat.le_refl _) o).more (show w.heap.size ≤ (w.alloc o).heap.size by simp))
  have hlen : insE cs st = 0 → n1 ≤ 14 := fun h => by have := insE_len h; omega
  generalize insE cs st = E at *
  by_cases hs : 1 ≤ s ∧ s ≤ 4
  · have hd : decide (1 ≤ s ∧ s ≤ 4) = true := decide_eq_true hs
    by_cases h0 : E = 0
    · have h14 := hlen h0
      by_cases h1 : c < 1 ∨ (n1 : Int) < c
      · rw [lineE_crs hs h0 h1]
        subst h0
        by_cases h2 : c < 1
        · clear h1 hlen hI hn1 hn2 hs
          go_enter Try.func27, Try.ntmps27
          go_wp2_with (first
            | (go_at_call 37; refine (known_any _ _).mono ?_; rintro e w' ⟨rfl, hw⟩; rw [hw]; clear hw)
            | (go_at_call 54; refine (HCK.out _ (HI.out _)).mono ?_; rintro e w1 ⟨rfl, hb1⟩; have k1 := (Blk.new _ _ _).after hb1; have x0 : w1.cell? ⟨_, 0, none⟩ = some (.slice A1 n1 c1) := k1.cell 0; have x1 : w1.cell? ⟨_, 1, none⟩ = some (.slice A2 n2 c2) := k1.cell 1; clear k1))
          go_ret2
          exact Ret.mk' rfl (by repeat (first | exact Below.refl _ _ | assumption | refine bel_drewN ?_ _ | refine Below.drew ?_ | refine bel_alloc ?_ _ | refine Below.setCell ?_ (by first | omega | (simp; done) | (simp; omega)) _ | refine bel_step ?_ (by assumption)))
        · have h3 : (n1 : Int) < c := by omega
          clear h1 hlen hI hn1 hn2 hs
          go_enter Try.func27, Try.ntmps27
          go_wp2_with (first
            | (go_at_call 37; refine (known_any _ _).mono ?_; rintro e w' ⟨rfl, hw⟩; rw [hw]; clear hw)
            | (go_at_call 54; refine (HCK.out _ (HI.out _)).mono ?_; rintro e w1 ⟨rfl, hb1⟩; have k1 := (Blk.new _ _ _).after hb1; have x0 : w1.cell? ⟨_, 0, none⟩ = some (.slice A1 n1 c1) := k1.cell 0; have x1 : w1.cell? ⟨_, 1, none⟩ = some (.slice A2 n2 c2) := k1.cell 1; clear k1))
          go_ret2
          exact Ret.mk' rfl (by repeat (first | exact Below.refl _ _ | assumption | refine bel_drewN ?_ _ | refine Below.drew ?_ | refine bel_alloc ?_ _ | refine Below.setCell ?_ (by first | omega | (simp; done) | (simp; omega)) _ | refine bel_step ?_ (by assumption)))
      · have h2 : ¬ c < 1 := by omega
        have h3 : ¬ (n1 : Int) < c := by omega
        by_cases h6 : 6 < c
        · rw [lineE_out hs h0 h1 h6]
          subst h0
          cases h4 : (s == 4)
          all_goals
            go_enter Try.func27, Try.ntmps27
            clear h1 hlen hI hn1 hn2 hs
            go_wp2_with (first
              | (go_at_call 37; refine (known_any _ _).mono ?_; rintro e w' ⟨rfl, hw⟩; rw [hw]; clear hw)
              | (go_at_call 54; refine (HCK.out _ (HI.out _)).mono ?_; rintro e w1 ⟨rfl, hb1⟩; have k1 := (Blk.new _ _ _).after hb1; have x0 : w1.cell? ⟨_, 0, none⟩ = some (.slice A1 n1 c1) := k1.cell 0; have x1 : w1.cell? ⟨_, 1, none⟩ = some (.slice A2 n2 c2) := k1.cell 1; clear k1))
            go_ret2
            exact Ret.mk' rfl (by repeat (first | exact Below.refl _ _ | assumption | refine bel_drewN ?_ _ | refine Below.drew ?_ | refine bel_alloc ?_ _ | refine Below.setCell ?_ (by first | omega | (simp; done) | (simp; omega)) _ | refine bel_step ?_ (by assumption)))
        · rw [lineE_ok hs h0 h1 h6]
          subst h0
          have h8 : 0 ≤ min (n1 : Int) 6 ∧ min (n1 : Int) 6 ≤ 6 := by omega
          have h9 : 1 ≤ c ∧ c ≤ 14 := by omega
          generalize hM : min (n1 : Int) 6 = M at *
          have HST := Lib.hid (fun w => hM ▸ rstaff_any A1 A2 n1 n2 c1 c2 w)
          obtain ⟨V, hV⟩ : ∃ V, lineV s c M = V := ⟨_, rfl⟩
          simp only [hV]
          unfold lineV at hV
          cases h4 : (s == 4)
          · have h4' : ¬ s = 4 := by simpa using h4
            rw [if_neg h4'] at hV
            cases h5 : (s == 2)
            · have h5' : ¬ s = 2 := by simpa using h5
              rw [if_neg h5'] at hV
              subst hV
              clear h1 hlen hI hn1 hn2 hM hs h4' h5'
              go_enter Try.func27, Try.ntmps27
              go_wp2_with (first
                | (go_at_call 37; refine (known_any _ _).mono ?_; rintro e w' ⟨rfl, hw⟩; rw [hw]; clear hw)
                | (go_at_call 54; refine (HCK.out _ (HI.out _)).mono ?_; rintro e w1 ⟨rfl, hb1⟩; have k1 := (Blk.new _ _ _).after hb1; have x0 : w1.cell? ⟨_, 0, none⟩ = some (.slice A1 n1 c1) := k1.cell 0; have x1 : w1.cell? ⟨_, 1, none⟩ = some (.slice A2 n2 c2) := k1.cell 1; clear k1))
              go_ret2
              exact Ret.mk' rfl (by repeat (first | exact Below.refl _ _ | assumption | refine bel_drewN ?_ _ | refine Below.drew ?_ | refine bel_alloc ?_ _ | refine Below.setCell ?_ (by first | omega | (simp; done) | (simp; omega)) _ | refine bel_step ?_ (by assumption)))
            · have h5' : s = 2 := by simpa using h5
              rw [if_pos h5'] at hV
              subst hV
              clear h1 hlen hI hn1 hn2 hM hs h4' h5'
              go_enter Try.func27, Try.ntmps27
              go_wp2_with (first
                | (go_at_call 37; refine (known_any _ _).mono ?_; rintro e w' ⟨rfl, hw⟩; rw [hw]; clear hw)
                | (go_at_call 54; refine (HCK.out _ (HI.out _)).mono ?_; rintro e w1 ⟨rfl, hb1⟩; have k1 := (Blk.new _ _ _).after hb1; have x0 : w1.cell? ⟨_, 0, none⟩ = some (.slice A1 n1 c1) := k1.cell 0; have x1 : w1.cell? ⟨_, 1, none⟩ = some (.slice A2 n2 c2) := k1.cell 1; clear k1)
                | (go_at_call 55; refine (HST.out _).mono ?_; rintro e w2 ⟨rfl, hb2⟩))
              go_ret2
              exact Ret.mk' rfl (by repeat (first | exact Below.refl _ _ | assumption | refine bel_drewN ?_ _ | refine Below.drew ?_ | refine bel_alloc ?_ _ | refine Below.setCell ?_ (by first | omega | (simp; done) | (simp; omega)) _ | refine bel_step ?_ (by assumption)))
          · have h4' : s = 4 := by simpa using h4
            rw [if_pos h4'] at hV
            subst hV
            clear h1 hlen hI hn1 hn2 hM hs h4'
            go_enter Try.func27, Try.ntmps27
            go_wp2_with (first
              | (go_at_call 37; refine (known_any _ _).mono ?_; rintro e w' ⟨rfl, hw⟩; rw [hw]; clear hw)
              | (go_at_call 54; refine (HCK.out _ (HI.out _)).mono ?_; rintro e w1 ⟨rfl, hb1⟩; have k1 := (Blk.new _ _ _).after hb1; have x0 : w1.cell? ⟨_, 0, none⟩ = some (.slice A1 n1 c1) := k1.cell 0; have x1 : w1.cell? ⟨_, 1, none⟩ = some (.slice A2 n2 c2) := k1.cell 1; clear k1))
            go_ret2
            exact Ret.mk' rfl (by repeat (first | exact Below.refl _ _ | assumption | refine bel_drewN ?_ _ | refine Below.drew ?_ | refine bel_alloc ?_ _ | refine Below.setCell ?_ (by first | omega | (simp; done) | (simp; omega)) _ | refine bel_step ?_ (by assumption)))
    · rw [lineE_ins hs h0]
      have hb2 : (E == 0) = false := by simpa using h0
      have hb3 : (E != 0) = true := by simpa using h0
      clear hlen hI hn1 hn2 h0 hs
      go_enter Try.func27, Try.ntmps27
      go_wp2_with (first
        | (go_at_call 37; refine (known_any _ _).mono ?_; rintro e w' ⟨rfl, hw⟩; rw [hw]; clear hw)
        | (go_at_call 54; refine (HCK.out _ (HI.out _)).mono ?_; rintro e w1 ⟨rfl, hb1⟩))
      go_ret2
      exact Ret.mk' rfl (by repeat (first | exact Below.refl _ _ | assumption | refine bel_drewN ?_ _ | refine Below.drew ?_ | refine bel_alloc ?_ _ | refine Below.setCell ?_ (by first | omega | (simp; done) | (simp; omega)) _ | refine bel_step ?_ (by assumption)))
  · have hd : decide (1 ≤ s ∧ s ≤ 4) = false := decide_eq_false hs
    rw [lineE_sys hs]
    clear hs hlen hI hn1 hn2
    go_enter Try.func27, Try.ntmps27
    go_wp2_with (go_at_call 37; refine (known_any _ _).mono ?_; rintro e w' ⟨rfl, hw⟩; rw [hw]; clear hw)
    go_ret2
    exact Ret.mk' rfl (by repeat (first | exact Below.refl _ _ | assumption | refine bel_drewN ?_ _ | refine Below.drew ?_ | refine bel_alloc ?_ _ | refine Below.setCell ?_ (by first | omega | (simp; done) | (simp; omega)) _ | refine bel_step ?_ (by assumption)))
end Go.Proofs.Yteldgllgagjciaa
