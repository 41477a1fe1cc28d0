/- Line of the program, in one system. -/
import Derived.Test.YteldgllgagjciaaIns
import Derived.Test.YteldgllgagjciaaLnP
import Derived.Test.YteldgllgagjciaaPl2
import Derived.Deep.RegionWith
namespace Go.Proofs.Yteldgllgagjciaa
open Go.RowKit
set_option maxHeartbeats 1600000
set_option maxRecDepth 100000
set_option linter.unusedVariables false
set_option linter.unusedSimpArgs false
theorem line_2 (c n : Int) (w : World) (hc : 1 ≤ c ∧ c ≤ 14) (hn : 0 ≤ n ∧ n ≤ 6) : Calls Try.prog 138 #[.agg #[], .int .i64 c, .int .i64 n] w (Ret (.int .i64 (lineV 2 c n)) w) := by
  go_enter Try.func138, Try.ntmps138
  go_wp2
  go_ret
  exact Ret.mk' (by simp [lineV]) (by repeat (first | exact Below.refl _ _ | assumption | refine bel_drewN ?_ _ | refine Below.drew ?_ | refine bel_alloc ?_ _ | refine Below.setCell ?_ (by first | omega | (simp; done) | (simp; omega)) _ | refine bel_step ?_ (by assumption)))
theorem staff_2 (A1 A2 : Option Addr) (n1 n2 c1 c2 : Nat) (w : World) : Calls Try.prog 53 #[.agg #[.slice A1 n1 c1, .slice A2 n2 c2]] w (Ret (.int .i64 (min (n1 : Int) 6)) w) := by
  go_enter Try.func53, Try.ntmps53
  go_wp2
  go_ret
  exact Ret.mk' (by first | rfl | (simp; done) | (simp; omega)) (by repeat (first | exact Below.refl _ _ | assumption | refine bel_drewN ?_ _ | refine Below.drew ?_ | refine bel_alloc ?_ _ | refine Below.setCell ?_ (by first | omega | (simp; done) | (simp; omega)) _ | refine bel_step ?_ (by assumption)))
theorem ahead_2 (n : Nat) (w : World) : Sem.run Try.prog (nilAhead (n + 1) 114 (.agg #[]) "theorbo/notation.line") w = .ok (some false) w := by
  kernel_rfl
theorem pline_2 (A1 A2 : Option Addr) (cs : List (Int × Int × Bool)) (st : List Int) (n1 n2 c1 c2 : Nat) (c : Int) (w : World) (hI : InsAt w w.heap.size A1 A2 cs st) (hn1 : n1 = cs.length) (hn2 : n2 = st.length) :
    Calls Try.prog 26 #[.int .u8 2, .agg #[.slice A1 n1 c1, .slice A2 n2 c2], .int .i64 c] w (Ret (.tuple #[.int .i64 (lineE 2 c n1 (insE cs st)).1, .int .i64 (lineE 2 c n1 (insE cs st)).2]) w) := by
  have HCK := Lib.hid (fun w' (hI : InsAt w' w'.heap.size A1 A2 cs st) => insCheck A1 A2 cs st n1 n2 c1 c2 w' hI hn1 hn2)
  have HI := Lib.hid (fun o => (hI.alloc (Nat.le_refl _) o).more (show w.heap.size ≤ (w.alloc o).heap.size by simp))
  have hlen : insE cs st = 0 → n1 ≤ 14 := fun h => by have := insE_len h; omega
  generalize insE cs st = E at *
  by_cases h0 : E = 0
  · have h14 := hlen h0
    by_cases h1 : c < 1 ∨ (n1 : Int) < c
    · rw [lineE_crs (by decide) h0 h1]
      subst h0
      by_cases h2 : c < 1
      · clear h1 hlen hI hn1 hn2
        go_enter Try.func26, Try.ntmps26
        go_wp2_with (first
          | (go_at_call 43; refine (of_2 _).mono ?_; rintro e w' ⟨rfl, rfl⟩)
          | (go_at_call 52; refine (HCK.out _ (HI.out _)).mono ?_; rintro e w1 ⟨rfl, hb1⟩; have k1 := (Blk.new _ _ _).after hb1; have x0 : w1.cell? ⟨_, 0, none⟩ = some (.slice A1 n1 c1) := k1.cell 0; have x1 : w1.cell? ⟨_, 1, none⟩ = some (.slice A2 n2 c2) := k1.cell 1; clear k1))
        go_ret2
        exact Ret.mk' rfl (by repeat (first | exact Below.refl _ _ | assumption | refine bel_drewN ?_ _ | refine Below.drew ?_ | refine bel_alloc ?_ _ | refine Below.setCell ?_ (by first | omega | (simp; done) | (simp; omega)) _ | refine bel_step ?_ (by assumption)))
      · have h3 : (n1 : Int) < c := by omega
        clear h1 hlen hI hn1 hn2
        go_enter Try.func26, Try.ntmps26
        go_wp2_with (first
          | (go_at_call 43; refine (of_2 _).mono ?_; rintro e w' ⟨rfl, rfl⟩)
          | (go_at_call 52; refine (HCK.out _ (HI.out _)).mono ?_; rintro e w1 ⟨rfl, hb1⟩; have k1 := (Blk.new _ _ _).after hb1; have x0 : w1.cell? ⟨_, 0, none⟩ = some (.slice A1 n1 c1) := k1.cell 0; have x1 : w1.cell? ⟨_, 1, none⟩ = some (.slice A2 n2 c2) := k1.cell 1; clear k1))
        go_ret2
        exact Ret.mk' rfl (by repeat (first | exact Below.refl _ _ | assumption | refine bel_drewN ?_ _ | refine Below.drew ?_ | refine bel_alloc ?_ _ | refine Below.setCell ?_ (by first | omega | (simp; done) | (simp; omega)) _ | refine bel_step ?_ (by assumption)))
    · have h2 : ¬ c < 1 := by omega
      have h3 : ¬ (n1 : Int) < c := by omega
      by_cases h6 : 6 < c
      · rw [lineE_out (by decide) h0 h1 h6]
        subst h0
        have h7 : min (n1 : Int) 6 < c := by omega
        clear h1 hlen hI hn1 hn2
        go_enter Try.func26, Try.ntmps26
        go_wp2_with (first
          | (go_at_call 43; refine (of_2 _).mono ?_; rintro e w' ⟨rfl, rfl⟩)
          | (go_at_call 52; refine (HCK.out _ (HI.out _)).mono ?_; rintro e w1 ⟨rfl, hb1⟩; have k1 := (Blk.new _ _ _).after hb1; have x0 : w1.cell? ⟨_, 0, none⟩ = some (.slice A1 n1 c1) := k1.cell 0; have x1 : w1.cell? ⟨_, 1, none⟩ = some (.slice A2 n2 c2) := k1.cell 1; clear k1)
          | (go_at_call 53; refine (staff_2 _ _ _ _ _ _ _).mono ?_; rintro e w2 ⟨rfl, hb2⟩))
        go_ret2
        exact Ret.mk' rfl (by repeat (first | exact Below.refl _ _ | assumption | refine bel_drewN ?_ _ | refine Below.drew ?_ | refine bel_alloc ?_ _ | refine Below.setCell ?_ (by first | omega | (simp; done) | (simp; omega)) _ | refine bel_step ?_ (by assumption)))
      · rw [lineE_ok (by decide) h0 h1 h6]
        subst h0
        have h7 : ¬ min (n1 : Int) 6 < c := by omega
        have h8 : 0 ≤ min (n1 : Int) 6 ∧ min (n1 : Int) 6 ≤ 6 := by omega
        have h9 : 1 ≤ c ∧ c ≤ 14 := by omega
        generalize hM : min (n1 : Int) 6 = M at *
        have HST := Lib.hid (fun w => hM ▸ staff_2 A1 A2 n1 n2 c1 c2 w)
        have HA := ahead_2
        clear h1 hlen hI hn1 hn2 hM
        go_enter Try.func26, Try.ntmps26
        go_wp2_with (first
          | (go_at_call 43; refine (of_2 _).mono ?_; rintro e w' ⟨rfl, rfl⟩)
          | (go_at_call 52; refine (HCK.out _ (HI.out _)).mono ?_; rintro e w1 ⟨rfl, hb1⟩; have k1 := (Blk.new _ _ _).after hb1; have K1 := Lib.hid k1; have x0 : w1.cell? ⟨_, 0, none⟩ = some (.slice A1 n1 c1) := k1.cell 0; have x1 : w1.cell? ⟨_, 1, none⟩ = some (.slice A2 n2 c2) := k1.cell 1; clear k1)
          | (go_at_call 53; refine (HST.out _).mono ?_; rintro e w2 ⟨rfl, hb2⟩; have k2 := K1.out.after hb2; have y0 : w2.cell? ⟨_, 0, none⟩ = some (.slice A1 n1 c1) := k2.cell 0; have y1 : w2.cell? ⟨_, 1, none⟩ = some (.slice A2 n2 c2) := k2.cell 1; clear k2))
        go_region_with (first
          | (go_at_call 53; refine (HST.out _).mono ?_; rintro e w3 ⟨rfl, hb3⟩)
          | (go_at_call 138; refine (line_2 _ _ _ h9 h8).mono ?_; rintro e w4 ⟨rfl, hb4⟩))
        all_goals
          go_wp2
          go_ret2
          exact Ret.mk' rfl (by repeat (first | exact Below.refl _ _ | assumption | refine bel_drewN ?_ _ | refine Below.drew ?_ | refine bel_alloc ?_ _ | refine Below.setCell ?_ (by first | omega | (simp; done) | (simp; omega)) _ | refine bel_step ?_ (by assumption)))
  · rw [lineE_ins (by decide) h0]
    have hb2 : (E == 0) = false := by simpa using h0
    have hb3 : (E != 0) = true := by simpa using h0
    clear hlen hI hn1 hn2 h0
    go_enter Try.func26, Try.ntmps26
    go_wp2_with (first
      | (go_at_call 43; refine (of_2 _).mono ?_; rintro e w' ⟨rfl, rfl⟩)
      | (go_at_call 52; refine (HCK.out _ (HI.out _)).mono ?_; rintro e w1 ⟨rfl, hb1⟩))
    go_ret2
    exact Ret.mk' rfl (by repeat (first | exact Below.refl _ _ | assumption | refine bel_drewN ?_ _ | refine Below.drew ?_ | refine bel_alloc ?_ _ | refine Below.setCell ?_ (by first | omega | (simp; done) | (simp; omega)) _ | refine bel_step ?_ (by assumption)))
end Go.Proofs.Yteldgllgagjciaa
