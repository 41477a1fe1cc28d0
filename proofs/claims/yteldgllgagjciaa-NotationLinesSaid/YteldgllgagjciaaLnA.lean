/- Line of the program, in any system; and the law NotationLines. -/
import Derived.Test.YteldgllgagjciaaLn1
import Derived.Test.YteldgllgagjciaaLn2
import Derived.Test.YteldgllgagjciaaLn3
import Derived.Test.YteldgllgagjciaaLn4
import Derived.Test.YteldgllgagjciaaRLn
import Derived.Test.YteldgllgagjciaaWorks
namespace Go.Proofs.Yteldgllgagjciaa
open Go.RowKit
set_option maxHeartbeats 1600000
set_option maxRecDepth 100000
set_option linter.unusedVariables false
set_option linter.unusedSimpArgs false
theorem pline_any (s : Int) (A1 A2 : Option Addr) (cs : List (Int × Int × Bool)) (st : List Int) (n1 n2 c1 c2 : Nat) (c : Int) (w : World) (hI : InsAt w w.heap.size A1 A2 cs st) (hn1 : n1 = cs.length) (hn2 : n2 = st.length) :
    Calls Try.prog 26 #[.int .u8 s, .agg #[.slice A1 n1 c1, .slice A2 n2 c2], .int .i64 c] w (Ret (.tuple #[.int .i64 (lineE s c n1 (insE cs st)).1, .int .i64 (lineE s c n1 (insE cs st)).2]) w) := by
  by_cases hs : 1 ≤ s ∧ s ≤ 4
  · have h4 : s = 1 ∨ s = 2 ∨ s = 3 ∨ s = 4 := by omega
    rcases h4 with rfl | rfl | rfl | rfl
    · exact pline_1 A1 A2 cs st n1 n2 c1 c2 c w hI hn1 hn2
    · exact pline_2 A1 A2 cs st n1 n2 c1 c2 c w hI hn1 hn2
    · exact pline_3 A1 A2 cs st n1 n2 c1 c2 c w hI hn1 hn2
    · exact pline_4 A1 A2 cs st n1 n2 c1 c2 c w hI hn1 hn2
  · rw [lineE_sys hs]
    have hs' : s < 1 ∨ 4 < s := by omega
    clear hs hI hn1 hn2
    go_enter Try.func26, Try.ntmps26
    go_wp2_with (go_at_call 43; refine (of_bad _ _ hs').mono ?_; rintro e w' ⟨rfl, rfl⟩)
    go_ret2
    exact Ret.mk' rfl (by repeat (first | exact Below.refl _ _ | assumption | refine bel_drewN ?_ _ | refine Below.drew ?_ | refine bel_alloc ?_ _ | refine Below.setCell ?_ (by first | omega | (simp; done) | (simp; omega)) _ | refine bel_step ?_ (by assumption)))
theorem lines_walk (s : Int) (A1 A2 : Option Addr) (cs : List (Int × Int × Bool)) (st : List Int) (n1 n2 c1 c2 : Nat) (c : Int) (w : World) (hI : InsAt w w.heap.size A1 A2 cs st) (hn1 : n1 = cs.length) (hn2 : n2 = st.length) :
    Calls Try.prog 9 #[.int .u8 s, .agg #[.slice A1 n1 c1, .slice A2 n2 c2], .int .i64 c] w (Ret (.bool true) w) := by
  have HP := Lib.hid (fun w' (hI : InsAt w' w'.heap.size A1 A2 cs st) => pline_any s A1 A2 cs st n1 n2 c1 c2 c w' hI hn1 hn2)
  have HR := Lib.hid (fun w' (hI : InsAt w' w'.heap.size A1 A2 cs st) => rline_any s A1 A2 cs st n1 n2 c1 c2 c w' hI hn1 hn2)
  have HI := Lib.hid (fun o => (hI.alloc (Nat.le_refl _) o).more (show w.heap.size ≤ (w.alloc o).heap.size by simp))
  generalize (lineE s c n1 (insE cs st)).1 = E1 at *
  generalize (lineE s c n1 (insE cs st)).2 = E2 at *
  clear hI hn1 hn2
  by_cases b1 : 64 < n1
  · go_enter Try.func9, Try.ntmps9
    go_wp2_with (go_at_call 14; refine (works_any _).mono ?_; rintro e w1 ⟨rfl, hb1⟩)
    go_ret
    exact Ret.mk' rfl (by repeat (first | exact Below.refl _ _ | assumption | refine bel_drewN ?_ _ | refine Below.drew ?_ | refine bel_alloc ?_ _ | refine Below.setCell ?_ (by first | omega | (simp; done) | (simp; omega)) _ | refine bel_step ?_ (by assumption)))
  · by_cases b2 : 64 < n2
    · go_enter Try.func9, Try.ntmps9
      go_wp2_with (go_at_call 14; refine (works_any _).mono ?_; rintro e w1 ⟨rfl, hb1⟩)
      go_ret
      exact Ret.mk' rfl (by repeat (first | exact Below.refl _ _ | assumption | refine bel_drewN ?_ _ | refine Below.drew ?_ | refine bel_alloc ?_ _ | refine Below.setCell ?_ (by first | omega | (simp; done) | (simp; omega)) _ | refine bel_step ?_ (by assumption)))
    · go_enter Try.func9, Try.ntmps9
      go_wp2_with (first
        | (go_at_call 26; refine (HP.out _ (HI.out _)).mono ?_; rintro e w1 ⟨rfl, hb1⟩; have k1 := (Blk.new _ _ _).after hb1; have x0 : w1.cell? ⟨_, 0, none⟩ = some (.slice A1 n1 c1) := k1.cell 0; have x1 : w1.cell? ⟨_, 1, none⟩ = some (.slice A2 n2 c2) := k1.cell 1; clear k1; have HI1 := Lib.hid (((HI.out _).below hb1).more hb1.size))
        | (go_at_call 27; refine (HR.out _ HI1.out).mono ?_; rintro e w2 ⟨rfl, hb2⟩)
        | (go_at_call 14; refine (works_any _).mono ?_; rintro e w3 ⟨rfl, hb3⟩))
      go_ret
      exact Ret.mk' (by simp) (by repeat (first | exact Below.refl _ _ | assumption | refine bel_drewN ?_ _ | refine Below.drew ?_ | refine bel_alloc ?_ _ | refine Below.setCell ?_ (by first | omega | (simp; done) | (simp; omega)) _ | refine bel_step ?_ (by assumption)))
end Go.Proofs.Yteldgllgagjciaa
