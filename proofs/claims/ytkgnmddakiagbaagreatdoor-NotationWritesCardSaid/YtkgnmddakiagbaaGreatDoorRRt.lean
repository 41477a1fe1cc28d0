/- Whether a sign is right: the reference. -/
import Derived.Test.YtkgnmddakiagbaaGreatDoorPtP
import Derived.Test.YtkgnmddakiagbaaGreatDoorApp2
namespace Go.Proofs.YtkgnmddakiagbaaGreatDoor
open Go.RowKit
set_option maxHeartbeats 1600000
set_option maxRecDepth 100000
set_option linter.unusedVariables false
set_option linter.unusedSimpArgs false
attribute [local go_sem] mk_bs bs_size bs_toList bs_append bs_extract
attribute [local simp] run_cut run_cut_to run_cut_from run_add_bs

theorem right_any (v : Int) (d t : Bool) (w : World) : Calls Tryz.prog 153 #[.agg #[.int .i64 v, .bool d, .bool t]] w (Ret (.bool (sgOk v d t)) w) := by
  by_cases h0 : v = 0
  · subst h0
    cases d <;> cases t
    all_goals
      go_enter Tryz.func153, Tryz.ntmps153
      go_wp2
      go_ret
      exact Ret.mk' rfl (by repeat (first | exact Below.refl _ _ | assumption | refine bel_drewN ?_ _ | refine Below.drew ?_ | refine bel_alloc ?_ _ | refine Below.setCell ?_ (by first | omega | (simp; done) | (simp; omega)) _ | refine bel_step ?_ (by assumption)))
  · have hb : (v == 0) = false := by simpa using h0
    have e : sgOk v d t = (decide (1 ≤ v) && decide (v ≤ 7) && !(d && t)) := by unfold sgOk; rw [hb]; simp
    rw [e]
    clear e
    by_cases h1 : 1 ≤ v
    · by_cases h7 : v ≤ 7
      · cases d <;> cases t
        all_goals
          go_enter Tryz.func153, Tryz.ntmps153
          go_wp2
          go_ret
          exact Ret.mk' (by simp [h1, h7]) (by repeat (first | exact Below.refl _ _ | assumption | refine bel_drewN ?_ _ | refine Below.drew ?_ | refine bel_alloc ?_ _ | refine Below.setCell ?_ (by first | omega | (simp; done) | (simp; omega)) _ | refine bel_step ?_ (by assumption)))
      · rw [show (decide (1 ≤ v) && decide (v ≤ 7) && !(d && t)) = false from by rw [decide_eq_false h7]; simp]
        go_enter Tryz.func153, Tryz.ntmps153
        go_wp2
        go_ret
        exact Ret.mk' rfl (by repeat (first | exact Below.refl _ _ | assumption | refine bel_drewN ?_ _ | refine Below.drew ?_ | refine bel_alloc ?_ _ | refine Below.setCell ?_ (by first | omega | (simp; done) | (simp; omega)) _ | refine bel_step ?_ (by assumption)))
    · rw [show (decide (1 ≤ v) && decide (v ≤ 7) && !(d && t)) = false from by rw [decide_eq_false h1]; simp]
      go_enter Tryz.func153, Tryz.ntmps153
      go_wp2
      go_ret
      exact Ret.mk' rfl (by repeat (first | exact Below.refl _ _ | assumption | refine bel_drewN ?_ _ | refine Below.drew ?_ | refine bel_alloc ?_ _ | refine Below.setCell ?_ (by first | omega | (simp; done) | (simp; omega)) _ | refine bel_step ?_ (by assumption)))
end Go.Proofs.YtkgnmddakiagbaaGreatDoor
