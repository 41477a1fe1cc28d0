/- Time words of the program, in one system. -/
import Derived.Test.YteldgllgagjciaaTk
import Derived.Test.YteldgllgagjciaaPl1
import Derived.Deep.RegionHeld3
namespace Go.Proofs.Yteldgllgagjciaa
open Go.RowKit
set_option maxHeartbeats 1600000
set_option maxRecDepth 100000
set_option linter.unusedVariables false
set_option linter.unusedSimpArgs false
attribute [local go_sem] mk_bs bs_size bs_toList bs_append bs_extract
attribute [local simp] run_cut run_cut_to run_cut_from run_add_bs

theorem phas_1 (n : Int) (w : World) : Calls Try.prog 100 #[.agg #[], .int .i64 n] w (Ret (.bool (if (1 : Int) = 3 then n != 8 else if (1 : Int) = 4 then n == 8 else true)) w) := by
  go_enter Try.func100, Try.ntmps100
  go_wp2
  go_ret
  exact Ret.mk' rfl (by repeat (first | exact Below.refl _ _ | assumption | refine bel_drewN ?_ _ | refine Below.drew ?_ | refine bel_alloc ?_ _ | refine Below.setCell ?_ (by first | omega | (simp; done) | (simp; omega)) _ | refine bel_step ?_ (by assumption)))
theorem ptw3_1 (v : Int) (w : World) (hv : 1 ≤ v ∧ v ≤ 7) :
    Calls Try.prog 57 #[(.iface 110 (.agg #[])), .agg #[.int .i64 v, .bool false, .bool true]] w (Ret (.tuple #[.string (bs (tW v 2)), .bool (tOk 1 v 2)]) w) := by
  obtain ⟨hv1, hv7⟩ := hv
  have e1 : tW v 2 = cut [66, 83, 77, 67, 81, 88, 68] (v - 1) v ++ [51] := by unfold tW; rw [if_neg (by omega)]; rfl
  have e2 : tOk 1 v 2 = decide ((1 : Int) ≠ 4) := by unfold tOk; rw [if_neg (by omega)]; rfl
  have H5 := Lib.hid (phas_1 5)
  rw [e1, e2]
  have hb1 : (v == 0) = false := by simp; omega
  have g0 : 0 ≤ v - 1 := by omega
  have g1 : v - 1 ≤ v := by omega
  have gl : (cut [66, 83, 77, 67, 81, 88, 68] (v - 1) v).length + 1 ≤ 9223372036854775807 := by
    have := cut_length [66, 83, 77, 67, 81, 88, 68] (v - 1) v
    simp at this; omega
  have w1 : IntKind.i64.wrap (v - 1) = v - 1 := IntWalk.i64_in _ (by omega)
  clear e1 e2
  go_enter Try.func57, Try.ntmps57
  go_wp2_with fail
  go_region_held3 (fun w' => w'.cell? ⟨w.heap.size, 0, none⟩ = some (.int .i64 v))
    (first | (simp [bc]; done) | go_keep)
    ((go_at_call 100; refine (H5.out _).mono ?_; rintro e w' ⟨rfl, hb⟩; obtain ⟨bc, bf⟩ := bcell hb))
  go_wp2_with fail
  go_ret2
  exact Ret.mk' (by simp) (by repeat (first | exact Below.refl _ _ | assumption | refine bel_drewN ?_ _ | refine Below.drew ?_ | refine bel_alloc ?_ _ | refine Below.setCell ?_ (by first | omega | (simp; done) | (simp; omega)) _ | refine bel_step ?_ (by assumption)))
theorem ptw_1 (v : Int) (i : Nat) (w : World) (hv : 0 ≤ v ∧ v ≤ 7) (hi : i ≤ 2) (hz : v = 0 → i = 0) :
    Calls Try.prog 57 #[(.iface 110 (.agg #[])), .agg #[.int .i64 v, .bool (sgD i), .bool (sgT i)]] w (Ret (.tuple #[.string (bs (tW v i)), .bool (tOk 1 v i)]) w) := by
  have h3 : i = 0 ∨ i = 1 ∨ i = 2 := by omega
  have h8 : v = 0 ∨ v = 1 ∨ v = 2 ∨ v = 3 ∨ v = 4 ∨ v = 5 ∨ v = 6 ∨ v = 7 := by omega
  have H6 := Lib.hid (phas_1 6)
  have HV := Lib.hid hv
  clear hi hv
  rcases h3 with rfl | rfl | rfl
  · rcases h8 with rfl | rfl | rfl | rfl | rfl | rfl | rfl | rfl
    all_goals
      clear hz
      simp only [sgD, sgT]
      go_enter Try.func57, Try.ntmps57
      go_wp2_with (go_at_call 100; refine (H6.out _).mono ?_; rintro e w' ⟨rfl, hb⟩)
      go_ret2
      exact Ret.mk' rfl (by repeat (first | exact Below.refl _ _ | assumption | refine bel_drewN ?_ _ | refine Below.drew ?_ | refine bel_alloc ?_ _ | refine Below.setCell ?_ (by first | omega | (simp; done) | (simp; omega)) _ | refine bel_step ?_ (by assumption)))
  · rcases h8 with rfl | rfl | rfl | rfl | rfl | rfl | rfl | rfl
    all_goals first
      | (exfalso; revert hz; decide)
      | (clear hz
         simp only [sgD, sgT]
         go_enter Try.func57, Try.ntmps57
         go_wp2_with fail
         go_ret2
         exact Ret.mk' rfl (by repeat (first | exact Below.refl _ _ | assumption | refine bel_drewN ?_ _ | refine Below.drew ?_ | refine bel_alloc ?_ _ | refine Below.setCell ?_ (by first | omega | (simp; done) | (simp; omega)) _ | refine bel_step ?_ (by assumption))))
  · exact ptw3_1 v w ⟨by have := HV.out; by_cases h0 : v = 0 <;> omega, HV.out.2⟩
theorem ptime_1 (v : Int) (d t : Bool) (w : World) : Calls Try.prog 28 #[.int .u8 1, .agg #[.int .i64 v, .bool d, .bool t]] w (Ret (.tuple #[.string (bs (timeTxt 1 v d t)), .int .i64 (timeErr 1 v d t)]) w) := by
  cases hok : sgOk v d t with
  | false =>
    have e0 : timeErr 1 v d t = 20 := by unfold timeErr; rw [if_neg (by decide), hok, if_pos rfl]
    have e1 : timeTxt 1 v d t = [] := by unfold timeTxt; rw [e0, if_neg (by decide)]
    have hbad : v < 1 ∨ 7 < v ∨ (d && t) = true := by
      by_cases h1 : v < 1
      · exact .inl h1
      · by_cases h2 : 7 < v
        · exact .inr (.inl h2)
        · refine .inr (.inr ?_)
          unfold sgOk at hok
          have a : decide (1 ≤ v) = true := decide_eq_true (by omega)
          have b : decide (v ≤ 7) = true := decide_eq_true (by omega)
          rw [a, b] at hok
          cases hd : (d && t) with
          | true => rfl
          | false => rw [hd] at hok; simp at hok
    have H := Lib.hid hbad
    rw [e0, e1]
    by_cases hv : v = 0
    · subst hv
      cases d <;> cases t
      all_goals first
        | (exfalso; revert hok; decide)
        | (clear hok hbad e0 e1
           go_enter Try.func28, Try.ntmps28
           go_wp2_with (first | (go_at_call 43; refine (of_1 _).mono ?_; rintro e w' ⟨rfl, rfl⟩) | (go_at_call 56; refine (ticks_bad _ _ _ _ H.out).mono ?_; rintro e w1 ⟨rfl, hb1⟩))
           go_ret2
           exact Ret.mk' rfl (by repeat (first | exact Below.refl _ _ | assumption | refine bel_drewN ?_ _ | refine Below.drew ?_ | refine bel_alloc ?_ _ | refine Below.setCell ?_ (by first | omega | (simp; done) | (simp; omega)) _ | refine bel_step ?_ (by assumption))))
    · have hb1 : (v == 0) = false := by simpa using hv
      have hb2 : (v != 0) = true := by simpa using hv
      clear hok hbad e0 e1
      go_enter Try.func28, Try.ntmps28
      go_wp2_with (first | (go_at_call 43; refine (of_1 _).mono ?_; rintro e w' ⟨rfl, rfl⟩) | (go_at_call 56; refine (ticks_bad _ _ _ _ H.out).mono ?_; rintro e w1 ⟨rfl, hb1⟩))
      go_ret2
      exact Ret.mk' rfl (by repeat (first | exact Below.refl _ _ | assumption | refine bel_drewN ?_ _ | refine Below.drew ?_ | refine bel_alloc ?_ _ | refine Below.setCell ?_ (by first | omega | (simp; done) | (simp; omega)) _ | refine bel_step ?_ (by assumption)))
  | true =>
    have hv7 : 0 ≤ v ∧ v ≤ 7 := by
      unfold sgOk at hok
      simp only [Bool.or_eq_true, Bool.and_eq_true, beq_iff_eq, decide_eq_true_eq] at hok
      omega
    have hdt : (d && t) = false := by
      unfold sgOk at hok
      cases d <;> cases t <;> simp at hok ⊢
    obtain ⟨i, hi, hd, ht, hI⟩ : ∃ i : Nat, i ≤ 2 ∧ d = sgD i ∧ t = sgT i ∧ sgI d t = i := by
      cases d <;> cases t
      · exact ⟨0, by omega, rfl, rfl, rfl⟩
      · exact ⟨2, by omega, rfl, rfl, rfl⟩
      · exact ⟨1, by omega, rfl, rfl, rfl⟩
      · cases hdt
    have hz : v = 0 → i = 0 := by
      intro h0
      subst h0
      rw [← hI]
      revert hok
      cases d <;> cases t <;> decide
    have HT := Lib.hid (fun w => ptw_1 v i w hv7 hi hz)
    have e0 : timeErr 1 v d t = if tOk 1 v i = false then 31 else 0 := by unfold timeErr; rw [if_neg (by decide), hok, if_neg (by decide), hI]
    by_cases hv : v = 0
    · have hi0 : i = 0 := hz hv
      subst hv
      subst hi0
      have hd' : d = false := hd
      have ht' : t = false := ht
      subst hd' ht'
      clear hz hi hd ht hI hdt hok
      cases hto : tOk 1 0 0
      all_goals
        rw [hto] at e0
        have e1 : timeErr 1 0 false false = _ := e0
        simp only [if_true, Bool.true_eq_false, if_false] at e1
        have e2 : timeTxt 1 0 false false = if timeErr 1 0 false false = 0 then tW 0 0 else [] := rfl
        rw [e1] at e2 ⊢
        simp only [if_true, show ¬ ((31 : Int) = 0) from by decide, if_false] at e2
        rw [e2]
        clear e0 e1 e2
        go_enter Try.func28, Try.ntmps28
        go_wp2_with (first | (go_at_call 43; refine (of_1 _).mono ?_; rintro e w' ⟨rfl, rfl⟩) | (go_at_call 57; refine (HT.out _).mono ?_; rintro e w2 ⟨rfl, hb2⟩))
        go_ret2
        exact Ret.mk' rfl (by repeat (first | exact Below.refl _ _ | assumption | refine bel_drewN ?_ _ | refine Below.drew ?_ | refine bel_alloc ?_ _ | refine Below.setCell ?_ (by first | omega | (simp; done) | (simp; omega)) _ | refine bel_step ?_ (by assumption)))
    · have hb1 : (v == 0) = false := by simpa using hv
      have hb2 : (v != 0) = true := by simpa using hv
      have htk : (tkV v d t == 0) = false := by have := tkV_pos v d t (by omega) hdt; simp; omega
      have e2 : timeTxt 1 v d t = if timeErr 1 v d t = 0 then tW v i else [] := by unfold timeTxt; rw [hI]
      cases hto : tOk 1 v i
      all_goals
        rw [hto] at e0
        have e1 : timeErr 1 v d t = _ := e0
        simp only [if_true, Bool.true_eq_false, if_false] at e1
        rw [e1] at e2 ⊢
        simp only [if_true, show ¬ ((31 : Int) = 0) from by decide, if_false] at e2
        rw [e2]
        clear e0 e1 e2 hz hok hdt hI
        subst hd ht
        go_enter Try.func28, Try.ntmps28
        go_wp2_with (first | (go_at_call 43; refine (of_1 _).mono ?_; rintro e w' ⟨rfl, rfl⟩) | (go_at_call 56; refine (ticks_any _ _ _ _).mono ?_; rintro e w1 ⟨rfl, hb1⟩; have k1 := (Blk.new _ _ _).after hb1; have x0 : w1.cell? ⟨w.heap.size, 0, none⟩ = some (.int .i64 v) := k1.cell 0; have x1 : w1.cell? ⟨w.heap.size, 1, none⟩ = some (.bool (sgD i)) := k1.cell 1; have x2 : w1.cell? ⟨w.heap.size, 2, none⟩ = some (.bool (sgT i)) := k1.cell 2; clear k1) | (go_at_call 57; refine (HT.out _).mono ?_; rintro e w2 ⟨rfl, hb2⟩))
        go_ret2
        exact Ret.mk' rfl (by repeat (first | exact Below.refl _ _ | assumption | refine bel_drewN ?_ _ | refine Below.drew ?_ | refine bel_alloc ?_ _ | refine Below.setCell ?_ (by first | omega | (simp; done) | (simp; omega)) _ | refine bel_step ?_ (by assumption)))
end Go.Proofs.Yteldgllgagjciaa
