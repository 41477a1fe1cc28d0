/- Signs of the reference: valid, words, all. -/
import Derived.Test.YteldgllgagjciaaRPl
import Derived.Test.YteldgllgagjciaaPtP
import Derived.Test.YteldgllgagjciaaOwn
namespace Go.Proofs.Yteldgllgagjciaa
open Go.RowKit
set_option maxHeartbeats 1600000
set_option maxRecDepth 100000
set_option linter.unusedVariables false
set_option linter.unusedSimpArgs false
attribute [local go_sem] mk_bs bs_size bs_toList bs_append bs_extract
attribute [local simp] run_cut run_cut_to run_cut_from run_add_bs

theorem right_any (v : Int) (d t : Bool) (w : World) : Calls Try.prog 58 #[.agg #[.int .i64 v, .bool d, .bool t]] w (Ret (.bool (sgOk v d t)) w) := by
  by_cases h0 : v = 0
  · subst h0
    cases d <;> cases t
    all_goals
      go_enter Try.func58, Try.ntmps58
      go_wp2
      go_ret
      exact Ret.mk' rfl (by repeat (first | exact Below.refl _ _ | assumption | refine bel_drewN ?_ _ | refine Below.drew ?_ | refine bel_alloc ?_ _ | refine Below.setCell ?_ (by first | omega | (simp; done) | (simp; omega)) _ | refine bel_step ?_ (by assumption)))
  · have hb : (v == 0) = false := by simpa using h0
    have e : sgOk v d t = (decide (1 ≤ v) && decide (v ≤ 7) && !(d && t)) := by unfold sgOk; rw [hb]; simp
    rw [e]
    clear e
    by_cases h1 : 1 ≤ v
    · by_cases h7 : v ≤ 7
      · cases d <;> cases t
        all_goals
          go_enter Try.func58, Try.ntmps58
          go_wp2
          go_ret
          exact Ret.mk' (by simp [h1, h7]) (by repeat (first | exact Below.refl _ _ | assumption | refine bel_drewN ?_ _ | refine Below.drew ?_ | refine bel_alloc ?_ _ | refine Below.setCell ?_ (by first | omega | (simp; done) | (simp; omega)) _ | refine bel_step ?_ (by assumption)))
      · rw [show (decide (1 ≤ v) && decide (v ≤ 7) && !(d && t)) = false from by rw [decide_eq_false h7]; simp]
        go_enter Try.func58, Try.ntmps58
        go_wp2
        go_ret
        exact Ret.mk' rfl (by repeat (first | exact Below.refl _ _ | assumption | refine bel_drewN ?_ _ | refine Below.drew ?_ | refine bel_alloc ?_ _ | refine Below.setCell ?_ (by first | omega | (simp; done) | (simp; omega)) _ | refine bel_step ?_ (by assumption)))
    · rw [show (decide (1 ≤ v) && decide (v ≤ 7) && !(d && t)) = false from by rw [decide_eq_false h1]; simp]
      go_enter Try.func58, Try.ntmps58
      go_wp2
      go_ret
      exact Ret.mk' rfl (by repeat (first | exact Below.refl _ _ | assumption | refine bel_drewN ?_ _ | refine Below.drew ?_ | refine bel_alloc ?_ _ | refine Below.setCell ?_ (by first | omega | (simp; done) | (simp; omega)) _ | refine bel_step ?_ (by assumption)))

theorem rword_any (s v : Int) (i : Nat) (w : World) (hv : 0 ≤ v ∧ v ≤ 7) (hi : i ≤ 2) (hz : v = 0 → i = 0) :
    Calls Try.prog 59 #[.int .u8 s, .agg #[.int .i64 v, .bool (sgD i), .bool (sgT i)]] w (Ret (.string (bs (rW s v i))) w) := by
  have h3 : i = 0 ∨ i = 1 ∨ i = 2 := by omega
  have h8 : v = 0 ∨ v = 1 ∨ v = 2 ∨ v = 3 ∨ v = 4 ∨ v = 5 ∨ v = 6 ∨ v = 7 := by omega
  clear hi hv
  by_cases h4 : s = 4
  · subst h4
    rcases h3 with rfl | rfl | rfl <;> rcases h8 with rfl | rfl | rfl | rfl | rfl | rfl | rfl | rfl
    all_goals first
      | (exfalso; revert hz; decide)
      | (clear hz
         simp only [sgD, sgT]
         go_enter Try.func59, Try.ntmps59
         go_wp2
         go_ret
         exact Ret.mk' rfl (by repeat (first | exact Below.refl _ _ | assumption | refine bel_drewN ?_ _ | refine Below.drew ?_ | refine bel_alloc ?_ _ | refine Below.setCell ?_ (by first | omega | (simp; done) | (simp; omega)) _ | refine bel_step ?_ (by assumption))))
  · have hb : (s == 4) = false := by simpa using h4
    have hd : decide (s ≠ 4) = true := decide_eq_true h4
    have e : rW s v i = tW v i := by
      unfold rW tOk
      rw [hd]; split <;> simp
    rw [e]
    clear e h4 hd
    rcases h3 with rfl | rfl | rfl <;> rcases h8 with rfl | rfl | rfl | rfl | rfl | rfl | rfl | rfl
    all_goals first
      | (exfalso; revert hz; decide)
      | (clear hz
         simp only [sgD, sgT]
         go_enter Try.func59, Try.ntmps59
         go_wp2
         go_ret
         exact Ret.mk' rfl (by repeat (first | exact Below.refl _ _ | assumption | refine bel_drewN ?_ _ | refine Below.drew ?_ | refine bel_alloc ?_ _ | refine Below.setCell ?_ (by first | omega | (simp; done) | (simp; omega)) _ | refine bel_step ?_ (by assumption))))

/-- The cells of a list of signs. -/
def sgCells (l : List (Nat × Nat)) : List Value := l.flatMap fun p => [.int .i64 p.1, .bool (sgD p.2), .bool (sgT p.2)]
theorem sgStep (v : Nat) (h : 2 ≤ v ∧ v ≤ 7) : sgCells (refSigns.take (2 + 3 * (v - 2))) ++ [.int .i64 v, .bool true, .bool false, .int .i64 ((v : Int) - 1), .bool false, .bool true, .int .i64 v, .bool false, .bool false] = sgCells (refSigns.take (2 + 3 * (v + 1 - 2))) := by
  have h6 : v = 2 ∨ v = 3 ∨ v = 4 ∨ v = 5 ∨ v = 6 ∨ v = 7 := by omega
  rcases h6 with rfl | rfl | rfl | rfl | rfl | rfl <;> rfl
theorem info_sign : (Try.prog.info? 56).map (fun i => (i.zero, i.size, i.bytes)) = some (some (.agg #[.int .i64 0, .bool false, .bool false]), 3, 16) := by kernel_rfl
def RetRow (e : TypeId) (size n : Nat) (xs : List Value) (W : World) (en : Ending) (w' : World) : Prop := ∃ v, en = .returned v ∧ w'.ownsRow W.heap.size e size v n xs ∧ Below W.heap.size W w'

theorem all_any (w : World) : Calls Try.prog 60 #[] w (RetRow 56 3 21 (sgCells (refSigns.take 21)) w) := by
  obtain ⟨i0, hi, hz0, hz1, hz2⟩ := info_parts info_sign
  go_enter Try.func60, Try.ntmps60
  go_wp2_with fail
  go_loopw [1, 2] (fun s u wr => ∃ v : Nat, 2 ≤ v ∧ v ≤ 8 ∧ u = .int .i64 v ∧ wr.ownsRow w.heap.size 56 3 s (2 + 3 * (v - 2)) (sgCells (refSigns.take (2 + 3 * (v - 2)))) ∧ Below w.heap.size w wr)
    (fun _ u _ => 8 - (intOf u).toNat)
  case atStart => exact ⟨2, by omega, by omega, rfl, own_built w 56 3 2 _ (by unfold maxLen; omega) rfl, (by repeat (first | exact Below.refl _ _ | assumption | refine bel_drewN ?_ _ | refine Below.drew ?_ | refine bel_alloc ?_ _ | refine Below.setCell ?_ (by first | omega | (simp; done) | (simp; omega)) _ | refine bel_step ?_ (by assumption)))⟩
  case round =>
    obtain ⟨v, hv2, hv8, rfl, hown, hbel⟩ := hrel
    have HO := Lib.hid hown
    clear hown
    by_cases hle : v ≤ 7
    · have g1 : 1 ≤ (v : Int) := by omega
      have HS := Lib.hid (sgStep v ⟨hv2, hle⟩)
      go_wp2_with (at_builtin; refine wpList_append_own _ rfl (.tmp 10) (.tmp 18) 100 rfl w.heap.size 56 i0 (.agg #[.int .i64 0, .bool false, .bool false]) 3 16 Try.underlying100 hi hz0 hz1 hz2 rfl (by decide) _ _ _ rfl (HO.out.alloc _) ⟨wr.heap.size, 0, none⟩ 3 3 [.int .i64 v, .bool true, .bool false, .int .i64 ((v : Int) - 1), .bool false, .bool true, .int .i64 v, .bool false, .bool false] rfl rfl ?c1 ?c2 ?c3 ?c4 ?c5 ?_)
      case c1 => exact World.news_of_block (cs := #[.int .i64 v, .bool true, .bool false, .int .i64 ((v : Int) - 1), .bool false, .bool true, .int .i64 v, .bool false, .bool false]) (t := 56) (fr := (0, 0)) (heap_alloc_new wr _)
      case c2 => simp [Value.oneCell']
      case c3 => unfold maxLen; omega
      case c4 => omega
      case c5 => have := hbel.size; simp; omega
      intro v' w1 hown1 hgrow _
      have hbel1 : Below w.heap.size w w1 := (bel_alloc hbel _).grown hgrow (by have := hbel.size; simp; omega) (own_ge (HO.out.alloc (.cells #[] 0)))
      rw [HS.out] at hown1
      have HO1 := Lib.hid hown1
      clear hown1 hgrow
      go_wp2_with fail
      go_roundw
      case rel => exact ⟨v + 1, by omega, by omega, by go_num, by have := HO1.out; rw [show 2 + 3 * (v - 2) + 3 = 2 + 3 * (v + 1 - 2) from by omega] at this; exact this, hbel1⟩
      case measure => simp [intOf]; omega
    · have hv : v = 8 := by omega
      subst hv
      go_wp2_with (at_builtin; refine wpList_append_own _ rfl (.tmp 20) (.tmp 22) 100 rfl w.heap.size 56 i0 (.agg #[.int .i64 0, .bool false, .bool false]) 3 16 Try.underlying100 hi hz0 hz1 hz2 rfl (by decide) _ _ _ rfl (HO.out.alloc _) ⟨wr.heap.size, 0, none⟩ 1 1 [.int .i64 7, .bool false, .bool true] rfl rfl ?d1 ?d2 ?d3 ?d4 ?d5 ?_)
      case d1 => exact World.news_of_block (cs := #[.int .i64 7, .bool false, .bool true]) (t := 56) (fr := (0, 0)) (heap_alloc_new wr _)
      case d2 => simp [Value.oneCell']
      case d3 => unfold maxLen; omega
      case d4 => omega
      case d5 => have := hbel.size; simp; omega
      intro v' w1 hown1 hgrow _
      have hbel1 : Below w.heap.size w w1 := (bel_alloc hbel _).grown hgrow (by have := hbel.size; simp; omega) (own_ge (HO.out.alloc (.cells #[] 0)))
      have HO1 := Lib.hid hown1
      clear hown1 hgrow
      go_wp2_with fail
      go_ret
      exact ⟨_, rfl, HO1.out, hbel1⟩
end Go.Proofs.Yteldgllgagjciaa
