/- The names of the systems: program and reference; the walk of NotationNames. -/
import Derived.Test.YteldgllgagjciaaWorks
import Derived.Test.YteldgllgagjciaaRef
namespace Go.Proofs.Yteldgllgagjciaa
open Go.RowKit
set_option maxHeartbeats 1600000
set_option maxRecDepth 100000
set_option linter.unusedVariables false
set_option linter.unusedSimpArgs false
attribute [local go_sem] mk_bs bs_size bs_toList bs_append bs_extract

def nm1 : List UInt8 := [102, 114, 101, 110, 99, 104]
def nm2 : List UInt8 := [105, 116, 97, 108, 105, 97, 110]
def nm3 : List UInt8 := [115, 112, 97, 110, 105, 115, 104]
def nm4 : List UInt8 := [103, 101, 114, 109, 97, 110]
/-- The name of a system. -/
def nmS (s : Int) : List UInt8 := if s = 1 then nm1 else if s = 2 then nm2 else if s = 3 then nm3 else nm4
/-- What SystemName returns. -/
def snV (s : Int) : Value := if 1 ≤ s ∧ s ≤ 4 then .tuple #[.string (bs (nmS s)), .int .i64 0] else .tuple #[.string (bs []), .int .i64 30]
/-- What ParseSystem returns. -/
def psV (l : List UInt8) : Value :=
  if (nm1 == l) = true then .tuple #[.int .u8 1, .int .i64 0] else if (nm2 == l) = true then .tuple #[.int .u8 2, .int .i64 0]
  else if (nm3 == l) = true then .tuple #[.int .u8 3, .int .i64 0] else if (nm4 == l) = true then .tuple #[.int .u8 4, .int .i64 0] else .tuple #[.int .u8 0, .int .i64 4]

theorem psystemName_any (s : Int) (w : World) : Calls Try.prog 18 #[.int .u8 s] w (Ret (snV s) w) := by
  by_cases hs : 1 ≤ s ∧ s ≤ 4
  · have e : snV s = .tuple #[.string (bs (nmS s)), .int .i64 0] := if_pos hs
    rw [e]
    have h4 : s = 1 ∨ s = 2 ∨ s = 3 ∨ s = 4 := by omega
    clear e hs
    rcases h4 with rfl | rfl | rfl | rfl
    all_goals
      go_enter Try.func18, Try.ntmps18
      go_wp2
      go_ret2
      exact Ret.mk' rfl (by repeat (first | exact Below.refl _ _ | assumption | refine bel_drewN ?_ _ | refine Below.drew ?_ | refine bel_alloc ?_ _ | refine Below.setCell ?_ (by first | omega | (simp; done) | (simp; omega)) _ | refine bel_step ?_ (by assumption)))
  · have e : snV s = .tuple #[.string (bs []), .int .i64 30] := if_neg hs
    rw [e]
    have hs' : s < 1 ∨ 4 < s := by omega
    clear e hs
    go_enter Try.func18, Try.ntmps18
    go_wp2_with (go_at_call 43; refine (of_bad _ _ hs').mono ?_; rintro e w' ⟨rfl, rfl⟩)
    go_ret2
    exact Ret.mk' rfl (by repeat (first | exact Below.refl _ _ | assumption | refine bel_drewN ?_ _ | refine Below.drew ?_ | refine bel_alloc ?_ _ | refine Below.setCell ?_ (by first | omega | (simp; done) | (simp; omega)) _ | refine bel_step ?_ (by assumption)))
theorem rsystemName_any (s : Int) (w : World) : Calls Try.prog 19 #[.int .u8 s] w (Ret (snV s) w) := by
  by_cases hs : 1 ≤ s ∧ s ≤ 4
  · have e : snV s = .tuple #[.string (bs (nmS s)), .int .i64 0] := if_pos hs
    rw [e]
    have h4 : s = 1 ∨ s = 2 ∨ s = 3 ∨ s = 4 := by omega
    clear e hs
    rcases h4 with rfl | rfl | rfl | rfl
    all_goals
      go_enter Try.func19, Try.ntmps19
      go_wp2
      go_ret2
      exact Ret.mk' rfl (by repeat (first | exact Below.refl _ _ | assumption | refine bel_drewN ?_ _ | refine Below.drew ?_ | refine bel_alloc ?_ _ | refine Below.setCell ?_ (by first | omega | (simp; done) | (simp; omega)) _ | refine bel_step ?_ (by assumption)))
  · have e : snV s = .tuple #[.string (bs []), .int .i64 30] := if_neg hs
    have hd : decide (1 ≤ s ∧ s ≤ 4) = false := decide_eq_false hs
    rw [e]
    clear e hs
    go_enter Try.func19, Try.ntmps19
    go_wp2_with (go_at_call 37; refine (known_any _ _).mono ?_; rintro e w' ⟨rfl, hw⟩; rw [hw]; clear hw)
    go_ret2
    exact Ret.mk' rfl (by repeat (first | exact Below.refl _ _ | assumption | refine bel_drewN ?_ _ | refine Below.drew ?_ | refine bel_alloc ?_ _ | refine Below.setCell ?_ (by first | omega | (simp; done) | (simp; omega)) _ | refine bel_step ?_ (by assumption)))

theorem pparseSystem_any (l : List UInt8) (w : World) : Calls Try.prog 20 #[.string (bs l)] w (Ret (psV l) w) := by
  unfold psV nm1 nm2 nm3 nm4
  by_cases h1 : (([102, 114, 101, 110, 99, 104] : List UInt8) == l) = true
  · rw [if_pos h1]
    go_enter Try.func20, Try.ntmps20
    go_wp2
    go_rounds 5
    go_ret2
    exact Ret.mk' rfl (by repeat (first | exact Below.refl _ _ | assumption | refine bel_drewN ?_ _ | refine Below.drew ?_ | refine bel_alloc ?_ _ | refine Below.setCell ?_ (by first | omega | (simp; done) | (simp; omega)) _ | refine bel_step ?_ (by assumption)))
  · rw [if_neg h1]
    have g1 : (([102, 114, 101, 110, 99, 104] : List UInt8) == l) = false := by simpa using h1
    clear h1
    by_cases h2 : (([105, 116, 97, 108, 105, 97, 110] : List UInt8) == l) = true
    · rw [if_pos h2]
      go_enter Try.func20, Try.ntmps20
      go_wp2
      go_rounds 5
      go_ret2
      exact Ret.mk' rfl (by repeat (first | exact Below.refl _ _ | assumption | refine bel_drewN ?_ _ | refine Below.drew ?_ | refine bel_alloc ?_ _ | refine Below.setCell ?_ (by first | omega | (simp; done) | (simp; omega)) _ | refine bel_step ?_ (by assumption)))
    · rw [if_neg h2]
      have g2 : (([105, 116, 97, 108, 105, 97, 110] : List UInt8) == l) = false := by simpa using h2
      clear h2
      by_cases h3 : (([115, 112, 97, 110, 105, 115, 104] : List UInt8) == l) = true
      · rw [if_pos h3]
        go_enter Try.func20, Try.ntmps20
        go_wp2
        go_rounds 5
        go_ret2
        exact Ret.mk' rfl (by repeat (first | exact Below.refl _ _ | assumption | refine bel_drewN ?_ _ | refine Below.drew ?_ | refine bel_alloc ?_ _ | refine Below.setCell ?_ (by first | omega | (simp; done) | (simp; omega)) _ | refine bel_step ?_ (by assumption)))
      · rw [if_neg h3]
        have g3 : (([115, 112, 97, 110, 105, 115, 104] : List UInt8) == l) = false := by simpa using h3
        clear h3
        by_cases h4 : (([103, 101, 114, 109, 97, 110] : List UInt8) == l) = true
        · rw [if_pos h4]
          go_enter Try.func20, Try.ntmps20
          go_wp2
          go_rounds 5
          go_ret2
          exact Ret.mk' rfl (by repeat (first | exact Below.refl _ _ | assumption | refine bel_drewN ?_ _ | refine Below.drew ?_ | refine bel_alloc ?_ _ | refine Below.setCell ?_ (by first | omega | (simp; done) | (simp; omega)) _ | refine bel_step ?_ (by assumption)))
        · rw [if_neg h4]
          have g4 : (([103, 101, 114, 109, 97, 110] : List UInt8) == l) = false := by simpa using h4
          clear h4
          go_enter Try.func20, Try.ntmps20
          go_wp2
          go_rounds 5
          go_ret2
          exact Ret.mk' rfl (by repeat (first | exact Below.refl _ _ | assumption | refine bel_drewN ?_ _ | refine Below.drew ?_ | refine bel_alloc ?_ _ | refine Below.setCell ?_ (by first | omega | (simp; done) | (simp; omega)) _ | refine bel_step ?_ (by assumption)))

theorem rparseSystem_any (l : List UInt8) (w : World) : Calls Try.prog 21 #[.string (bs l)] w (Ret (psV l) w) := by
  unfold psV nm1 nm2 nm3 nm4
  by_cases h1 : (([102, 114, 101, 110, 99, 104] : List UInt8) == l) = true
  · rw [if_pos h1]
    go_enter Try.func21, Try.ntmps21
    go_wp2
    go_rounds 5
    go_ret2
    exact Ret.mk' rfl (by repeat (first | exact Below.refl _ _ | assumption | refine bel_drewN ?_ _ | refine Below.drew ?_ | refine bel_alloc ?_ _ | refine Below.setCell ?_ (by first | omega | (simp; done) | (simp; omega)) _ | refine bel_step ?_ (by assumption)))
  · rw [if_neg h1]
    have g1 : (([102, 114, 101, 110, 99, 104] : List UInt8) == l) = false := by simpa using h1
    clear h1
    by_cases h2 : (([105, 116, 97, 108, 105, 97, 110] : List UInt8) == l) = true
    · rw [if_pos h2]
      go_enter Try.func21, Try.ntmps21
      go_wp2
      go_rounds 5
      go_ret2
      exact Ret.mk' rfl (by repeat (first | exact Below.refl _ _ | assumption | refine bel_drewN ?_ _ | refine Below.drew ?_ | refine bel_alloc ?_ _ | refine Below.setCell ?_ (by first | omega | (simp; done) | (simp; omega)) _ | refine bel_step ?_ (by assumption)))
    · rw [if_neg h2]
      have g2 : (([105, 116, 97, 108, 105, 97, 110] : List UInt8) == l) = false := by simpa using h2
      clear h2
      by_cases h3 : (([115, 112, 97, 110, 105, 115, 104] : List UInt8) == l) = true
      · rw [if_pos h3]
        go_enter Try.func21, Try.ntmps21
        go_wp2
        go_rounds 5
        go_ret2
        exact Ret.mk' rfl (by repeat (first | exact Below.refl _ _ | assumption | refine bel_drewN ?_ _ | refine Below.drew ?_ | refine bel_alloc ?_ _ | refine Below.setCell ?_ (by first | omega | (simp; done) | (simp; omega)) _ | refine bel_step ?_ (by assumption)))
      · rw [if_neg h3]
        have g3 : (([115, 112, 97, 110, 105, 115, 104] : List UInt8) == l) = false := by simpa using h3
        clear h3
        by_cases h4 : (([103, 101, 114, 109, 97, 110] : List UInt8) == l) = true
        · rw [if_pos h4]
          go_enter Try.func21, Try.ntmps21
          go_wp2
          go_rounds 5
          go_ret2
          exact Ret.mk' rfl (by repeat (first | exact Below.refl _ _ | assumption | refine bel_drewN ?_ _ | refine Below.drew ?_ | refine bel_alloc ?_ _ | refine Below.setCell ?_ (by first | omega | (simp; done) | (simp; omega)) _ | refine bel_step ?_ (by assumption)))
        · rw [if_neg h4]
          have g4 : (([103, 101, 114, 109, 97, 110] : List UInt8) == l) = false := by simpa using h4
          clear h4
          go_enter Try.func21, Try.ntmps21
          go_wp2
          go_rounds 5
          go_ret2
          exact Ret.mk' rfl (by repeat (first | exact Below.refl _ _ | assumption | refine bel_drewN ?_ _ | refine Below.drew ?_ | refine bel_alloc ?_ _ | refine Below.setCell ?_ (by first | omega | (simp; done) | (simp; omega)) _ | refine bel_step ?_ (by assumption)))


theorem names_walk' (s : Int) (l : List UInt8) (w : World) : Calls Try.prog 6 #[.int .u8 s, .string (bs l)] w (Ret (.bool true) w) := by
  obtain ⟨t, e, h1⟩ : ∃ (t : List UInt8) (e : Int), snV s = .tuple #[.string (bs t), .int .i64 e] := by
    unfold snV; split
    · exact ⟨_, _, rfl⟩
    · exact ⟨_, _, rfl⟩
  obtain ⟨k, e2, h2⟩ : ∃ (k : Int) (e2 : Int), psV l = .tuple #[.int .u8 k, .int .i64 e2] := by
    unfold psV; repeat' split
    all_goals exact ⟨_, _, rfl⟩
  have H1 := Lib.hid h1
  have H2 := Lib.hid h2
  clear h1 h2
  go_enter Try.func6, Try.ntmps6
  go_wp2_with (first
    | (go_at_call 18; refine (psystemName_any _ _).mono ?_; rw [H1.out]; rintro e w1 ⟨rfl, hb1⟩)
    | (go_at_call 19; refine (rsystemName_any _ _).mono ?_; rw [H1.out]; rintro e w2 ⟨rfl, hb2⟩)
    | (go_at_call 20; refine (pparseSystem_any _ _).mono ?_; rw [H2.out]; rintro e w3 ⟨rfl, hb3⟩)
    | (go_at_call 21; refine (rparseSystem_any _ _).mono ?_; rw [H2.out]; rintro e w4 ⟨rfl, hb4⟩)
    | (go_at_call 14; refine (works_any _).mono ?_; rintro e w5 ⟨rfl, hb5⟩))
  go_ret
  exact Ret.mk' rfl (by repeat (first | exact Below.refl _ _ | assumption | refine bel_drewN ?_ _ | refine Below.drew ?_ | refine bel_alloc ?_ _ | refine Below.setCell ?_ (by first | omega | (simp; done) | (simp; omega)) _ | refine bel_step ?_ (by assumption)))
theorem names_walk (s : Int) (t : ByteArray) (w : World) : Calls Try.prog 6 #[.int .u8 s, .string t] w (Ret (.bool true) w) := by
  obtain ⟨l, rfl⟩ := bs_of t
  exact names_walk' s l w
end Go.Proofs.Yteldgllgagjciaa
