/- Marks, holds and what a system lacks of a stop: the reference. -/
import Derived.Test.YteldgllgagjciaaRPl
import Derived.Test.YteldgllgagjciaaMkP
import Derived.OwnWalk
import Derived.Maps.AppendAt
namespace Go.Proofs.Yteldgllgagjciaa
open Go.RowKit
set_option maxHeartbeats 1600000
set_option maxRecDepth 100000
set_option linter.unusedVariables false
set_option linter.unusedSimpArgs false
attribute [local go_sem] mk_bs bs_size bs_toList bs_append bs_extract
attribute [local simp] run_cut run_cut_to run_cut_from run_add_bs

theorem rright_any (s n : Int) (w : World) (hs : 1 ≤ s ∧ s ≤ 4) (h : 0 ≤ n ∧ n ≤ 3) :
    Calls Try.prog 47 #[.int .u8 s, .int .i64 n] w fun e w' => e = .returned (.string (bs (rR s n))) ∧ w' = w := by
  have h4 : n = 0 ∨ n = 1 ∨ n = 2 ∨ n = 3 := by omega
  have s4 : s = 1 ∨ s = 2 ∨ s = 3 ∨ s = 4 := by omega
  clear h hs
  rcases h4 with rfl | rfl | rfl | rfl <;> rcases s4 with rfl | rfl | rfl | rfl
  all_goals
    go_enter Try.func47, Try.ntmps47
    go_wp2
    go_ret
    exact ⟨rfl, rfl⟩
theorem rgrace_any (s n : Int) (w : World) (hs : 1 ≤ s ∧ s ≤ 4) (h : 0 ≤ n ∧ n ≤ 4) :
    Calls Try.prog 48 #[.int .u8 s, .int .i64 n] w fun e w' => e = .returned (.string (bs (rG s n))) ∧ w' = w := by
  have h4 : n = 0 ∨ n = 1 ∨ n = 2 ∨ n = 3 ∨ n = 4 := by omega
  have s4 : s = 1 ∨ s = 2 ∨ s = 3 ∨ s = 4 := by omega
  clear h hs
  rcases h4 with rfl | rfl | rfl | rfl | rfl <;> rcases s4 with rfl | rfl | rfl | rfl
  all_goals
    go_enter Try.func48, Try.ntmps48
    go_wp2
    go_ret
    exact ⟨rfl, rfl⟩
theorem digAll : ((List.range 10).all fun n => cut [48, 49, 50, 51, 52, 53, 54, 55, 56, 57] ((n : Nat) : Int) (((n : Nat) : Int) + 1) == [UInt8.ofNat (48 + n)]) = true := by decide +kernel
theorem digOne (n : Int) (h : 0 ≤ n ∧ n ≤ 9) : cut [48, 49, 50, 51, 52, 53, 54, 55, 56, 57] n (n + 1) = [UInt8.ofNat (48 + n.toNat)] := by
  obtain ⟨k, rfl⟩ := Int.eq_ofNat_of_zero_le h.1
  have h1 := digAll
  rw [List.all_eq_true] at h1
  have := h1 k (List.mem_range.2 (by omega))
  simpa using this
theorem decimal_one (n : Int) (w : World) (h : 0 ≤ n ∧ n ≤ 9) :
    Calls Try.prog 67 #[.int .i64 n] w fun e w' => e = .returned (.string (bs (dig2 n.toNat))) ∧ w' = w := by
  obtain ⟨h0, h1⟩ := h
  have e : dig2 n.toNat = cut [48, 49, 50, 51, 52, 53, 54, 55, 56, 57] n (n + 1) := by
    rw [digOne n ⟨h0, h1⟩]; unfold dig2; rw [if_pos (by omega)]
  rw [e]
  have hm : n % 10 = n := by omega
  have g1 : n ≤ n + 1 := by omega
  have g2 : n + 1 ≤ 10 := by omega
  have g3 : n < 10 := by omega
  clear e
  go_enter Try.func67, Try.ntmps67
  go_wp2
  go_ret
  exact ⟨rfl, rfl⟩
theorem decimal_two (n : Int) (w : World) (h : 10 ≤ n ∧ n ≤ 99) :
    Calls Try.prog 67 #[.int .i64 n] w fun e w' => e = .returned (.string (bs (dig2 n.toNat))) ∧ w' = w := by
  obtain ⟨h0, h1⟩ := h
  have e : dig2 n.toNat = dig2 (n / 10).toNat ++ cut [48, 49, 50, 51, 52, 53, 54, 55, 56, 57] (n % 10) (n % 10 + 1) := by
    rw [digOne (n % 10) (by omega)]
    unfold dig2
    rw [if_neg (by omega), if_pos (by omega)]
    rw [show (n / 10).toNat = n.toNat / 10 from by omega, show (n % 10).toNat = n.toNat % 10 from by omega]
    rfl
  rw [e]
  have g0 : 0 ≤ n % 10 := by omega
  have g0' : 0 ≤ n := by omega
  have g1 : n % 10 ≤ n % 10 + 1 := by omega
  have g2 : n % 10 + 1 ≤ 10 := by omega
  have g2' : n % 10 ≤ 9 := by omega
  have g3 : ¬ n < 10 := by omega
  have g4 : ¬ n < 0 := by omega
  have hd : 0 ≤ n / 10 ∧ n / 10 ≤ 9 := by omega
  have hl : (dig2 (n / 10).toNat).length + (cut [48, 49, 50, 51, 52, 53, 54, 55, 56, 57] (n % 10) (n % 10 + 1)).length ≤ 9223372036854775807 := by
    have := dig2_len (n / 10).toNat
    rw [digOne (n % 10) (by omega)]; simp; omega
  clear e
  go_enter Try.func67, Try.ntmps67
  go_wp2_with (go_at_call 67; refine (decimal_one _ _ hd).mono ?_; rintro e w' ⟨rfl, hw⟩; rw [hw]; clear hw)
  go_ret
  exact ⟨rfl, rfl⟩
theorem decimal_any (n : Int) (w : World) (h : 0 ≤ n ∧ n ≤ 99) :
    Calls Try.prog 67 #[.int .i64 n] w fun e w' => e = .returned (.string (bs (dig2 n.toNat))) ∧ w' = w := by
  by_cases h9 : n ≤ 9
  · exact decimal_one n w ⟨h.1, h9⟩
  · exact decimal_two n w ⟨by omega, h.2⟩

theorem rhold_any (s n L : Int) (w : World) (hs : 1 ≤ s ∧ s ≤ 4) (h : 0 ≤ n ∧ n ≤ 99) :
    Calls Try.prog 49 #[.int .u8 s, .int .i64 n, .int .i64 L] w fun e w' => e = .returned (.string (bs (rH s n L))) ∧ w' = w := by
  have s4 : s = 1 ∨ s = 2 ∨ s = 3 ∨ s = 4 := by omega
  clear hs
  rcases s4 with rfl | rfl | rfl | rfl
  · have e2 : rH 1 n L = 95 :: dig2 n.toNat := if_pos rfl
    have hl' : 1 + (dig2 n.toNat).length ≤ 9223372036854775807 := by have := dig2_len n.toNat; omega
    rw [e2]
    clear e2
    go_enter Try.func49, Try.ntmps49
    go_wp2_with (go_at_call 67; refine (decimal_any _ _ h).mono ?_; rintro e w' ⟨rfl, hw⟩; rw [hw]; clear hw)
    go_ret
    exact ⟨rfl, rfl⟩
  · by_cases hL : n = L
    · have e2 : rH 2 n L = [42] := by unfold rH; rw [if_neg (by decide), if_pos ⟨by decide, hL⟩]
      have hbL : (n == L) = true := by simpa using hL
      rw [e2]
      clear e2 hL
      go_enter Try.func49, Try.ntmps49
      go_wp2
      go_ret
      exact ⟨rfl, rfl⟩
    · have e2 : rH 2 n L = [] := by unfold rH; rw [if_neg (by decide), if_neg (fun h => hL h.2)]
      have hbL : (n == L) = false := by simpa using hL
      rw [e2]
      clear e2 hL
      go_enter Try.func49, Try.ntmps49
      go_wp2
      go_ret
      exact ⟨rfl, rfl⟩
  · have e2 : rH 3 n L = [] := rfl
    rw [e2]
    clear e2
    go_enter Try.func49, Try.ntmps49
    go_wp2
    go_ret
    exact ⟨rfl, rfl⟩
  · by_cases hL : n = L
    · have e2 : rH 4 n L = [42] := by unfold rH; rw [if_neg (by decide), if_pos ⟨by decide, hL⟩]
      have hbL : (n == L) = true := by simpa using hL
      rw [e2]
      clear e2 hL
      go_enter Try.func49, Try.ntmps49
      go_wp2
      go_ret
      exact ⟨rfl, rfl⟩
    · have e2 : rH 4 n L = [] := by unfold rH; rw [if_neg (by decide), if_neg (fun h => hL h.2)]
      have hbL : (n == L) = false := by simpa using hL
      rw [e2]
      clear e2 hL
      go_enter Try.func49, Try.ntmps49
      go_wp2
      go_ret
      exact ⟨rfl, rfl⟩
end Go.Proofs.Yteldgllgagjciaa
