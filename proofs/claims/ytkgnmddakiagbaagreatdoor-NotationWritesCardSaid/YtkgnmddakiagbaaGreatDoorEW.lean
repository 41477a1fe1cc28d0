/- What a system lacks of a stop, over trees: the reference. -/
import Derived.Test.YtkgnmddakiagbaaGreatDoorRef
import Derived.Test.YtkgnmddakiagbaaGreatDoorMkP
import Derived.OwnWalk
import Derived.Maps.AppendAt
import Derived.Test.YtkgnmddakiagbaaGreatDoorEQ
import Derived.Test.YtkgnmddakiagbaaGreatDoorEZ

/- Marks, holds and what a system lacks of a stop: the reference. -/
namespace Go.Proofs.YtkgnmddakiagbaaGreatDoor
open Go.RowKit
set_option maxHeartbeats 1600000
set_option maxRecDepth 100000
set_option linter.unusedVariables false
set_option linter.unusedSimpArgs false
attribute [local go_sem] mk_bs bs_size bs_toList bs_append bs_extract
attribute [local simp] run_cut run_cut_to run_cut_from run_add_bs

theorem rright_any (s n : Int) (w : World) (hs : 1 ≤ s ∧ s ≤ 4) (h : 0 ≤ n ∧ n ≤ 3) :
    Calls Tryz.prog 204 #[.int .u8 s, .int .i64 n] w fun e w' => e = .returned (.string (bs (rR s n))) ∧ w' = w := by
  have h4 : n = 0 ∨ n = 1 ∨ n = 2 ∨ n = 3 := by omega
  have s4 : s = 1 ∨ s = 2 ∨ s = 3 ∨ s = 4 := by omega
  clear h hs
  rcases h4 with rfl | rfl | rfl | rfl <;> rcases s4 with rfl | rfl | rfl | rfl
  all_goals
    go_enter Tryz.func204, Tryz.ntmps204
    go_wp2
    go_ret
    exact ⟨rfl, rfl⟩
theorem rgrace_any (s n : Int) (w : World) (hs : 1 ≤ s ∧ s ≤ 4) (h : 0 ≤ n ∧ n ≤ 4) :
    Calls Tryz.prog 205 #[.int .u8 s, .int .i64 n] w fun e w' => e = .returned (.string (bs (rG s n))) ∧ w' = w := by
  have h4 : n = 0 ∨ n = 1 ∨ n = 2 ∨ n = 3 ∨ n = 4 := by omega
  have s4 : s = 1 ∨ s = 2 ∨ s = 3 ∨ s = 4 := by omega
  clear h hs
  rcases h4 with rfl | rfl | rfl | rfl | rfl <;> rcases s4 with rfl | rfl | rfl | rfl
  all_goals
    go_enter Tryz.func205, Tryz.ntmps205
    go_wp2
    go_ret
    exact ⟨rfl, rfl⟩
theorem digAll : ((List.range 10).all fun n => cut [48, 49, 50, 51, 52, 53, 54, 55, 56, 57] ((n : Nat) : Int) (((n : Nat) : Int) + 1) == [UInt8.ofNat (48 + n)]) = true := by decide +kernel
theorem digOne (n : Int) (h : 0 ≤ n ∧ n ≤ 9) : cut [48, 49, 50, 51, 52, 53, 54, 55, 56, 57] n (n + 1) = [UInt8.ofNat (48 + n.toNat)] := by
  obtain ⟨k, rfl⟩ := Int.eq_ofNat_of_zero_le h.1
  have h1 := digAll
  rw [List.all_eq_true] at h1
  have := h1 k (List.mem_range.2 (by omega))
  simpa using this
theorem decimal_one (n : Int) (w : World) (h : 0 ≤ n ∧ n ≤ 9) :
    Calls Tryz.prog 128 #[.int .i64 n] w fun e w' => e = .returned (.string (bs (dig2 n.toNat))) ∧ w' = w := by
  obtain ⟨h0, h1⟩ := h
  have e : dig2 n.toNat = cut [48, 49, 50, 51, 52, 53, 54, 55, 56, 57] n (n + 1) := by
    rw [digOne n ⟨h0, h1⟩]; unfold dig2; rw [if_pos (by omega)]
  rw [e]
  have hm : n % 10 = n := by omega
  have g1 : n ≤ n + 1 := by omega
  have g2 : n + 1 ≤ 10 := by omega
  have g3 : n < 10 := by omega
  clear e
  go_enter Tryz.func128, Tryz.ntmps128
  go_wp2
  go_ret
  exact ⟨rfl, rfl⟩
theorem decimal_two (n : Int) (w : World) (h : 10 ≤ n ∧ n ≤ 99) :
    Calls Tryz.prog 128 #[.int .i64 n] w fun e w' => e = .returned (.string (bs (dig2 n.toNat))) ∧ w' = w := by
  obtain ⟨h0, h1⟩ := h
  have e : dig2 n.toNat = dig2 (n / 10).toNat ++ cut [48, 49, 50, 51, 52, 53, 54, 55, 56, 57] (n % 10) (n % 10 + 1) := by
    rw [digOne (n % 10) (by omega)]
    unfold dig2
    rw [if_neg (by omega), if_pos (by omega)]
    rw [show (n / 10).toNat = n.toNat / 10 from by omega, show (n % 10).toNat = n.toNat % 10 from by omega]
    rfl
  rw [e]
  have g0 : 0 ≤ n % 10 := by omega
  have g0' : 0 ≤ n := by omega
  have g1 : n % 10 ≤ n % 10 + 1 := by omega
  have g2 : n % 10 + 1 ≤ 10 := by omega
  have g2' : n % 10 ≤ 9 := by omega
  have g3 : ¬ n < 10 := by omega
  have g4 : ¬ n < 0 := by omega
  have hd : 0 ≤ n / 10 ∧ n / 10 ≤ 9 := by omega
  have hl : (dig2 (n / 10).toNat).length + (cut [48, 49, 50, 51, 52, 53, 54, 55, 56, 57] (n % 10) (n % 10 + 1)).length ≤ 9223372036854775807 := by
    have := dig2_len (n / 10).toNat
    rw [digOne (n % 10) (by omega)]; simp; omega
  clear e
  go_enter Tryz.func128, Tryz.ntmps128
  go_wp2_with (go_at_call 128; refine (decimal_one _ _ hd).mono ?_; rintro e w' ⟨rfl, hw⟩; rw [hw]; clear hw)
  go_ret
  exact ⟨rfl, rfl⟩
theorem decimal_any (n : Int) (w : World) (h : 0 ≤ n ∧ n ≤ 99) :
    Calls Tryz.prog 128 #[.int .i64 n] w fun e w' => e = .returned (.string (bs (dig2 n.toNat))) ∧ w' = w := by
  by_cases h9 : n ≤ 9
  · exact decimal_one n w ⟨h.1, h9⟩
  · exact decimal_two n w ⟨by omega, h.2⟩

theorem rhold_any (s n L : Int) (w : World) (hs : 1 ≤ s ∧ s ≤ 4) (h : 0 ≤ n ∧ n ≤ 99) :
    Calls Tryz.prog 206 #[.int .u8 s, .int .i64 n, .int .i64 L] w fun e w' => e = .returned (.string (bs (rH s n L))) ∧ w' = w := by
  have s4 : s = 1 ∨ s = 2 ∨ s = 3 ∨ s = 4 := by omega
  clear hs
  rcases s4 with rfl | rfl | rfl | rfl
  · have e2 : rH 1 n L = 95 :: dig2 n.toNat := if_pos rfl
    have hl' : 1 + (dig2 n.toNat).length ≤ 9223372036854775807 := by have := dig2_len n.toNat; omega
    rw [e2]
    clear e2
    go_enter Tryz.func206, Tryz.ntmps206
    go_wp2_with (go_at_call 128; refine (decimal_any _ _ h).mono ?_; rintro e w' ⟨rfl, hw⟩; rw [hw]; clear hw)
    go_ret
    exact ⟨rfl, rfl⟩
  · by_cases hL : n = L
    · have e2 : rH 2 n L = [42] := by unfold rH; rw [if_neg (by decide), if_pos ⟨by decide, hL⟩]
      have hbL : (n == L) = true := by simpa using hL
      rw [e2]
      clear e2 hL
      go_enter Tryz.func206, Tryz.ntmps206
      go_wp2
      go_ret
      exact ⟨rfl, rfl⟩
    · have e2 : rH 2 n L = [] := by unfold rH; rw [if_neg (by decide), if_neg (fun h => hL h.2)]
      have hbL : (n == L) = false := by simpa using hL
      rw [e2]
      clear e2 hL
      go_enter Tryz.func206, Tryz.ntmps206
      go_wp2
      go_ret
      exact ⟨rfl, rfl⟩
  · have e2 : rH 3 n L = [] := rfl
    rw [e2]
    clear e2
    go_enter Tryz.func206, Tryz.ntmps206
    go_wp2
    go_ret
    exact ⟨rfl, rfl⟩
  · by_cases hL : n = L
    · have e2 : rH 4 n L = [42] := by unfold rH; rw [if_neg (by decide), if_pos ⟨by decide, hL⟩]
      have hbL : (n == L) = true := by simpa using hL
      rw [e2]
      clear e2 hL
      go_enter Tryz.func206, Tryz.ntmps206
      go_wp2
      go_ret
      exact ⟨rfl, rfl⟩
    · have e2 : rH 4 n L = [] := by unfold rH; rw [if_neg (by decide), if_neg (fun h => hL h.2)]
      have hbL : (n == L) = false := by simpa using hL
      rw [e2]
      clear e2 hL
      go_enter Tryz.func206, Tryz.ntmps206
      go_wp2
      go_ret
      exact ⟨rfl, rfl⟩
end Go.Proofs.YtkgnmddakiagbaaGreatDoor

namespace Go.Proofs.YtkgnmddakiagbaaGreatDoor
open Go.RowKit
set_option linter.unusedVariables false
set_option linter.unusedSimpArgs false
set_option maxRecDepth 100000
set_option maxHeartbeats 4000000
def wants (s c f r g h L : Int) : List Int :=
  if rS s c f = [] then [1] else (if okR s r = true then [] else [2]) ++ (if okG s g = true then [] else [3]) ++ (if okH s h L = true then [] else [4])
theorem wants_FS (s c f r g h L : Int) (hs : 1 ≤ s ∧ s ≤ 4) (hc : 1 ≤ c ∧ c ≤ 14) (hf : 0 ≤ f ∧ f ≤ 18) (hr : 0 ≤ r ∧ r ≤ 3) (hg : 0 ≤ g ∧ g ≤ 4) (hh : 0 ≤ h ∧ h ≤ 99) :
    Ctr Tryz.prog 177 [.sc (.int .u8 s), .ag (eStp (c, f, r, g, h)), .sc (.int .i64 L)] (.ls 1 ((wants s c f r g h L).map eInt)) := by
  refine Ctr.intro Tryz.func177 rfl Tryz.ntmps177 (Nat.le_of_ble_eq_true rfl) (bd_all rfl) fun w0 F0 => ?_; dsimp only [St.init, number, Nat.reduceAdd]
  repeat (first | refine W.go rfl ?_ | refine WL.ev rfl ?_ | refine WL.gyes rfl rfl rfl rfl ?_ | refine WL.opno rfl rfl rfl rfl rfl rfl rfl ?_ | refine WL.app rfl rfl rfl (by first | omega | (simp; done) | (simp; omega)) ?_ | refine W.condF rfl ?_)
  (first | refine (?_ : W _ _ _ _ _) | refine (?_ : WL _ _ _ _ _ _) | skip)
  try dsimp only [St.put, Nat.reduceAdd]
  refine WL.vl rfl (WV.call rfl (callF Tryz.func203 rfl rfl) rfl rfl (Ctr.of_sc (v := .string (bs (rS s c f))) rfl (fun _ => .sc _) fun w => rsymbol_any s c f w hs hc hf)) ?_
  repeat (first | refine W.go rfl ?_ | refine WL.ev rfl ?_ | refine WL.gyes rfl rfl rfl rfl ?_ | refine WL.opno rfl rfl rfl rfl rfl rfl rfl ?_ | refine WL.app rfl rfl rfl (by first | omega | (simp; done) | (simp; omega)) ?_ | refine W.condF rfl ?_)
  (first | refine (?_ : W _ _ _ _ _) | refine (?_ : WL _ _ _ _ _ _) | skip)
  try dsimp only [St.put, Nat.reduceAdd]
  (refine W.cond rfl (fun hif => ?_) (fun hif => ?_) <;> (try simp only [decide_eq_true_eq, decide_eq_false_iff_not, Int.not_lt, Int.not_le, Bool.not_eq_true', Bool.not_eq_false'] at hif))
  · have e : wants s c f r g h L = [1] := if_pos (by simpa using hif)
    rw [e]
    repeat (first | refine W.go rfl ?_ | refine WL.ev rfl ?_ | refine WL.gyes rfl rfl rfl rfl ?_ | refine WL.opno rfl rfl rfl rfl rfl rfl rfl ?_ | refine WL.app rfl rfl rfl (by first | omega | (simp; done) | (simp; omega)) ?_ | refine W.condF rfl ?_)
    (first | refine (?_ : W _ _ _ _ _) | refine (?_ : WL _ _ _ _ _ _) | skip)
    try dsimp only [St.put, Nat.reduceAdd]
    refine W.tr (Tr.freeze 1 rfl) ?_
    exact W.ret (fin1 rfl rfl rfl rfl)
  · have hne := hif
    have e : wants s c f r g h L = (if okR s r = true then [] else [2]) ++ (if okG s g = true then [] else [3]) ++ (if okH s h L = true then [] else [4]) := if_neg (by simpa using hne)
    rw [e]
    obtain ⟨l1, e1⟩ : ∃ l, (if okR s r = true then [] else [2] : List Int) = l := ⟨_, rfl⟩
    obtain ⟨l2, e2⟩ : ∃ l, (if okG s g = true then [] else [3] : List Int) = l := ⟨_, rfl⟩
    obtain ⟨l3, e3⟩ : ∃ l, (if okH s h L = true then [] else [4] : List Int) = l := ⟨_, rfl⟩
    rw [e1, e2, e3]
    have b1 : l1.length ≤ 1 := by rw [← e1]; split <;> simp
    have b2 : l2.length ≤ 1 := by rw [← e2]; split <;> simp
    have b3 : l3.length ≤ 1 := by rw [← e3]; split <;> simp
    repeat (first | refine W.go rfl ?_ | refine WL.ev rfl ?_ | refine WL.gyes rfl rfl rfl rfl ?_ | refine WL.opno rfl rfl rfl rfl rfl rfl rfl ?_ | refine WL.app rfl rfl rfl (by first | omega | (simp; done) | (simp; omega)) ?_ | refine W.condF rfl ?_)
    (first | refine (?_ : W _ _ _ _ _) | refine (?_ : WL _ _ _ _ _ _) | skip)
    try dsimp only [St.put, Nat.reduceAdd]
    refine WL.tr (Tr.nil (t := 7) 3 1 rfl rfl) ?_
    dsimp only [St.put, St.new, Nat.reduceAdd]
    refine WL.meet2 ⟨[(0, .sc (.int .u8 s)), (2, .sc (.int .i64 L)), (4, .pt 0 0 0), (7, .sl 1)], [(0, .box 86 (eStp (c, f, r, g, h))), (1, .row 3 1 (l1.map eInt))], 2⟩ ?_ ?_
    · refine WL.partG rfl rfl rfl rfl (fun hp => ?_) (fun hp => ?_)
      · have hp : 0 < r := of_decide_eq_true hp
        repeat (first | refine W.go rfl ?_ | refine WL.ev rfl ?_ | refine WL.gyes rfl rfl rfl rfl ?_ | refine WL.opno rfl rfl rfl rfl rfl rfl rfl ?_ | refine WL.app rfl rfl rfl (by first | omega | (simp; done) | (simp; omega)) ?_ | refine W.condF rfl ?_)
        (first | refine (?_ : W _ _ _ _ _) | refine (?_ : WL _ _ _ _ _ _) | skip)
        try dsimp only [St.put, Nat.reduceAdd]
        refine WL.vl rfl (WV.call rfl (callF Tryz.func204 rfl rfl) rfl rfl (Ctr.of_sc (v := .string (bs (rR s r))) rfl (fun _ => .sc _) fun w => (rright_any s r w hs hr).mono fun e w2 ⟨he, hw⟩ => ⟨he, hw ▸ Below.refl _ _⟩)) ?_
        repeat (first | refine W.go rfl ?_ | refine WL.ev rfl ?_ | refine WL.gyes rfl rfl rfl rfl ?_ | refine WL.opno rfl rfl rfl rfl rfl rfl rfl ?_ | refine WL.app rfl rfl rfl (by first | omega | (simp; done) | (simp; omega)) ?_ | refine W.condF rfl ?_)
        (first | refine (?_ : W _ _ _ _ _) | refine (?_ : WL _ _ _ _ _ _) | skip)
        try dsimp only [St.put, Nat.reduceAdd]
        have hv0 : (r == 0) = false := by simp; omega
        (refine W.cond rfl (fun hif => ?_) (fun hif => ?_) <;> (try simp only [decide_eq_true_eq, decide_eq_false_iff_not, Int.not_lt, Int.not_le, Bool.not_eq_true', Bool.not_eq_false'] at hif))
        · obtain rfl : l1 = [2] := by
            rw [← e1, if_neg]
            unfold okR
            rw [hv0, show rR s r = [] by simpa using hif]; decide
          repeat (first | refine W.go rfl ?_ | refine WL.ev rfl ?_ | refine WL.gyes rfl rfl rfl rfl ?_ | refine WL.opno rfl rfl rfl rfl rfl rfl rfl ?_ | refine WL.app rfl rfl rfl (by first | omega | (simp; done) | (simp; omega)) ?_ | refine W.condF rfl ?_)
          (first | refine (?_ : W _ _ _ _ _) | refine (?_ : WL _ _ _ _ _ _) | skip)
          try dsimp only [St.put, Nat.reduceAdd]
          refine (?_ : Tr _ _ _)
          exact (Tr.ren (fun q => bif Nat.beq q 1 then 3 else q) (by repeat (first | exact trivial | refine ⟨⟨?_, ?_⟩, ?_⟩ | rfl)) (by repeat (first | exact trivial | refine ⟨⟨?_, ?_, ?_⟩, ?_⟩ | rfl | exact congrArg (fun q => some (AO.row _ _ q)) (by first | rfl | (simp; done) | (simp [eInt]; done) | (simp [eLk]; done)))) rfl)
        · obtain rfl : l1 = [] := by
            rw [← e1, if_pos]
            unfold okR
            rw [hv0, Bool.false_or]
            have : rR s r ≠ [] := by simpa using hif
            simpa using this
          repeat (first | refine W.go rfl ?_ | refine WL.ev rfl ?_ | refine WL.gyes rfl rfl rfl rfl ?_ | refine WL.opno rfl rfl rfl rfl rfl rfl rfl ?_ | refine WL.app rfl rfl rfl (by first | omega | (simp; done) | (simp; omega)) ?_ | refine W.condF rfl ?_)
          (first | refine (?_ : W _ _ _ _ _) | refine (?_ : WL _ _ _ _ _ _) | skip)
          try dsimp only [St.put, Nat.reduceAdd]
          refine (?_ : Tr _ _ _)
          exact (Tr.ren (fun q => q) (by repeat (first | exact trivial | refine ⟨⟨?_, ?_⟩, ?_⟩ | rfl)) (by repeat (first | exact trivial | refine ⟨⟨?_, ?_, ?_⟩, ?_⟩ | rfl | exact congrArg (fun q => some (AO.row _ _ q)) (by first | rfl | (simp; done) | (simp [eInt]; done) | (simp [eLk]; done)))) rfl)
      · have hp : ¬ 0 < r := of_decide_eq_false hp
        obtain rfl : l1 = [] := by
          rw [← e1, if_pos]
          obtain rfl : r = 0 := by omega
          rfl
        repeat (first | refine W.go rfl ?_ | refine WL.ev rfl ?_ | refine WL.gyes rfl rfl rfl rfl ?_ | refine WL.opno rfl rfl rfl rfl rfl rfl rfl ?_ | refine WL.app rfl rfl rfl (by first | omega | (simp; done) | (simp; omega)) ?_ | refine W.condF rfl ?_)
        (first | refine (?_ : W _ _ _ _ _) | refine (?_ : WL _ _ _ _ _ _) | skip)
        try dsimp only [St.put, Nat.reduceAdd]
        refine (?_ : Tr _ _ _)
        exact (Tr.ren (fun q => q) (by repeat (first | exact trivial | refine ⟨⟨?_, ?_⟩, ?_⟩ | rfl)) (by repeat (first | exact trivial | refine ⟨⟨?_, ?_, ?_⟩, ?_⟩ | rfl | exact congrArg (fun q => some (AO.row _ _ q)) (by first | rfl | (simp; done) | (simp [eInt]; done) | (simp [eLk]; done)))) rfl)
    · repeat (first | refine W.go rfl ?_ | refine WL.ev rfl ?_ | refine WL.gyes rfl rfl rfl rfl ?_ | refine WL.opno rfl rfl rfl rfl rfl rfl rfl ?_ | refine WL.app rfl rfl rfl (by first | omega | (simp; done) | (simp; omega)) ?_ | refine W.condF rfl ?_)
      (first | refine (?_ : W _ _ _ _ _) | refine (?_ : WL _ _ _ _ _ _) | skip)
      try dsimp only [St.put, Nat.reduceAdd]
      refine WL.meet2 ⟨[(0, .sc (.int .u8 s)), (2, .sc (.int .i64 L)), (4, .pt 0 0 0), (7, .sl 1)], [(0, .box 86 (eStp (c, f, r, g, h))), (1, .row 3 1 (l1.map eInt ++ l2.map eInt))], 2⟩ ?_ ?_
      · refine WL.partG rfl rfl rfl rfl (fun hp => ?_) (fun hp => ?_)
        · have hp : 0 < g := of_decide_eq_true hp
          repeat (first | refine W.go rfl ?_ | refine WL.ev rfl ?_ | refine WL.gyes rfl rfl rfl rfl ?_ | refine WL.opno rfl rfl rfl rfl rfl rfl rfl ?_ | refine WL.app rfl rfl rfl (by first | omega | (simp; done) | (simp; omega)) ?_ | refine W.condF rfl ?_)
          (first | refine (?_ : W _ _ _ _ _) | refine (?_ : WL _ _ _ _ _ _) | skip)
          try dsimp only [St.put, Nat.reduceAdd]
          refine WL.vl rfl (WV.call rfl (callF Tryz.func205 rfl rfl) rfl rfl (Ctr.of_sc (v := .string (bs (rG s g))) rfl (fun _ => .sc _) fun w => (rgrace_any s g w hs hg).mono fun e w2 ⟨he, hw⟩ => ⟨he, hw ▸ Below.refl _ _⟩)) ?_
          repeat (first | refine W.go rfl ?_ | refine WL.ev rfl ?_ | refine WL.gyes rfl rfl rfl rfl ?_ | refine WL.opno rfl rfl rfl rfl rfl rfl rfl ?_ | refine WL.app rfl rfl rfl (by first | omega | (simp; done) | (simp; omega)) ?_ | refine W.condF rfl ?_)
          (first | refine (?_ : W _ _ _ _ _) | refine (?_ : WL _ _ _ _ _ _) | skip)
          try dsimp only [St.put, Nat.reduceAdd]
          have hv0 : (g == 0) = false := by simp; omega
          (refine W.cond rfl (fun hif => ?_) (fun hif => ?_) <;> (try simp only [decide_eq_true_eq, decide_eq_false_iff_not, Int.not_lt, Int.not_le, Bool.not_eq_true', Bool.not_eq_false'] at hif))
          · obtain rfl : l2 = [3] := by
              rw [← e2, if_neg]
              unfold okG
              rw [hv0, show rG s g = [] by simpa using hif]; decide
            repeat (first | refine W.go rfl ?_ | refine WL.ev rfl ?_ | refine WL.gyes rfl rfl rfl rfl ?_ | refine WL.opno rfl rfl rfl rfl rfl rfl rfl ?_ | refine WL.app rfl rfl rfl (by first | omega | (simp; done) | (simp; omega)) ?_ | refine W.condF rfl ?_)
            (first | refine (?_ : W _ _ _ _ _) | refine (?_ : WL _ _ _ _ _ _) | skip)
            try dsimp only [St.put, Nat.reduceAdd]
            refine (?_ : Tr _ _ _)
            exact (Tr.ren (fun q => bif Nat.beq q 1 then 3 else q) (by repeat (first | exact trivial | refine ⟨⟨?_, ?_⟩, ?_⟩ | rfl)) (by repeat (first | exact trivial | refine ⟨⟨?_, ?_, ?_⟩, ?_⟩ | rfl | exact congrArg (fun q => some (AO.row _ _ q)) (by first | rfl | (simp; done) | (simp [eInt]; done) | (simp [eLk]; done)))) rfl)
          · obtain rfl : l2 = [] := by
              rw [← e2, if_pos]
              unfold okG
              rw [hv0, Bool.false_or]
              have : rG s g ≠ [] := by simpa using hif
              simpa using this
            repeat (first | refine W.go rfl ?_ | refine WL.ev rfl ?_ | refine WL.gyes rfl rfl rfl rfl ?_ | refine WL.opno rfl rfl rfl rfl rfl rfl rfl ?_ | refine WL.app rfl rfl rfl (by first | omega | (simp; done) | (simp; omega)) ?_ | refine W.condF rfl ?_)
            (first | refine (?_ : W _ _ _ _ _) | refine (?_ : WL _ _ _ _ _ _) | skip)
            try dsimp only [St.put, Nat.reduceAdd]
            refine (?_ : Tr _ _ _)
            exact (Tr.ren (fun q => q) (by repeat (first | exact trivial | refine ⟨⟨?_, ?_⟩, ?_⟩ | rfl)) (by repeat (first | exact trivial | refine ⟨⟨?_, ?_, ?_⟩, ?_⟩ | rfl | exact congrArg (fun q => some (AO.row _ _ q)) (by first | rfl | (simp; done) | (simp [eInt]; done) | (simp [eLk]; done)))) rfl)
        · have hp : ¬ 0 < g := of_decide_eq_false hp
          obtain rfl : l2 = [] := by
            rw [← e2, if_pos]
            obtain rfl : g = 0 := by omega
            rfl
          repeat (first | refine W.go rfl ?_ | refine WL.ev rfl ?_ | refine WL.gyes rfl rfl rfl rfl ?_ | refine WL.opno rfl rfl rfl rfl rfl rfl rfl ?_ | refine WL.app rfl rfl rfl (by first | omega | (simp; done) | (simp; omega)) ?_ | refine W.condF rfl ?_)
          (first | refine (?_ : W _ _ _ _ _) | refine (?_ : WL _ _ _ _ _ _) | skip)
          try dsimp only [St.put, Nat.reduceAdd]
          refine (?_ : Tr _ _ _)
          exact (Tr.ren (fun q => q) (by repeat (first | exact trivial | refine ⟨⟨?_, ?_⟩, ?_⟩ | rfl)) (by repeat (first | exact trivial | refine ⟨⟨?_, ?_, ?_⟩, ?_⟩ | rfl | exact congrArg (fun q => some (AO.row _ _ q)) (by first | rfl | (simp; done) | (simp [eInt]; done) | (simp [eLk]; done)))) rfl)
      · repeat (first | refine W.go rfl ?_ | refine WL.ev rfl ?_ | refine WL.gyes rfl rfl rfl rfl ?_ | refine WL.opno rfl rfl rfl rfl rfl rfl rfl ?_ | refine WL.app rfl rfl rfl (by first | omega | (simp; done) | (simp; omega)) ?_ | refine W.condF rfl ?_)
        (first | refine (?_ : W _ _ _ _ _) | refine (?_ : WL _ _ _ _ _ _) | skip)
        try dsimp only [St.put, Nat.reduceAdd]
        refine WL.meet2 ⟨[(0, .sc (.int .u8 s)), (2, .sc (.int .i64 L)), (4, .pt 0 0 0), (7, .sl 1)], [(0, .box 86 (eStp (c, f, r, g, h))), (1, .row 3 1 (l1.map eInt ++ l2.map eInt ++ l3.map eInt))], 2⟩ ?_ ?_
        · refine WL.partG rfl rfl rfl rfl (fun hp => ?_) (fun hp => ?_)
          · have hp : 0 < h := of_decide_eq_true hp
            repeat (first | refine W.go rfl ?_ | refine WL.ev rfl ?_ | refine WL.gyes rfl rfl rfl rfl ?_ | refine WL.opno rfl rfl rfl rfl rfl rfl rfl ?_ | refine WL.app rfl rfl rfl (by first | omega | (simp; done) | (simp; omega)) ?_ | refine W.condF rfl ?_)
            (first | refine (?_ : W _ _ _ _ _) | refine (?_ : WL _ _ _ _ _ _) | skip)
            try dsimp only [St.put, Nat.reduceAdd]
            refine WL.vl rfl (WV.call rfl (callF Tryz.func206 rfl rfl) rfl rfl (Ctr.of_sc (v := .string (bs (rH s h L))) rfl (fun _ => .sc _) fun w => (rhold_any s h L w hs hh).mono fun e w2 ⟨he, hw⟩ => ⟨he, hw ▸ Below.refl _ _⟩)) ?_
            repeat (first | refine W.go rfl ?_ | refine WL.ev rfl ?_ | refine WL.gyes rfl rfl rfl rfl ?_ | refine WL.opno rfl rfl rfl rfl rfl rfl rfl ?_ | refine WL.app rfl rfl rfl (by first | omega | (simp; done) | (simp; omega)) ?_ | refine W.condF rfl ?_)
            (first | refine (?_ : W _ _ _ _ _) | refine (?_ : WL _ _ _ _ _ _) | skip)
            try dsimp only [St.put, Nat.reduceAdd]
            have hv0 : (h == 0) = false := by simp; omega
            (refine W.cond rfl (fun hif => ?_) (fun hif => ?_) <;> (try simp only [decide_eq_true_eq, decide_eq_false_iff_not, Int.not_lt, Int.not_le, Bool.not_eq_true', Bool.not_eq_false'] at hif))
            · obtain rfl : l3 = [4] := by
                rw [← e3, if_neg]
                unfold okH
                rw [hv0, show rH s h L = [] by simpa using hif]; decide
              repeat (first | refine W.go rfl ?_ | refine WL.ev rfl ?_ | refine WL.gyes rfl rfl rfl rfl ?_ | refine WL.opno rfl rfl rfl rfl rfl rfl rfl ?_ | refine WL.app rfl rfl rfl (by first | omega | (simp; done) | (simp; omega)) ?_ | refine W.condF rfl ?_)
              (first | refine (?_ : W _ _ _ _ _) | refine (?_ : WL _ _ _ _ _ _) | skip)
              try dsimp only [St.put, Nat.reduceAdd]
              refine (?_ : Tr _ _ _)
              exact (Tr.ren (fun q => bif Nat.beq q 1 then 3 else q) (by repeat (first | exact trivial | refine ⟨⟨?_, ?_⟩, ?_⟩ | rfl)) (by repeat (first | exact trivial | refine ⟨⟨?_, ?_, ?_⟩, ?_⟩ | rfl | exact congrArg (fun q => some (AO.row _ _ q)) (by first | rfl | (simp; done) | (simp [eInt]; done) | (simp [eLk]; done)))) rfl)
            · obtain rfl : l3 = [] := by
                rw [← e3, if_pos]
                unfold okH
                rw [hv0, Bool.false_or]
                have : rH s h L ≠ [] := by simpa using hif
                simpa using this
              repeat (first | refine W.go rfl ?_ | refine WL.ev rfl ?_ | refine WL.gyes rfl rfl rfl rfl ?_ | refine WL.opno rfl rfl rfl rfl rfl rfl rfl ?_ | refine WL.app rfl rfl rfl (by first | omega | (simp; done) | (simp; omega)) ?_ | refine W.condF rfl ?_)
              (first | refine (?_ : W _ _ _ _ _) | refine (?_ : WL _ _ _ _ _ _) | skip)
              try dsimp only [St.put, Nat.reduceAdd]
              refine (?_ : Tr _ _ _)
              exact (Tr.ren (fun q => q) (by repeat (first | exact trivial | refine ⟨⟨?_, ?_⟩, ?_⟩ | rfl)) (by repeat (first | exact trivial | refine ⟨⟨?_, ?_, ?_⟩, ?_⟩ | rfl | exact congrArg (fun q => some (AO.row _ _ q)) (by first | rfl | (simp; done) | (simp [eInt]; done) | (simp [eLk]; done)))) rfl)
          · have hp : ¬ 0 < h := of_decide_eq_false hp
            obtain rfl : l3 = [] := by
              rw [← e3, if_pos]
              obtain rfl : h = 0 := by omega
              rfl
            repeat (first | refine W.go rfl ?_ | refine WL.ev rfl ?_ | refine WL.gyes rfl rfl rfl rfl ?_ | refine WL.opno rfl rfl rfl rfl rfl rfl rfl ?_ | refine WL.app rfl rfl rfl (by first | omega | (simp; done) | (simp; omega)) ?_ | refine W.condF rfl ?_)
            (first | refine (?_ : W _ _ _ _ _) | refine (?_ : WL _ _ _ _ _ _) | skip)
            try dsimp only [St.put, Nat.reduceAdd]
            refine (?_ : Tr _ _ _)
            exact (Tr.ren (fun q => q) (by repeat (first | exact trivial | refine ⟨⟨?_, ?_⟩, ?_⟩ | rfl)) (by repeat (first | exact trivial | refine ⟨⟨?_, ?_, ?_⟩, ?_⟩ | rfl | exact congrArg (fun q => some (AO.row _ _ q)) (by first | rfl | (simp; done) | (simp [eInt]; done) | (simp [eLk]; done)))) rfl)
        · repeat (first | refine W.go rfl ?_ | refine WL.ev rfl ?_ | refine WL.gyes rfl rfl rfl rfl ?_ | refine WL.opno rfl rfl rfl rfl rfl rfl rfl ?_ | refine WL.app rfl rfl rfl (by first | omega | (simp; done) | (simp; omega)) ?_ | refine W.condF rfl ?_)
          (first | refine (?_ : W _ _ _ _ _) | refine (?_ : WL _ _ _ _ _ _) | skip)
          try dsimp only [St.put, Nat.reduceAdd]
          refine W.tr (Tr.freeze 1 rfl) ?_
          exact W.ret (fin1 rfl rfl (show AV.ls 1 (l1.map eInt ++ l2.map eInt ++ l3.map eInt) = _ by rw [List.map_append, List.map_append]) rfl)
end Go.Proofs.YtkgnmddakiagbaaGreatDoor
