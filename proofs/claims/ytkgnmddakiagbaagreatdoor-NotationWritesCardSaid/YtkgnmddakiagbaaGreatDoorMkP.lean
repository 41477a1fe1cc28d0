/- Marks and cells: plain words. -/
import Derived.Test.YtkgnmddakiagbaaGreatDoorPlain
namespace Go.Proofs.YtkgnmddakiagbaaGreatDoor

def rR (s n : Int) : List UInt8 := if n = 1 ∧ s ≠ 3 then [46] else if n = 2 ∧ s = 1 then [58] else if n = 3 ∧ s = 1 then [39] else []
def rG (s n : Int) : List UInt8 :=
  if s = 1 ∧ 1 ≤ n ∧ n ≤ 4 then cut [44, 94, 35, 40] (n - 1) n else if s = 2 ∧ n = 1 then [116] else if (s = 2 ∨ s = 4) ∧ n = 3 then [35] else []
def rH (s n L : Int) : List UInt8 := if s = 1 then 95 :: dig2 n.toNat else if (s = 2 ∨ s = 4) ∧ n = L then [42] else []
def pH (s n L : Int) : List UInt8 := if n = 0 then [] else rH s n L
def okR (s n : Int) : Bool := n == 0 || !(rR s n).isEmpty
def okG (s n : Int) : Bool := n == 0 || !(rG s n).isEmpty
def okH (s n L : Int) : Bool := n == 0 || !(rH s n L).isEmpty
/-- The cell of a stop within the limits, as the program makes it, and whether there is one. -/
def cellS (s c f r g h L : Int) : List UInt8 := pS s c f ++ rR s r ++ rG s g ++ pH s h L
def cellOk (s c f r g h L : Int) : Bool := pOk s c f && okR s r && okG s g && okH s h L
theorem rR_len (s n : Int) : (rR s n).length ≤ 1 := by
  unfold rR; split
  · decide
  · split
    · decide
    · split <;> decide
theorem rG_len (s n : Int) : (rG s n).length ≤ 4 := by
  unfold rG; split
  · exact cut_length _ _ _
  · split
    · decide
    · split <;> decide
theorem dig2_len (n : Nat) : (dig2 n).length ≤ 2 := by unfold dig2; split <;> simp
theorem rH_len (s n L : Int) : (rH s n L).length ≤ 3 := by
  unfold rH; split
  · have := dig2_len n.toNat; simp; omega
  · split <;> decide
theorem pH_len (s n L : Int) : (pH s n L).length ≤ 3 := by
  unfold pH; split
  · decide
  · exact rH_len s n L
theorem symLenAll : ((List.range' 1 4).all fun s => (List.range' 1 14).all fun c => (List.range 19).all fun f => decide ((pS (s : Nat) (c : Nat) (f : Nat)).length ≤ 4 ∧ (rS (s : Nat) (c : Nat) (f : Nat)).length ≤ 4)) = true := by
  decide +kernel
theorem pS_len (s c f : Int) (hs : 1 ≤ s ∧ s ≤ 4) (hc : 1 ≤ c ∧ c ≤ 14) (hf : 0 ≤ f ∧ f ≤ 18) : (pS s c f).length ≤ 4 ∧ (rS s c f).length ≤ 4 := by
  obtain ⟨s, rfl⟩ := Int.eq_ofNat_of_zero_le (show 0 ≤ s by omega)
  obtain ⟨c, rfl⟩ := Int.eq_ofNat_of_zero_le (show 0 ≤ c by omega)
  obtain ⟨f, rfl⟩ := Int.eq_ofNat_of_zero_le hf.1
  have h := symLenAll
  rw [List.all_eq_true] at h
  have h1 := h s (List.mem_range'_1.2 (by omega))
  rw [List.all_eq_true] at h1
  have h2 := h1 c (List.mem_range'_1.2 (by omega))
  rw [List.all_eq_true] at h2
  exact of_decide_eq_true (h2 f (List.mem_range.2 (by omega)))
/-- The error of a cell, in the order in which both texts ask. -/
def cellErr (s c f r g h L : Int) : Int :=
  if symErr s c f ≠ 0 ∧ symErr s c f ≠ 31 then symErr s c f
  else if (r < 0 ∨ 3 < r) ∨ (g < 0 ∨ 4 < g) then 23
  else if ((L < 0 ∨ 15 < L) ∨ (h < 0 ∨ L < h)) ∨ (0 < h ∧ f = 0) then 24
  else if cellOk s c f r g h L = false then 31 else 0
def cellTxt (s c f r g h L : Int) : List UInt8 := if cellErr s c f r g h L = 0 then cellS s c f r g h L else []
theorem symErr_good (s c f : Int) (hs : 1 ≤ s ∧ s ≤ 4) (hc : 1 ≤ c ∧ c ≤ 14) (hf : 0 ≤ f ∧ f ≤ 18) : symErr s c f = 0 ∨ symErr s c f = 31 := by
  unfold symErr
  rw [if_neg (fun k => k hs), if_neg (by omega), if_neg (by omega)]
  by_cases h : rS s c f = []
  · rw [if_pos h]; exact .inr rfl
  · rw [if_neg h]; exact .inl rfl
theorem cellErr_place (s c f r g h L : Int) (hs : 1 ≤ s ∧ s ≤ 4) (hb : (c < 1 ∨ 14 < c) ∨ (f < 0 ∨ 18 < f)) : cellTxt s c f r g h L = [] ∧ cellErr s c f r g h L = symErr s c f := by
  have e := symErr_bad s c f hs hb
  have e2 : symErr s c f ≠ 0 ∧ symErr s c f ≠ 31 := by rw [e]; by_cases hc : c < 1 ∨ 14 < c <;> simp [hc]
  have e3 : cellErr s c f r g h L = symErr s c f := by unfold cellErr; rw [if_pos e2]
  exact ⟨by unfold cellTxt; rw [e3, if_neg e2.1], e3⟩
theorem cellErr_marks (s c f r g h L : Int) (hs : 1 ≤ s ∧ s ≤ 4) (hc : 1 ≤ c ∧ c ≤ 14) (hf : 0 ≤ f ∧ f ≤ 18) (hm : (r < 0 ∨ 3 < r) ∨ (g < 0 ∨ 4 < g)) : cellTxt s c f r g h L = [] ∧ cellErr s c f r g h L = 23 := by
  have e := symErr_good s c f hs hc hf
  have e3 : cellErr s c f r g h L = 23 := by unfold cellErr; rw [if_neg (by omega), if_pos hm]
  exact ⟨by unfold cellTxt; rw [e3, if_neg (by decide)], e3⟩
theorem cellErr_holds (s c f r g h L : Int) (hs : 1 ≤ s ∧ s ≤ 4) (hc : 1 ≤ c ∧ c ≤ 14) (hf : 0 ≤ f ∧ f ≤ 18) (hm : ¬ ((r < 0 ∨ 3 < r) ∨ (g < 0 ∨ 4 < g))) (hh : ((L < 0 ∨ 15 < L) ∨ (h < 0 ∨ L < h)) ∨ (0 < h ∧ f = 0)) :
    cellTxt s c f r g h L = [] ∧ cellErr s c f r g h L = 24 := by
  have e := symErr_good s c f hs hc hf
  have e3 : cellErr s c f r g h L = 24 := by unfold cellErr; rw [if_neg (by omega), if_neg hm, if_pos hh]
  exact ⟨by unfold cellTxt; rw [e3, if_neg (by decide)], e3⟩
open Go in
theorem cellErr_ok (s c f r g h L : Int) (hs : 1 ≤ s ∧ s ≤ 4) (hc : 1 ≤ c ∧ c ≤ 14) (hf : 0 ≤ f ∧ f ≤ 18) (hm : ¬ ((r < 0 ∨ 3 < r) ∨ (g < 0 ∨ 4 < g))) (hh : ¬ (((L < 0 ∨ 15 < L) ∨ (h < 0 ∨ L < h)) ∨ (0 < h ∧ f = 0))) :
    (Value.tuple #[.string (bs (cellTxt s c f r g h L)), .int .i64 (cellErr s c f r g h L)]) = if cellOk s c f r g h L = true then .tuple #[.string (bs (cellS s c f r g h L)), .int .i64 0] else .tuple #[.string (bs []), .int .i64 31] := by
  have e := symErr_good s c f hs hc hf
  cases hok : cellOk s c f r g h L with
  | true =>
    have e3 : cellErr s c f r g h L = 0 := by unfold cellErr; rw [if_neg (by omega), if_neg hm, if_neg hh, hok, if_neg (by decide)]
    have e4 : cellTxt s c f r g h L = cellS s c f r g h L := by unfold cellTxt; rw [if_pos e3]
    rw [e3, e4]; rfl
  | false =>
    have e3 : cellErr s c f r g h L = 31 := by unfold cellErr; rw [if_neg (by omega), if_neg hm, if_neg hh, hok, if_pos rfl]
    have e4 : cellTxt s c f r g h L = [] := by unfold cellTxt; rw [e3, if_neg (by decide)]
    rw [e3, e4]; rfl
end Go.Proofs.YtkgnmddakiagbaaGreatDoor
