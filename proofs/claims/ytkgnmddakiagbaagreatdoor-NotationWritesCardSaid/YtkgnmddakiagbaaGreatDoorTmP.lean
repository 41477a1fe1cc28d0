/- Time words: plain words. -/
import Derived.Test.YtkgnmddakiagbaaGreatDoorPlain
namespace Go.Proofs.YtkgnmddakiagbaaGreatDoor

def tmLet : List UInt8 := [66, 83, 77, 67, 81, 88, 68]
/-- The word of a sign: i is 0 for a plain one, 1 for a dotted one, 2 for a triplet. -/
def tW (v : Int) (i : Nat) : List UInt8 := if v = 0 then [45] else if i = 0 then cut tmLet (v - 1) v else if i = 1 then cut tmLet (v - 1) v ++ [46] else cut tmLet (v - 1) v ++ [51]
def tOk (s v : Int) (i : Nat) : Bool := if v = 0 then decide (s ≠ 4) else (decide (i ≠ 2) || decide (s ≠ 4))
def sgD (i : Nat) : Bool := i == 1
def sgT (i : Nat) : Bool := i == 2
/-- A sign is valid. -/
def sgOk (v : Int) (d t : Bool) : Bool := (v == 0 && !d && !t) || (decide (1 ≤ v) && decide (v ≤ 7) && !(d && t))
def sgI (d t : Bool) : Nat := if d then 1 else if t then 2 else 0
def tkV (v : Int) (d t : Bool) : Int :=
  if v < 1 ∨ 7 < v ∨ (d && t) = true then 0 else if d then 384 / 2 ^ (v - 1).toNat / 2 * 3 else if t then 384 / 2 ^ (v - 1).toNat / 3 * 2 else 384 / 2 ^ (v - 1).toNat
theorem tkAll : ((List.range' 1 7).all fun v => [(false, false), (true, false), (false, true)].all fun p => decide (0 < tkV (v : Nat) p.1 p.2)) = true := by decide +kernel
theorem tkV_pos (v : Int) (d t : Bool) (hv : 1 ≤ v ∧ v ≤ 7) (h : (d && t) = false) : 0 < tkV v d t := by
  obtain ⟨v, rfl⟩ := Int.eq_ofNat_of_zero_le (show 0 ≤ v by omega)
  have h1 := tkAll
  rw [List.all_eq_true] at h1
  have h2 := h1 v (List.mem_range'_1.2 (by omega))
  rw [List.all_eq_true] at h2
  cases d <;> cases t
  · exact of_decide_eq_true (h2 (false, false) (by simp))
  · exact of_decide_eq_true (h2 (false, true) (by simp))
  · exact of_decide_eq_true (h2 (true, false) (by simp))
  · cases h
end Go.Proofs.YtkgnmddakiagbaaGreatDoor
