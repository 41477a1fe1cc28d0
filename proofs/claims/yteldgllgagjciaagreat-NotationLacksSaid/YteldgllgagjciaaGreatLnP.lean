/- The line of a course: the plain part. -/
import Derived.Test.YteldgllgagjciaaGreatInsP
namespace Go.Proofs.YteldgllgagjciaaGreat
open Go.RowKit
set_option linter.unusedVariables false
/-- The line of a course on the staff of n lines. -/
def lineV (s c n : Int) : Int := if s = 4 then 0 else if s = 2 then n + 1 - c else c
def lineE (s c n E : Int) : Int × Int :=
  if ¬ (1 ≤ s ∧ s ≤ 4) then (0, 30) else if E ≠ 0 then (0, E) else if c < 1 ∨ n < c then (0, 12) else if 6 < c then (0, 0) else (lineV s c (min n 6), 0)
theorem lineE_sys {s c n E : Int} (h : ¬ (1 ≤ s ∧ s ≤ 4)) : lineE s c n E = (0, 30) := if_pos h
theorem lineE_ins {s c n E : Int} (h : 1 ≤ s ∧ s ≤ 4) (h0 : E ≠ 0) : lineE s c n E = (0, E) := by unfold lineE; rw [if_neg (fun k => k h), if_pos h0]
theorem lineE_crs {s c n E : Int} (h : 1 ≤ s ∧ s ≤ 4) (h0 : E = 0) (h1 : c < 1 ∨ n < c) : lineE s c n E = (0, 12) := by unfold lineE; rw [if_neg (fun k => k h), if_neg (by omega), if_pos h1]
theorem lineE_out {s c n E : Int} (h : 1 ≤ s ∧ s ≤ 4) (h0 : E = 0) (h1 : ¬ (c < 1 ∨ n < c)) (h2 : 6 < c) : lineE s c n E = (0, 0) := by unfold lineE; rw [if_neg (fun k => k h), if_neg (by omega), if_neg h1, if_pos h2]
theorem lineE_ok {s c n E : Int} (h : 1 ≤ s ∧ s ≤ 4) (h0 : E = 0) (h1 : ¬ (c < 1 ∨ n < c)) (h2 : ¬ 6 < c) : lineE s c n E = (lineV s c (min n 6), 0) := by unfold lineE; rw [if_neg (fun k => k h), if_neg (by omega), if_neg h1, if_neg h2]
theorem insE_len {cs : List (Int × Int × Bool)} {st : List Int} (h : insE cs st = 0) : 1 ≤ cs.length ∧ cs.length ≤ 14 ∧ st.length ≤ 18 ∧ stepsBad 0 st = false ∧ crsE st cs = 0 := by
  unfold insE at h
  by_cases h1 : 14 < cs.length ∨ 18 < st.length
  · rw [if_pos h1] at h; cases h
  · rw [if_neg h1] at h
    by_cases h2 : cs.length = 0
    · rw [if_pos h2] at h; cases h
    · rw [if_neg h2] at h
      by_cases h3 : stepsBad 0 st = true
      · rw [if_pos h3] at h; cases h
      · rw [if_neg h3] at h
        exact ⟨by omega, by omega, by omega, by simpa using h3, h⟩
end Go.Proofs.YteldgllgagjciaaGreat
