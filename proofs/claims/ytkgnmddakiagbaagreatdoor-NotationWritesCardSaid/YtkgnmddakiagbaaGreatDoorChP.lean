/- What Check answers of a piece: the plain part. -/
import Derived.Test.YtkgnmddakiagbaaGreatDoorPieP
import Derived.Test.YtkgnmddakiagbaaGreatDoorRLg
import Derived.Test.YtkgnmddakiagbaaGreatDoorTmP

/- The line of a course: the plain part. -/
namespace Go.Proofs.YtkgnmddakiagbaaGreatDoor
open Go.RowKit
set_option linter.unusedVariables false
/-- The line of a course on the staff of n lines. -/
def lineV (s c n : Int) : Int := if s = 4 then 0 else if s = 2 then n + 1 - c else c
theorem insE_len {cs : List (Int × Int × Bool)} {st : List Int} (h : insE cs st = 0) : 1 ≤ cs.length ∧ cs.length ≤ 14 ∧ st.length ≤ 18 ∧ stepsBad 0 st = false ∧ crsE st cs = 0 := by
  unfold insE at h
  by_cases h1 : 14 < cs.length ∨ 18 < st.length
  · rw [if_pos h1] at h; cases h
  · rw [if_neg h1] at h
    by_cases h2 : cs.length = 0
    · rw [if_pos h2] at h; cases h
    · rw [if_neg h2] at h
      by_cases h3 : stepsBad 0 st = true
      · rw [if_pos h3] at h; cases h
      · rw [if_neg h3] at h
        exact ⟨by omega, by omega, by omega, by simpa using h3, h⟩
end Go.Proofs.YtkgnmddakiagbaaGreatDoor

namespace Go.Proofs.YtkgnmddakiagbaaGreatDoor
open Go.RowKit
set_option linter.unusedVariables false
def fretsOf (cs : List (Int × Int × Bool)) (c : Int) : Int := (cs.getD (c.toNat - 1) (0, 0, false)).2.1
/-- The error of a stop of the event i, behind a stop on the course last. -/
def stopE (p : Pce) (i : Int) (s : Stp) (last : Int) : Int :=
  if s.1 < 1 ∨ (p.cs.length : Int) < s.1 then 12
  else if s.2.1 < 0 ∨ fretsOf p.cs s.1 < s.2.1 then 13
  else if s.1 ≤ last then 22
  else if (s.2.2.1 < 0 ∨ 3 < s.2.2.1) ∨ (s.2.2.2.1 < 0 ∨ 4 < s.2.2.2.1) then 23
  else if (s.2.2.2.2 < 0 ∨ (longestN p.evs i s.1 : Int) < s.2.2.2.2) ∨ (0 < s.2.2.2.2 ∧ s.2.1 = 0) then 24
  else 0
def stopsE (p : Pce) (i : Int) : Int → List Stp → Int
  | _, [] => 0
  | last, s :: r => if stopE p i s last ≠ 0 then stopE p i s last else stopsE p i s.1 r
def evE (p : Pce) (i : Int) (e : Ev) : Int :=
  if sgOk e.val e.dot e.three = false ∨ (i = 0 ∧ e.val = 0) then 20
  else if e.tie = true ∧ (0 < e.stops.length ∨ i = 0) then 21
  else stopsE p i 0 e.stops
def evsE (p : Pce) : Nat → List Ev → Int
  | _, [] => 0
  | i, e :: r => if evE p i e ≠ 0 then evE p i e else evsE p (i + 1) r
/-- The error of a piece. -/
def pceE (p : Pce) : Int := if insE p.cs p.st ≠ 0 then insE p.cs p.st else if 400 < p.evs.length then 2 else evsE p 0 p.evs
theorem stopsE_at {p : Pce} {i last : Int} {l : List Stp} {k : Nat} (h : k < l.length) : stopsE p i last (l.drop k) = if stopE p i l[k] last ≠ 0 then stopE p i l[k] last else stopsE p i l[k].1 (l.drop (k + 1)) := by
  rw [List.drop_eq_getElem_cons h]; rfl
theorem evsE_at {p : Pce} {l : List Ev} {k : Nat} (h : k < l.length) : evsE p k (l.drop k) = if evE p k l[k] ≠ 0 then evE p k l[k] else evsE p (k + 1) (l.drop (k + 1)) := by
  rw [List.drop_eq_getElem_cons h]; rfl
section
variable {p : Pce} {i last : Int} {s : Stp}
theorem stopE_crs (h : s.1 < 1 ∨ (p.cs.length : Int) < s.1) : stopE p i s last = 12 := if_pos h
theorem stopE_fret (h : ¬ (s.1 < 1 ∨ (p.cs.length : Int) < s.1)) (h1 : s.2.1 < 0 ∨ fretsOf p.cs s.1 < s.2.1) : stopE p i s last = 13 := by unfold stopE; rw [if_neg h, if_pos h1]
theorem stopE_order (h : ¬ (s.1 < 1 ∨ (p.cs.length : Int) < s.1)) (h1 : ¬ (s.2.1 < 0 ∨ fretsOf p.cs s.1 < s.2.1)) (h2 : s.1 ≤ last) : stopE p i s last = 22 := by unfold stopE; rw [if_neg h, if_neg h1, if_pos h2]
theorem stopE_mark (h : ¬ (s.1 < 1 ∨ (p.cs.length : Int) < s.1)) (h1 : ¬ (s.2.1 < 0 ∨ fretsOf p.cs s.1 < s.2.1)) (h2 : ¬ s.1 ≤ last) (h3 : (s.2.2.1 < 0 ∨ 3 < s.2.2.1) ∨ (s.2.2.2.1 < 0 ∨ 4 < s.2.2.2.1)) : stopE p i s last = 23 := by unfold stopE; rw [if_neg h, if_neg h1, if_neg h2, if_pos h3]
theorem stopE_hold (h : ¬ (s.1 < 1 ∨ (p.cs.length : Int) < s.1)) (h1 : ¬ (s.2.1 < 0 ∨ fretsOf p.cs s.1 < s.2.1)) (h2 : ¬ s.1 ≤ last) (h3 : ¬ ((s.2.2.1 < 0 ∨ 3 < s.2.2.1) ∨ (s.2.2.2.1 < 0 ∨ 4 < s.2.2.2.1)))
    (h4 : (s.2.2.2.2 < 0 ∨ (longestN p.evs i s.1 : Int) < s.2.2.2.2) ∨ (0 < s.2.2.2.2 ∧ s.2.1 = 0)) : stopE p i s last = 24 := by unfold stopE; rw [if_neg h, if_neg h1, if_neg h2, if_neg h3, if_pos h4]
theorem stopE_ok (h : ¬ (s.1 < 1 ∨ (p.cs.length : Int) < s.1)) (h1 : ¬ (s.2.1 < 0 ∨ fretsOf p.cs s.1 < s.2.1)) (h2 : ¬ s.1 ≤ last) (h3 : ¬ ((s.2.2.1 < 0 ∨ 3 < s.2.2.1) ∨ (s.2.2.2.1 < 0 ∨ 4 < s.2.2.2.1)))
    (h4 : ¬ ((s.2.2.2.2 < 0 ∨ (longestN p.evs i s.1 : Int) < s.2.2.2.2) ∨ (0 < s.2.2.2.2 ∧ s.2.1 = 0))) : stopE p i s last = 0 := by unfold stopE; rw [if_neg h, if_neg h1, if_neg h2, if_neg h3, if_neg h4]
end
theorem fretsOf_at {cs : List (Int × Int × Bool)} {q : Nat} (h : q < cs.length) : fretsOf cs ((q : Int) + 1) = cs[q].2.1 := by
  unfold fretsOf
  have : ((q : Int) + 1).toNat - 1 = q := by omega
  rw [this, List.getD_eq_getElem?_getD, List.getElem?_eq_getElem h]; rfl
end Go.Proofs.YtkgnmddakiagbaaGreatDoor
