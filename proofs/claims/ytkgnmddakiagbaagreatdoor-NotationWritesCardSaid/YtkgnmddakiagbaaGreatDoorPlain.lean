/- Plain laws on symbols: no walk. -/
import Derived.Test.YtkgnmddakiagbaaGreatDoorSym
import Derived.Test.YtkgnmddakiagbaaGreatDoorRef
namespace Go.Proofs.YtkgnmddakiagbaaGreatDoor

/-- The program's symbol, and whether there is one. -/
def pS (s c f : Int) : List UInt8 := if s = 1 then frS c f else if s = 2 then itS c f else if s = 3 then spS c f else geS c f
def pOk (s c f : Int) : Bool := if s = 1 then frOk c f else if s = 2 then itOk c f else if s = 3 then spOk c f else geOk c f

def symOne (s c f : Nat) : Bool := (pOk s c f == !(rS s c f).isEmpty) && (!pOk s c f || pS s c f == rS s c f)
theorem symAll : ((List.range' 1 4).all fun s => (List.range' 1 14).all fun c => (List.range 19).all fun f => symOne s c f) = true := by
  decide +kernel
theorem sym_law (s c f : Int) (hs : 1 ≤ s ∧ s ≤ 4) (hc : 1 ≤ c ∧ c ≤ 14) (hf : 0 ≤ f ∧ f ≤ 18) :
    pOk s c f = !(rS s c f).isEmpty ∧ (pOk s c f = true → pS s c f = rS s c f) := by
  obtain ⟨s, rfl⟩ := Int.eq_ofNat_of_zero_le (show 0 ≤ s by omega)
  obtain ⟨c, rfl⟩ := Int.eq_ofNat_of_zero_le (show 0 ≤ c by omega)
  obtain ⟨f, rfl⟩ := Int.eq_ofNat_of_zero_le hf.1
  have h := symAll
  rw [List.all_eq_true] at h
  have h1 := h s (List.mem_range'_1.2 (by omega))
  rw [List.all_eq_true] at h1
  have h2 := h1 c (List.mem_range'_1.2 (by omega))
  rw [List.all_eq_true] at h2
  have h3 := h2 f (List.mem_range.2 (by omega))
  unfold symOne at h3
  simp only [Bool.and_eq_true, beq_iff_eq, Bool.or_eq_true, Bool.not_eq_true'] at h3
  refine ⟨h3.1, fun hk => ?_⟩
  rcases h3.2 with h4 | h4
  · rw [hk] at h4; cases h4
  · exact h4

/-- The error of a symbol, and its text. -/
def symErr (s c f : Int) : Int :=
  if ¬ (1 ≤ s ∧ s ≤ 4) then 30 else if c < 1 ∨ 14 < c then 12 else if f < 0 ∨ 18 < f then 13 else if rS s c f = [] then 31 else 0
def symTxt (s c f : Int) : List UInt8 := if symErr s c f = 0 then rS s c f else []
theorem symErr_bad (s c f : Int) (hs : 1 ≤ s ∧ s ≤ 4) (h : (c < 1 ∨ 14 < c) ∨ (f < 0 ∨ 18 < f)) : symErr s c f = if c < 1 ∨ 14 < c then 12 else 13 := by
  unfold symErr
  rw [if_neg (fun k => k hs)]
  by_cases hc : c < 1 ∨ 14 < c
  · rw [if_pos hc, if_pos hc]
  · rw [if_neg hc, if_neg hc, if_pos (by omega)]

/-- Whether a note on course c stands where course says. -/
def standsB (s crs c : Int) : Bool := if 0 < crs then c == crs else (s == 4 || decide (6 < c))
/-- Whether the symbol of a place is the text, and the place stands where course says. -/
def plM (s crs : Int) (l : List UInt8) (c f : Nat) : Bool := standsB s crs c && (!(rS s c f).isEmpty && rS s c f == l)
def scanF (m : Nat → Bool) (f n : Nat) : Option Nat := (List.range' f n).find? m
def scanC (m : Nat → Nat → Bool) (c n : Nat) : Option (Nat × Nat) := (List.range' c n).findSome? fun c => (scanF (m c) 0 19).map fun f => (c, f)
theorem scanF_yes (m : Nat → Bool) (f n : Nat) (h : m f = true) : scanF m f (n + 1) = some f := by simp [scanF, List.range'_succ, h]
theorem scanF_no (m : Nat → Bool) (f n : Nat) (h : m f = false) : scanF m f (n + 1) = scanF m (f + 1) n := by simp [scanF, List.range'_succ, h]
theorem scanF_none (m : Nat → Bool) (f n : Nat) (h : ∀ k, f ≤ k → k < f + n → m k = false) : scanF m f n = none := by
  unfold scanF
  rw [List.find?_eq_none]
  intro k hk
  rw [List.mem_range'_1] at hk
  rw [h k hk.1 hk.2]; decide
theorem scanC_succ (m : Nat → Nat → Bool) (c n : Nat) : scanC m c (n + 1) = match scanF (m c) 0 19 with | some f => some (c, f) | none => scanC m (c + 1) n := by
  simp only [scanC, List.range'_succ, List.findSome?_cons]
  cases scanF (m c) 0 19 <;> rfl
theorem scanC_yes (m : Nat → Nat → Bool) (c n f : Nat) (h : scanF (m c) 0 19 = some f) : scanC m c (n + 1) = some (c, f) := by rw [scanC_succ, h]
theorem scanC_no (m : Nat → Nat → Bool) (c n : Nat) (h : scanF (m c) 0 19 = none) : scanC m c (n + 1) = scanC m (c + 1) n := by rw [scanC_succ, h]
/-- The error of a system and of where a symbol stands. -/
def spotErr (s crs : Int) : Int := if ¬ (1 ≤ s ∧ s ≤ 4) then 30 else if (crs < 0 ∨ 6 < crs) ∨ (s = 4 ∧ crs ≠ 0) then 12 else 0
/-- What Place returns: course, fret, error. -/
def placeOf (s crs : Int) (l : List UInt8) : Int × Int × Int :=
  if spotErr s crs ≠ 0 then (0, 0, spotErr s crs) else match scanC (plM s crs l) 1 14 with | some (c, f) => ((c : Int), (f : Int), 0) | none => (0, 0, 4)
open Go in
def placeV (s crs : Int) (l : List UInt8) : Value := .tuple #[.agg #[.int .i64 (placeOf s crs l).1, .int .i64 (placeOf s crs l).2.1], .int .i64 (placeOf s crs l).2.2]
theorem placeOf_some {s crs : Int} {l : List UInt8} {c f : Nat} (h : spotErr s crs = 0) (hs : scanC (plM s crs l) 1 14 = some (c, f)) : placeOf s crs l = ((c : Int), (f : Int), 0) := by
  unfold placeOf; rw [if_neg (by rw [h]; decide), hs]
theorem placeOf_none {s crs : Int} {l : List UInt8} (h : spotErr s crs = 0) (hs : scanC (plM s crs l) 1 14 = none) : placeOf s crs l = (0, 0, 4) := by
  unfold placeOf; rw [if_neg (by rw [h]; decide), hs]
theorem placeOf_bad {s crs : Int} {l : List UInt8} (h : spotErr s crs ≠ 0) : placeOf s crs l = (0, 0, spotErr s crs) := by
  unfold placeOf; rw [if_pos h]
theorem plM_yes {s crs : Int} {l : List UInt8} {c f : Nat} (hs : 1 ≤ s ∧ s ≤ 4) (hc : 1 ≤ c ∧ c ≤ 14) (hf : f ≤ 18) (h : plM s crs l c f = true) :
    pOk s c f = true ∧ (pS s c f == l) = true := by
  obtain ⟨l1, l2⟩ := sym_law s c f hs (by omega) (by omega)
  simp only [plM, Bool.and_eq_true] at h
  have ho : pOk s c f = true := by rw [l1]; exact h.2.1
  exact ⟨ho, by rw [l2 ho]; exact h.2.2⟩
theorem plM_no {s crs : Int} {l : List UInt8} {c f : Nat} (hs : 1 ≤ s ∧ s ≤ 4) (hc : 1 ≤ c ∧ c ≤ 14) (hf : f ≤ 18) (hst : standsB s crs c = true) (h : plM s crs l c f = false) :
    pOk s c f = false ∨ (pOk s c f = true ∧ (pS s c f == l) = false) := by
  obtain ⟨l1, l2⟩ := sym_law s c f hs (by omega) (by omega)
  cases ho : pOk s c f with
  | false => exact .inl rfl
  | true =>
    refine .inr ⟨rfl, ?_⟩
    rw [l2 ho]
    rw [ho] at l1
    simp only [plM, hst, ← l1, Bool.true_and] at h
    exact h
theorem plM_stands {s crs : Int} {l : List UInt8} {c f : Nat} (hst : standsB s crs c = false) : plM s crs l c f = false := by
  simp [plM, hst]
end Go.Proofs.YtkgnmddakiagbaaGreatDoor
