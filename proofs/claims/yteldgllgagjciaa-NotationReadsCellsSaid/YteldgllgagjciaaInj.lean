/- Cells at one spot are read in one way: the plain law. -/
import Derived.Test.YteldgllgagjciaaMkP
import Derived.Test.YteldgllgagjciaaLApart
namespace Go.Proofs.Yteldgllgagjciaa
set_option linter.unusedVariables false

theorem split_pre (p : UInt8 → Bool) : ∀ (a a' b b' : List UInt8), (∀ x ∈ a, p x = true) → (∀ x ∈ a', p x = true) → (∀ x, b.head? = some x → p x = false) → (∀ x, b'.head? = some x → p x = false) → a ++ b = a' ++ b' → a = a' ∧ b = b' := by
  intro a
  induction a with
  | nil =>
    intro a' b b' _ ha' hb _ he
    cases a' with
    | nil => exact ⟨rfl, he⟩
    | cons y r =>
      have h1 : b.head? = some y := by rw [List.nil_append] at he; rw [he]; rfl
      have h2 := hb y h1
      rw [ha' y (by simp)] at h2
      cases h2
  | cons x r ih =>
    intro a' b b' ha ha' hb hb' he
    cases a' with
    | nil =>
      have h1 : b'.head? = some x := by rw [List.nil_append] at he; rw [← he]; rfl
      have h2 := hb' x h1
      rw [ha x (by simp)] at h2
      cases h2
    | cons y r' =>
      rw [List.cons_append, List.cons_append, List.cons.injEq] at he
      obtain ⟨h1, h2⟩ := he
      obtain ⟨h3, h4⟩ := ih r' b b' (fun z hz => ha z (by simp [hz])) (fun z hz => ha' z (by simp [hz])) hb hb' h2
      exact ⟨by rw [h1, h3], h4⟩

def isR (b : UInt8) : Bool := b == 46 || b == 58 || b == 39
def isG (s : Int) (b : UInt8) : Bool := b == 35 || (s == 1 && (b == 44 || b == 94 || b == 40)) || (s == 2 && b == 116)
def isH (s : Int) (b : UInt8) : Bool := if s = 1 then b == 95 else b == 42
/-- Whether a byte begins a mark. -/
def isM (s : Int) (b : UInt8) : Bool := isR b || isG s b || isH s b
theorem symNoMark : ((List.range' 1 4).all fun s => (List.range' 1 14).all fun c => (List.range 19).all fun f => (rS (s : Nat) (c : Nat) (f : Nat)).all fun b => !isM (s : Nat) b) = true := by decide +kernel
theorem sym_noMark (s c f : Int) (hs : 1 ≤ s ∧ s ≤ 4) (hc : 1 ≤ c ∧ c ≤ 14) (hf : 0 ≤ f ∧ f ≤ 18) : ∀ x ∈ rS s c f, (!isM s x) = true := by
  obtain ⟨s, rfl⟩ := Int.eq_ofNat_of_zero_le (show 0 ≤ s by omega)
  obtain ⟨c, rfl⟩ := Int.eq_ofNat_of_zero_le (show 0 ≤ c by omega)
  obtain ⟨f, rfl⟩ := Int.eq_ofNat_of_zero_le hf.1
  have h := symNoMark
  rw [List.all_eq_true] at h
  have h1 := h s (List.mem_range'_1.2 (by omega))
  rw [List.all_eq_true] at h1
  have h2 := h1 c (List.mem_range'_1.2 (by omega))
  rw [List.all_eq_true] at h2
  have h3 := h2 f (List.mem_range.2 (by omega))
  rw [List.all_eq_true] at h3
  exact h3
theorem rR_isR (s n : Int) : ∀ x ∈ rR s n, isR x = true := by
  intro x hx
  unfold rR at hx
  split at hx
  · simp at hx; subst hx; rfl
  · split at hx
    · simp at hx; subst hx; rfl
    · split at hx
      · simp at hx; subst hx; rfl
      · simp at hx
theorem rG_isG (s n : Int) (hs : 1 ≤ s ∧ s ≤ 4) (hn : 0 ≤ n ∧ n ≤ 4) : ∀ x ∈ rG s n, isG s x = true ∧ isR x = false := by
  have s4 : s = 1 ∨ s = 2 ∨ s = 3 ∨ s = 4 := by omega
  have n4 : n = 0 ∨ n = 1 ∨ n = 2 ∨ n = 3 ∨ n = 4 := by omega
  rcases s4 with rfl | rfl | rfl | rfl <;> rcases n4 with rfl | rfl | rfl | rfl | rfl <;> decide
theorem pH_head (s n L : Int) (hs : 1 ≤ s ∧ s ≤ 4) : ∀ x, (pH s n L).head? = some x → isH s x = true ∧ isG s x = false ∧ isR x = false := by
  intro x hx
  have s4 : s = 1 ∨ s = 2 ∨ s = 3 ∨ s = 4 := by omega
  unfold pH rH at hx
  split at hx
  · cases hx
  · rcases s4 with rfl | rfl | rfl | rfl
    · simp at hx; subst hx; decide
    · split at hx
      · cases ‹(2 : Int) = 1›
      · split at hx
        · simp at hx; subst hx; decide
        · cases hx
    · simp at hx
    · split at hx
      · cases ‹(4 : Int) = 1›
      · split at hx
        · simp at hx; subst hx; decide
        · cases hx
theorem tail_head (s g h L : Int) (hs : 1 ≤ s ∧ s ≤ 4) (hg : 0 ≤ g ∧ g ≤ 4) : ∀ x, (rG s g ++ pH s h L).head? = some x → isM s x = true ∧ isR x = false := by
  intro x hx
  cases hq : rG s g with
  | nil =>
    rw [hq, List.nil_append] at hx
    obtain ⟨a, b, c⟩ := pH_head s h L hs x hx
    exact ⟨by unfold isM; rw [a, Bool.or_true], c⟩
  | cons y r =>
    rw [hq] at hx
    have hy : y = x := by simpa using hx
    obtain ⟨a, b⟩ := rG_isG s g hs hg y (by rw [hq]; simp)
    rw [hy] at a b
    exact ⟨by unfold isM; rw [a, Bool.or_true, Bool.true_or], b⟩
theorem marks_head (s r g h L : Int) (hs : 1 ≤ s ∧ s ≤ 4) (hg : 0 ≤ g ∧ g ≤ 4) : ∀ x, (rR s r ++ (rG s g ++ pH s h L)).head? = some x → (!isM s x) = false := by
  intro x hx
  cases hq : rR s r with
  | nil =>
    rw [hq, List.nil_append] at hx
    rw [(tail_head s g h L hs hg x hx).1]; rfl
  | cons y q =>
    rw [hq] at hx
    have hy : y = x := by simpa using hx
    have a := rR_isR s r y (by rw [hq]; simp)
    rw [hy] at a
    unfold isM; rw [a, Bool.true_or, Bool.true_or]; rfl
theorem marks_split (s r g h r' g' h' L : Int) (hs : 1 ≤ s ∧ s ≤ 4) (hg : 0 ≤ g ∧ g ≤ 4) (hg' : 0 ≤ g' ∧ g' ≤ 4) (he : rR s r ++ (rG s g ++ pH s h L) = rR s r' ++ (rG s g' ++ pH s h' L)) :
    rR s r = rR s r' ∧ rG s g = rG s g' ∧ pH s h L = pH s h' L := by
  obtain ⟨a, b⟩ := split_pre isR _ _ _ _ (rR_isR s r) (rR_isR s r') (fun x hx => (tail_head s g h L hs hg x hx).2) (fun x hx => (tail_head s g' h' L hs hg' x hx).2) he
  obtain ⟨c, d⟩ := split_pre (isG s) _ _ _ _ (fun x hx => (rG_isG s g hs hg x hx).1) (fun x hx => (rG_isG s g' hs hg' x hx).1) (fun x hx => (pH_head s h L hs x hx).2.1) (fun x hx => (pH_head s h' L hs x hx).2.1) b
  exact ⟨a, c, d⟩
theorem right_inj (s r r' : Int) (hs : 1 ≤ s ∧ s ≤ 4) (hr : 0 ≤ r ∧ r ≤ 3) (hr' : 0 ≤ r' ∧ r' ≤ 3) (h1 : okR s r = true) (h2 : okR s r' = true) (he : rR s r = rR s r') : r = r' := by
  have s4 : s = 1 ∨ s = 2 ∨ s = 3 ∨ s = 4 := by omega
  have n4 : r = 0 ∨ r = 1 ∨ r = 2 ∨ r = 3 := by omega
  have m4 : r' = 0 ∨ r' = 1 ∨ r' = 2 ∨ r' = 3 := by omega
  revert h1 h2 he
  rcases s4 with rfl | rfl | rfl | rfl <;> rcases n4 with rfl | rfl | rfl | rfl <;> rcases m4 with rfl | rfl | rfl | rfl <;> decide
theorem grace_inj (s r r' : Int) (hs : 1 ≤ s ∧ s ≤ 4) (hr : 0 ≤ r ∧ r ≤ 4) (hr' : 0 ≤ r' ∧ r' ≤ 4) (h1 : okG s r = true) (h2 : okG s r' = true) (he : rG s r = rG s r') : r = r' := by
  have s4 : s = 1 ∨ s = 2 ∨ s = 3 ∨ s = 4 := by omega
  have n4 : r = 0 ∨ r = 1 ∨ r = 2 ∨ r = 3 ∨ r = 4 := by omega
  have m4 : r' = 0 ∨ r' = 1 ∨ r' = 2 ∨ r' = 3 ∨ r' = 4 := by omega
  revert h1 h2 he
  rcases s4 with rfl | rfl | rfl | rfl <;> rcases n4 with rfl | rfl | rfl | rfl | rfl <;> rcases m4 with rfl | rfl | rfl | rfl | rfl <;> decide
theorem dig2_inj : ((List.range 16).all fun a => (List.range 16).all fun b => !(dig2 a == dig2 b) || a == b) = true := by decide +kernel
theorem hold_inj (s h h' L : Int) (hs : 1 ≤ s ∧ s ≤ 4) (hh : 0 ≤ h ∧ h ≤ 15) (hh' : 0 ≤ h' ∧ h' ≤ 15) (h1 : okH s h L = true) (h2 : okH s h' L = true) (he : pH s h L = pH s h' L) : h = h' := by
  have ne : ∀ k : Int, k ≠ 0 → okH s k L = true → pH s k L ≠ [] ∧ pH s k L = rH s k L := by
    intro k hk ho
    have e : pH s k L = rH s k L := if_neg hk
    unfold okH at ho
    have hb : (k == 0) = false := by simpa using hk
    rw [hb, Bool.false_or] at ho
    refine ⟨?_, e⟩
    rw [e]
    intro h0
    rw [h0] at ho
    cases ho
  by_cases z : h = 0
  · by_cases z' : h' = 0
    · rw [z, z']
    · have : pH s h L = [] := if_pos z
      exact absurd (he.symm.trans this) (ne h' z' h2).1
  · by_cases z' : h' = 0
    · have : pH s h' L = [] := if_pos z'
      exact absurd (he.trans this) (ne h z h1).1
    · obtain ⟨a1, a2⟩ := ne h z h1
      obtain ⟨b1, b2⟩ := ne h' z' h2
      rw [a2, b2] at he
      rw [a2] at a1
      rw [b2] at b1
      unfold rH at he a1 b1
      by_cases s1 : s = 1
      · rw [if_pos s1, if_pos s1, List.cons.injEq] at he
        have hd := dig2_inj
        rw [List.all_eq_true] at hd
        have hd1 := hd h.toNat (List.mem_range.2 (by omega))
        rw [List.all_eq_true] at hd1
        have hd2 := hd1 h'.toNat (List.mem_range.2 (by omega))
        rw [he.2] at hd2
        simp at hd2
        omega
      · rw [if_neg s1] at a1 b1
        by_cases q : (s = 2 ∨ s = 4) ∧ h = L
        · by_cases q' : (s = 2 ∨ s = 4) ∧ h' = L
          · rw [q.2, q'.2]
          · rw [if_neg q'] at b1; exact absurd rfl b1
        · rw [if_neg q] at a1; exact absurd rfl a1
theorem spot_of (s crs c : Int) (hs : spotErr s crs = 0) (h : standsB s crs c = true) : crs = spotOf s c := by
  have hk : ¬ ¬ (1 ≤ s ∧ s ≤ 4) := by intro k; unfold spotErr at hs; rw [if_pos k] at hs; cases hs
  unfold spotErr at hs
  rw [if_neg hk] at hs
  have hb : ¬ ((crs < 0 ∨ 6 < crs) ∨ (s = 4 ∧ crs ≠ 0)) := by intro k; rw [if_pos k] at hs; cases hs
  unfold standsB at h
  unfold spotOf
  by_cases h0 : 0 < crs
  · rw [if_pos h0] at h
    have : c = crs := by simpa using h
    rw [if_neg (by omega)]; exact this.symm
  · rw [if_neg h0] at h
    have h' : s = 4 ∨ 6 < c := by simpa using h
    rw [if_pos h']; omega
/-- Two stops that stand at one spot and have the same cell are one. -/
theorem cell_inj (s crs c f r g h c' f' r' g' h' L : Int) (hsp : spotErr s crs = 0) (hc : 1 ≤ c ∧ c ≤ 14) (hf : 0 ≤ f ∧ f ≤ 18) (hr : 0 ≤ r ∧ r ≤ 3) (hg : 0 ≤ g ∧ g ≤ 4) (hh : 0 ≤ h ∧ h ≤ 15)
    (hc' : 1 ≤ c' ∧ c' ≤ 14) (hf' : 0 ≤ f' ∧ f' ≤ 18) (hr' : 0 ≤ r' ∧ r' ≤ 3) (hg' : 0 ≤ g' ∧ g' ≤ 4) (hh' : 0 ≤ h' ∧ h' ≤ 15)
    (hst : standsB s crs c = true) (hst' : standsB s crs c' = true) (ho : cellOk s c f r g h L = true) (ho' : cellOk s c' f' r' g' h' L = true) (he : cellS s c f r g h L = cellS s c' f' r' g' h' L) :
    c = c' ∧ f = f' ∧ r = r' ∧ g = g' ∧ h = h' := by
  have hs : 1 ≤ s ∧ s ≤ 4 := by
    by_cases k : 1 ≤ s ∧ s ≤ 4
    · exact k
    · unfold spotErr at hsp; rw [if_pos k] at hsp; cases hsp
  simp only [cellOk, Bool.and_eq_true] at ho ho'
  obtain ⟨l1, l2⟩ := sym_law s c f hs hc hf
  obtain ⟨m1, m2⟩ := sym_law s c' f' hs hc' hf'
  unfold cellS at he
  rw [l2 ho.1.1.1, m2 ho'.1.1.1, List.append_assoc, List.append_assoc, List.append_assoc, List.append_assoc] at he
  obtain ⟨a, b⟩ := split_pre (fun x => !isM s x) _ _ _ _ (sym_noMark s c f hs hc hf) (sym_noMark s c' f' hs hc' hf') (marks_head s r g h L hs hg) (marks_head s r' g' h' L hs hg') he
  obtain ⟨x, y, z⟩ := marks_split s r g h r' g' h' L hs hg hg' b
  have e0 : symErr s c f = 0 := by
    have hne : rS s c f ≠ [] := by intro k; rw [k] at l1; rw [l1] at ho; simp at ho
    unfold symErr; rw [if_neg (fun k => k hs), if_neg (by omega), if_neg (by omega), if_neg hne]
  have e0' : symErr s c' f' = 0 := by
    have hne : rS s c' f' ≠ [] := by intro k; rw [k] at m1; rw [m1] at ho'; simp at ho'
    unfold symErr; rw [if_neg (fun k => k hs), if_neg (by omega), if_neg (by omega), if_neg hne]
  have p1 := (apart_law s c f e0).2
  have p2 := (apart_law s c' f' e0').2
  rw [← spot_of s crs c hsp hst, a] at p1
  rw [← spot_of s crs c' hsp hst', p1] at p2
  simp only [Prod.mk.injEq, and_true] at p2
  exact ⟨p2.1, p2.2, right_inj s r r' hs hr hr' ho.1.1.2 ho'.1.1.2 x, grace_inj s g g' hs hg hg' ho.1.2 ho'.1.2 y, hold_inj s h h' L hs hh hh' ho.2 ho'.2 z⟩
end Go.Proofs.Yteldgllgagjciaa
