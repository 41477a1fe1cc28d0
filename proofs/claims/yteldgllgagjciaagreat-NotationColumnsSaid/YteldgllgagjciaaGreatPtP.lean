/- ParseTime: plain words. -/
import Derived.Test.YteldgllgagjciaaGreatTmP
namespace Go.Proofs.YteldgllgagjciaaGreat

def tmM (s : Int) (l : List UInt8) (v i : Nat) : Bool := (v != 0 || i == 0) && (tOk s v i && tW v i == l)
def scanT (m : Nat → Nat → Bool) (v n : Nat) : Option (Nat × Nat) := (List.range' v n).findSome? fun v => ((List.range 3).find? (m v)).map fun i => (v, i)
theorem scanT_zero (m : Nat → Nat → Bool) (v : Nat) : scanT m v 0 = none := rfl
theorem scanT_yes (m : Nat → Nat → Bool) (v n i : Nat) (h : (List.range 3).find? (m v) = some i) : scanT m v (n + 1) = some (v, i) := by
  simp only [scanT, List.range'_succ, List.findSome?_cons, h, Option.map_some]
theorem scanT_no (m : Nat → Nat → Bool) (v n : Nat) (h : (List.range 3).find? (m v) = none) : scanT m v (n + 1) = scanT m (v + 1) n := by
  simp only [scanT, List.range'_succ, List.findSome?_cons, h, Option.map_none]
theorem find3 (m : Nat → Bool) : (List.range 3).find? m = if m 0 = true then some 0 else if m 1 = true then some 1 else if m 2 = true then some 2 else none := by
  have : List.range 3 = [0, 1, 2] := rfl
  rw [this, List.find?_cons, List.find?_cons, List.find?_cons]
  cases m 0 <;> cases m 1 <;> cases m 2 <;> rfl
open Go in
def ptV (o : Option (Nat × Nat)) : Value :=
  match o with
  | some (v, i) => .tuple #[.agg #[.int .i64 v, .bool (sgD i), .bool (sgT i)], .int .i64 0]
  | none => .tuple #[.agg #[.int .i64 0, .bool false, .bool false], .int .i64 4]
def refSigns : List (Nat × Nat) := [(1, 1), (1, 0), (2, 1), (1, 2), (2, 0), (3, 1), (2, 2), (3, 0), (4, 1), (3, 2), (4, 0), (5, 1), (4, 2), (5, 0), (6, 1), (5, 2), (6, 0), (7, 1), (6, 2), (7, 0), (7, 2), (0, 0)]
def refM (s : Int) (l : List UInt8) (p : Nat × Nat) : Bool := !l.isEmpty && rW s p.1 p.2 == l
def progSigns : List (Nat × Nat) := (List.range 8).flatMap fun v => (List.range 3).map fun i => (v, i)
theorem find_unique {α : Type} (L L' : List α) (p p' : α → Bool) (h1 : ∀ x ∈ L, p x = true → x ∈ L' ∧ p' x = true) (h2 : ∀ x ∈ L', p' x = true → x ∈ L ∧ p x = true)
    (hu : ∀ x ∈ L', ∀ y ∈ L', p' x = true → p' y = true → x = y) : L.find? p = L'.find? p' := by
  cases hL : L.find? p with
  | none =>
    rw [List.find?_eq_none] at hL
    symm
    rw [List.find?_eq_none]
    intro x hx hp
    exact hL x (h2 x hx hp).1 (h2 x hx hp).2
  | some x =>
    have hm := List.mem_of_find?_eq_some hL
    have hp := List.find?_some hL
    obtain ⟨a, b⟩ := h1 x hm hp
    cases hL' : L'.find? p' with
    | none =>
      rw [List.find?_eq_none] at hL'
      exact absurd b (hL' x a)
    | some y =>
      rw [hu x a y (List.mem_of_find?_eq_some hL') b (List.find?_some hL')]
theorem signs_words : (refSigns.all fun x => refSigns.all fun y => !(tW x.1 x.2 == tW y.1 y.2) || x == y) = true := by decide +kernel
theorem signs_sub : (refSigns.all fun x => progSigns.contains x && (x.1 != 0 || x.2 == 0)) = true := by decide +kernel
theorem signs_sup : (progSigns.all fun x => !(x.1 != 0 || x.2 == 0) || refSigns.contains x) = true := by decide +kernel
theorem signs_v : (refSigns.all fun x => decide (x.1 ≤ 7)) = true := by decide +kernel
theorem scanT_find (m : Nat → Nat → Bool) : scanT m 0 8 = progSigns.find? fun p => m p.1 p.2 := by
  unfold scanT progSigns
  have : ∀ l : List Nat, (l.findSome? fun v => ((List.range 3).find? (m v)).map fun i => (v, i)) = (l.flatMap fun v => (List.range 3).map fun i => (v, i)).find? fun p => m p.1 p.2 := by
    intro l
    induction l with
    | nil => rfl
    | cons v r ih =>
      rw [List.findSome?_cons, List.flatMap_cons, List.find?_append, ih, List.find?_map]
      have e : ((fun p : Nat × Nat => m p.1 p.2) ∘ fun i => (v, i)) = m v := rfl
      rw [e]
      cases (List.range 3).find? (m v) <;> rfl
  rw [← List.range_eq_range']
  exact this _
theorem parse_law (s : Int) (l : List UInt8) : scanT (tmM s l) 0 8 = refSigns.find? (refM s l) := by
  rw [scanT_find]
  have hw := signs_words
  have hsub := signs_sub
  have hsup := signs_sup
  have hv := signs_v
  rw [List.all_eq_true] at hw hsub hsup hv
  refine find_unique _ _ _ _ ?_ ?_ ?_
  · intro x hx hp
    simp only [tmM, Bool.and_eq_true] at hp
    have hx' := hsup x hx
    rw [hp.1] at hx'
    have hin : x ∈ refSigns := by simpa using hx'
    refine ⟨hin, ?_⟩
    have hl : tW x.1 x.2 = l := by simpa using hp.2.2
    have hne := tW_ne x.1 x.2 ⟨by omega, by have := of_decide_eq_true (hv x hin); omega⟩
    rw [hl] at hne
    have he : l.isEmpty = false := by simpa using hne
    unfold refM rW
    rw [if_pos hp.2.1, he]
    simpa using hp.2.2
  · intro x hx hp
    simp only [refM, Bool.and_eq_true] at hp
    have hx' := hsub x hx
    simp only [Bool.and_eq_true] at hx'
    refine ⟨by simpa using hx'.1, ?_⟩
    have he : rW s x.1 x.2 = l := by simpa using hp.2
    have hne : l ≠ [] := by have := hp.1; intro h0; rw [h0] at this; simp at this
    have hok : tOk s x.1 x.2 = true := by
      cases h : tOk s x.1 x.2 with
      | true => rfl
      | false => unfold rW at he; rw [h] at he; exact absurd he.symm hne
    have ht : tW x.1 x.2 = l := by unfold rW at he; rw [if_pos hok] at he; exact he
    unfold tmM
    rw [hx'.2, hok, ht]
    simp
  · intro x hx y hy hpx hpy
    have f : ∀ z, refM s l z = true → tW z.1 z.2 = l := by
      intro z hz
      simp only [refM, Bool.and_eq_true] at hz
      have he : rW s z.1 z.2 = l := by simpa using hz.2
      have hne : l ≠ [] := by have := hz.1; intro h0; rw [h0] at this; simp at this
      unfold rW at he
      split at he
      · exact he
      · exact absurd he.symm hne
    have h1 := hw x hx
    rw [List.all_eq_true] at h1
    have h2 := h1 y hy
    rw [f x hpx, f y hpy] at h2
    simpa using h2
theorem parse_back (s v : Int) (d t : Bool) (h : timeErr s v d t = 0) : scanT (tmM s (timeTxt s v d t)) 0 8 = some (v.toNat, sgI d t) ∧ ((v.toNat : Nat) : Int) = v ∧ sgD (sgI d t) = d ∧ sgT (sgI d t) = t := by
  have hok : sgOk v d t = true := by
    cases hk : sgOk v d t with
    | true => rfl
    | false => unfold timeErr at h; rw [hk] at h; split at h <;> simp at h
  have hv7 : 0 ≤ v ∧ v ≤ 7 := by
    unfold sgOk at hok
    simp only [Bool.or_eq_true, Bool.and_eq_true, beq_iff_eq, decide_eq_true_eq] at hok
    omega
  obtain ⟨n, rfl⟩ := Int.eq_ofNat_of_zero_le hv7.1
  have hto : tOk s n (sgI d t) = true := by
    cases hk : tOk s n (sgI d t) with
    | true => rfl
    | false => unfold timeErr at h; rw [hok, hk] at h; split at h <;> simp at h
  have hr : (n, sgI d t) ∈ refSigns ∧ sgD (sgI d t) = d ∧ sgT (sgI d t) = t := by
    have h8 : n = 0 ∨ n = 1 ∨ n = 2 ∨ n = 3 ∨ n = 4 ∨ n = 5 ∨ n = 6 ∨ n = 7 := by omega
    revert hok
    cases d <;> cases t <;> rcases h8 with rfl | rfl | rfl | rfl | rfl | rfl | rfl | rfl <;> decide
  refine ⟨?_, rfl, hr.2.1, hr.2.2⟩
  have ht : timeTxt s n d t = tW n (sgI d t) := by unfold timeTxt; rw [if_pos h]
  rw [ht, parse_law, Int.toNat_natCast]
  have hne := tW_ne n (sgI d t) (by omega)
  have he : (tW n (sgI d t)).isEmpty = false := by simpa using hne
  have hp : refM s (tW n (sgI d t)) (n, sgI d t) = true := by unfold refM rW; rw [if_pos hto, he]; simp
  have hw := signs_words
  rw [List.all_eq_true] at hw
  cases hf : refSigns.find? (refM s (tW n (sgI d t))) with
  | none => rw [List.find?_eq_none] at hf; exact absurd hp (hf _ hr.1)
  | some y =>
    have hy := List.find?_some hf
    simp only [refM, Bool.and_eq_true] at hy
    have hye : rW s y.1 y.2 = tW n (sgI d t) := by simpa using hy.2
    have hyt : tW y.1 y.2 = tW n (sgI d t) := by
      unfold rW at hye
      split at hye
      · exact hye
      · exact absurd hye.symm hne
    have h1 := hw y (List.mem_of_find?_eq_some hf)
    rw [List.all_eq_true] at h1
    have h2 := h1 _ hr.1
    rw [hyt] at h2
    simp at h2
    rw [h2]
end Go.Proofs.YteldgllgagjciaaGreat
