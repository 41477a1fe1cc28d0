/- ParseCell of the reference: the plain part. -/
import Derived.Test.YteldgllgagjciaaPcP
namespace Go.Proofs.Yteldgllgagjciaa
open Go.RowKit
set_option linter.unusedVariables false
set_option linter.unusedSimpArgs false
theorem scanC_mem (m : Nat → Nat → Bool) : ∀ (n c a b : Nat), scanC m c n = some (a, b) → c ≤ a ∧ a < c + n ∧ b ≤ 18 ∧ m a b = true := by
  intro n
  induction n with
  | zero => intro c a b h; cases h
  | succ n ih =>
    intro c a b h
    rw [scanC_succ] at h
    cases e : scanF (m c) 0 19 with
    | none =>
      rw [e] at h
      obtain ⟨x, y, z⟩ := ih (c + 1) a b h
      exact ⟨by omega, by omega, z⟩
    | some f =>
      rw [e] at h
      simp only [Option.some.injEq, Prod.mk.injEq] at h
      obtain ⟨rfl, rfl⟩ := h
      unfold scanF at e
      have h1 := List.find?_some e
      have h2 := List.mem_of_find?_eq_some e
      rw [List.mem_range'_1] at h2
      exact ⟨by omega, by omega, by omega, h1⟩
/-- What Place answers: a place that stands at the spot and has the text as its symbol, or none. -/
theorem placeOf_cases {s crs : Int} (l : List UInt8) (h : spotErr s crs = 0) :
    (∃ c f : Nat, placeOf s crs l = ((c : Int), (f : Int), 0) ∧ (1 ≤ c ∧ c ≤ 14) ∧ f ≤ 18 ∧ standsB s crs c = true ∧ rS s c f = l) ∨ placeOf s crs l = (0, 0, 4) := by
  cases e : scanC (plM s crs l) 1 14 with
  | none => exact .inr (placeOf_none h e)
  | some cf =>
    obtain ⟨c, f⟩ := cf
    obtain ⟨x, y, z, m⟩ := scanC_mem _ _ _ _ _ e
    unfold plM at m
    simp only [Bool.and_eq_true] at m
    exact .inl ⟨c, f, placeOf_some h e, by omega, z, m.1, by simpa using m.2.2⟩
theorem spotErr_sys {s crs : Int} (h : spotErr s crs = 0) : 1 ≤ s ∧ s ≤ 4 := by
  by_cases k : 1 ≤ s ∧ s ≤ 4
  · exact k
  · unfold spotErr at h; rw [if_pos k] at h; cases h
/-- The symbol of a stop that is written so is a beginning of the text, and Place finds it. -/
theorem pcOk_sym {s crs L : Int} {l : List UInt8} {c f r g h : Nat} (hsp : spotErr s crs = 0) (a : pcOk s crs L l c f r g h) :
    1 ≤ (rS s c f).length ∧ (rS s c f).length ≤ l.length ∧ placeOf s crs (l.take (rS s c f).length) = ((c : Int), (f : Int), 0) := by
  obtain ⟨a1, a2, a3, a4⟩ := a
  obtain ⟨a5, a6, a7⟩ := stM_ok a4
  have hs := spotErr_sys hsp
  obtain ⟨l1, l2⟩ := sym_law s c f hs (by omega) (by omega)
  have hok : pOk s c f = true := by
    cases e : pOk s c f with
    | true => rfl
    | false => unfold cellOk at a6; rw [e] at a6; simp at a6
  have hne : rS s c f ≠ [] := by intro k; rw [k] at l1; rw [l1] at hok; simp at hok
  have e0 : symErr s c f = 0 := by unfold symErr; rw [if_neg (fun k => k hs), if_neg (by omega), if_neg (by omega), if_neg hne]
  have hl : l = rS s c f ++ (rR s r ++ (rG s g ++ pH s h L)) := by
    rw [← a7]; unfold cellS; rw [l2 hok]; simp
  have ht : l.take (rS s c f).length = rS s c f := by rw [hl]; simp
  have hlen : (rS s c f).length ≤ l.length := by rw [hl]; simp
  have hp := (apart_law s c f e0).2
  rw [← spot_of s crs c hsp a3] at hp
  refine ⟨?_, hlen, by rw [ht]; exact hp⟩
  cases hq : rS s c f with
  | nil => exact absurd hq hne
  | cons x t => simp
/-- One step of the search by the length of the symbol. -/
theorem pc_step {s crs L : Int} {l : List UInt8} {n : Nat} (hsp : spotErr s crs = 0) (hn : ∀ c f r g h : Nat, pcOk s crs L l c f r g h → n ≤ (rS s c f).length)
    (hno : ∀ c f r g h : Nat, placeOf s crs (l.take n) = ((c : Int), (f : Int), 0) → ¬ pcOk s crs L l c f r g h) : ∀ c f r g h : Nat, pcOk s crs L l c f r g h → n + 1 ≤ (rS s c f).length := by
  intro c f r g h a
  have h1 := hn c f r g h a
  by_cases e : (rS s c f).length = n
  · have := (pcOk_sym hsp a).2.2
    rw [e] at this
    exact absurd a (hno c f r g h this)
  · omega
/-- A stop numbered i: its cell is the text exactly if Cell returns it without error. -/
theorem cell_of_i {s c f L : Int} {l : List UInt8} {r g h : Nat} (hs : 1 ≤ s ∧ s ≤ 4) (hc : 1 ≤ c ∧ c ≤ 14) (hf : 0 ≤ f ∧ f ≤ 18) (hr : r ≤ 3) (hg : g ≤ 4) (hh : (h : Int) ≤ L) (hL : 0 ≤ L ∧ L ≤ 15) :
    stM s c f l L r g h = ((cellErr s c f r g h L == 0) && (cellTxt s c f r g h L == l)) := by
  by_cases z : 0 < h ∧ f = 0
  · rw [stM_hf z, (cellErr_holds s c f r g h L hs hc hf (by omega) (by omega)).2]; rfl
  · have hz : 0 < h → f ≠ 0 := fun a b => z ⟨a, b⟩
    have e := cellErr_ok s c f r g h L hs hc hf (by omega) (by omega)
    have hd : decide (r ≤ 3 ∧ g ≤ 4 ∧ (h : Int) ≤ L ∧ (0 < h → f ≠ 0)) = true := decide_eq_true ⟨hr, hg, hh, hz⟩
    unfold stM
    rw [hd, Bool.true_and]
    cases hk : cellOk s c f r g h L with
    | true =>
      rw [hk, if_pos rfl] at e
      simp only [Value.tuple.injEq, Value.int.injEq, Array.mk.injEq, List.cons.injEq, true_and, and_true] at e
      have e0 := e.2
      have et : cellTxt s c f r g h L = cellS s c f r g h L := if_pos e0
      rw [e0, et]; rfl
    | false =>
      rw [hk, if_neg (by decide)] at e
      simp only [Value.tuple.injEq, Value.int.injEq, Array.mk.injEq, List.cons.injEq, true_and, and_true] at e
      rw [e.2]; rfl
end Go.Proofs.Yteldgllgagjciaa
