/- Whether the cell of a stop is a text: the plain part. -/
import Derived.Test.YteldgllgagjciaaMkP
namespace Go.Proofs.Yteldgllgagjciaa
open Go.RowKit
set_option linter.unusedVariables false
set_option linter.unusedSimpArgs false
/-- Whether the cell of a stop within the limits is the text. -/
def stM (s c f : Int) (l : List UInt8) (L : Int) (r g h : Nat) : Bool := decide (r ≤ 3 ∧ g ≤ 4 ∧ (h : Int) ≤ L ∧ (0 < h → f ≠ 0)) && (cellOk s c f r g h L && cellS s c f r g h L == l)
def cellInt (w : World) (b i : Nat) : Nat := (intOf ((w.cell? ⟨b, i, none⟩).getD undef)).toNat
def MaPost (s c f : Int) (l : List UInt8) (L : Int) (W : World) (e : Ending) (w' : World) : Prop :=
  Below W.heap.size W w' ∧ ((∃ r g h : Nat, stM s c f l L r g h = true ∧ e = .returned (.tuple #[.agg #[.int .i64 c, .int .i64 f, .int .i64 r, .int .i64 g, .int .i64 h], .bool true])) ∨
    ((∀ r g h : Nat, stM s c f l L r g h = false) ∧ e = .returned (.tuple #[.agg #[.int .i64 0, .int .i64 0, .int .i64 0, .int .i64 0, .int .i64 0], .bool false])))
theorem cellInt_eq {w : World} {b i : Nat} {k : IntKind} {x : Int} (h : w.cell? ⟨b, i, none⟩ = some (.int k x)) : cellInt w b i = x.toNat := by
  simp [cellInt, h, intOf]
theorem stM_hL {s c f : Int} {l : List UInt8} {L : Int} {r g h : Nat} (x : ¬ (h : Int) ≤ L) : stM s c f l L r g h = false := by
  unfold stM; simp [x]
theorem stM_hf {s c f : Int} {l : List UInt8} {L : Int} {r g h : Nat} (x : 0 < h ∧ f = 0) : stM s c f l L r g h = false := by
  unfold stM; simp [x]
theorem stM_g {s c f : Int} {l : List UInt8} {L : Int} {r g h : Nat} (x : ¬ g ≤ 4) : stM s c f l L r g h = false := by
  unfold stM; simp [x]
theorem stM_r {s c f : Int} {l : List UInt8} {L : Int} {r g h : Nat} (x : ¬ r ≤ 3) : stM s c f l L r g h = false := by
  unfold stM; simp [x]
theorem stM_ok {s c f : Int} {l : List UInt8} {L : Int} {r g h : Nat} (x : stM s c f l L r g h = true) : (r ≤ 3 ∧ g ≤ 4 ∧ (h : Int) ≤ L ∧ (0 < h → f ≠ 0)) ∧ cellOk s c f r g h L = true ∧ cellS s c f r g h L = l := by
  unfold stM at x
  rw [Bool.and_eq_true, Bool.and_eq_true] at x
  exact ⟨of_decide_eq_true x.1, x.2.1, by simpa using x.2.2⟩
theorem stM_mk {s c f : Int} {l : List UInt8} {L : Int} {r g h : Nat} (a : r ≤ 3 ∧ g ≤ 4 ∧ (h : Int) ≤ L ∧ (0 < h → f ≠ 0)) (b : cellOk s c f r g h L = true) (d : cellS s c f r g h L = l) : stM s c f l L r g h = true := by
  unfold stM
  rw [Bool.and_eq_true, Bool.and_eq_true]
  exact ⟨decide_eq_true a, b, by simpa using d⟩
/-- No symbol, or one that the text does not begin with: no stop of the place is written so. -/
theorem stM_sym {s c f : Int} {l : List UInt8} {L : Int} (h : pOk s c f = false ∨ (pS s c f).isPrefixOf l = false) (r g k : Nat) : stM s c f l L r g k = false := by
  cases e : stM s c f l L r g k with
  | false => rfl
  | true =>
    obtain ⟨_, b, d⟩ := stM_ok e
    exfalso
    rcases h with h | h
    · unfold cellOk at b; rw [h] at b; simp at b
    · have : (pS s c f).isPrefixOf l = true := by
        rw [← d]; unfold cellS; rw [List.append_assoc, List.append_assoc]
        simp
      rw [this] at h; cases h
end Go.Proofs.Yteldgllgagjciaa
