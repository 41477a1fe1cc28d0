/- Cell of the reference: what can be said; the whole contract. -/
import Derived.Test.YteldgllgagjciaaRCell
namespace Go.Proofs.Yteldgllgagjciaa
open Go.RowKit
set_option maxHeartbeats 1600000
set_option maxRecDepth 100000
set_option linter.unusedVariables false
set_option linter.unusedSimpArgs false
attribute [local go_sem] mk_bs bs_size bs_toList bs_append bs_extract
attribute [local simp] run_cut run_cut_to run_cut_from run_add_bs

theorem own_form {w : World} {base : Nat} {e : TypeId} {size n : Nat} {v : Value} {xs : List Value} (h : w.ownsRow base e size v n xs) : ∃ a cap, v = .slice a n cap := by
  rcases h.2 with ⟨rfl, rfl⟩ | ⟨g, cap, cur, rfl, _⟩
  · exact ⟨_, _, rfl⟩
  · exact ⟨_, _, rfl⟩
theorem wants_len (s c f r g h L : Int) (w : World) (hs : 1 ≤ s ∧ s ≤ 4) (hc : 1 ≤ c ∧ c ≤ 14) (hf : 0 ≤ f ∧ f ≤ 18) (hr : 0 ≤ r ∧ r ≤ 3) (hg : 0 ≤ g ∧ g ≤ 4) (hh : 0 ≤ h ∧ h ≤ 99) (hne : rS s c f ≠ []) :
    Calls Try.prog 46 #[.int .u8 s, .agg #[.int .i64 c, .int .i64 f, .int .i64 r, .int .i64 g, .int .i64 h], .int .i64 L] w fun e w' => ∃ a cap, e = .returned (.slice a (wantsL s c f r g h L).length cap) ∧ Below w.heap.size w w' := by
  refine (wants_some s c f r g h L w hs hc hf hr hg hh hne).mono ?_
  rintro e w' ⟨v, rfl, hown, hb⟩
  obtain ⟨a, cap, rfl⟩ := own_form hown
  exact ⟨a, cap, rfl, hb⟩
theorem wants_ok (s c f r g h L : Int) (hs : 1 ≤ s ∧ s ≤ 4) (hc : 1 ≤ c ∧ c ≤ 14) (hf : 0 ≤ f ∧ f ≤ 18) (hne : rS s c f ≠ []) :
    ((wantsL s c f r g h L).length = 0 ∧ cellOk s c f r g h L = true) ∨ (0 < (wantsL s c f r g h L).length ∧ cellOk s c f r g h L = false) := by
  obtain ⟨l1, _⟩ := sym_law s c f hs hc hf
  have hp : pOk s c f = true := by rw [l1]; simpa using hne
  unfold wantsL cellOk
  rw [if_neg hne, hp]
  cases okR s r <;> cases okG s g <;> cases okH s h L <;> simp
end Go.Proofs.Yteldgllgagjciaa
