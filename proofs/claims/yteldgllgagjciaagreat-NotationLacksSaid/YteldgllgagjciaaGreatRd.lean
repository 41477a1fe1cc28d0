/- A slice that reads as a list of rows of cells, nil let in: words of this seat. -/
import Derived.Test.YteldgllgagjciaaGreatOwn
import Derived.Deep.Draws
namespace Go.Proofs.YteldgllgagjciaaGreat
open Go.RowKit
theorem block_of_add (a : Addr) (n : Nat) : (a.add n).block = a.block := by unfold Addr.add; split <;> rfl
theorem add_of_add (a : Addr) (i j : Nat) : (a.add i).add j = a.add (i + j) := by
  unfold Addr.add
  by_cases hi : i = 0 <;> by_cases hj : j = 0 <;> simp [hi, hj, Nat.add_assoc]
theorem add_field (ad : Addr) (i j : Nat) (h : 0 < j) : ad.add (i + j) = ⟨(ad.add i).block, (ad.add i).off + j, none⟩ := by
  rw [← add_of_add]
  generalize ad.add i = b
  unfold Addr.add
  rw [if_neg (by omega)]
/-- The slice at A holds the rows l, each of size cells, below block B. -/
def Rd (w : World) (B size : Nat) (A : Option Addr) (l : List (List Value)) : Prop :=
  0 < l.length → ∃ ad, A = some ad ∧ ad.block < B ∧ ∀ k r, l[k]? = some r → ∀ j u, r[j]? = some u → w.cell? (ad.add (k * size + j)) = some u
section
variable {w w' : World} {B B' size : Nat} {A : Option Addr} {l : List (List Value)}
theorem Rd.none_ : Rd w B size A [] := fun h => absurd h (by simp)
theorem Rd.at_ {k : Nat} (h : Rd w B size A l) (hk : k < l.length) : ∃ ad, A = some ad ∧ ad.block < B ∧ ∀ j u, (l[k])[j]? = some u → w.cell? (ad.add (k * size + j)) = some u := by
  obtain ⟨ad, e, hb, hc⟩ := h (by omega)
  exact ⟨ad, e, hb, fun j u hu => hc k _ (List.getElem?_eq_getElem hk) j u hu⟩
theorem Rd.keep (h : Rd w B size A l) (hk : ∀ p : Addr, p.block < B → w'.cell? p = w.cell? p) : Rd w' B size A l := fun hn => by
  obtain ⟨ad, e, hb, hc⟩ := h hn
  exact ⟨ad, e, hb, fun k r hr j u hu => (hk _ (by rw [block_of_add]; exact hb)).trans (hc k r hr j u hu)⟩
theorem Rd.more (h : Rd w B size A l) (hB : B ≤ B') : Rd w B' size A l := fun hn => by
  obtain ⟨ad, e, hb, hc⟩ := h hn
  exact ⟨ad, e, by omega, hc⟩
theorem Rd.below (h : Rd w B size A l) (hb : Below B w w') : Rd w' B size A l := h.keep fun _ hp => hb.cell hp
theorem Rd.drew (h : Rd w B size A l) : Rd w.drew B size A l := h
theorem Rd.drewN (h : Rd w B size A l) (k : Nat) : Rd (w.drewN k) B size A l := h
theorem Rd.alloc (h : Rd w B size A l) (hB : B ≤ w.heap.size) (o : Obj) : Rd (w.alloc o) B size A l := h.keep fun p hp => World.cell?_alloc_lt w o p (by omega)
theorem Rd.setCell (h : Rd w B size A l) {p : Addr} (hB : B ≤ p.block) (u : Value) : Rd (w.setCell p u) B size A l :=
  h.keep fun q hq => World.cell?_setCell_other w p q u (fun e => by subst e; omega)
theorem Rd.grown (h : Rd w B size A l) {row : Option Nat} (hg : w.grownBy w' row) (hB : B ≤ w.heap.size) (hr : ∀ g, row = some g → B ≤ g) : Rd w' B size A l :=
  h.keep fun p hp => World.cell?_of_block (hg.block p.block (by omega) (fun e => by have := hr _ e.symm; omega))
end
end Go.Proofs.YteldgllgagjciaaGreat
