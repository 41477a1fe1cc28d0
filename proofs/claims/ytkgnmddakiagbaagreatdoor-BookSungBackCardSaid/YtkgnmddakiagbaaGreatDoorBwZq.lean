/- How big a piece is; the look at the examples. -/
import Derived.Test.YtkgnmddakiagbaaGreatDoorJnZq
import Derived.Test.YtkgnmddakiagbaaGreatDoorProg
import Derived.BigQuiet
import Derived.Deep.QuietTactic
import Derived.WalkKit
import Derived.Handy
import Derived.WalkLawsBesides
import Derived.Deep.RegionHeld3
import Derived.Shelf.Strings.Builder1
import Derived.Shelf.Strings.Builder2
import Derived.Shelf.Small.Strs
import Derived.Shelf.Strings.BuilderF
import Derived.Shelf.Strings.BuilderK
import Derived.Shelf.Strings.Builder2Cap
import Derived.Shelf.Strconv.Itoa0
import Derived.Shelf.Strconv.Itoa1
import Derived.Shelf.LaysM
import Derived.Shelf.Strconv.Itoa2
import Derived.Shelf.Strconv.Itoa3
import Derived.Shelf.Strings.Search1
import Derived.Shelf.Strings.Search2
import Derived.Shelf.Strings.Search3
import Derived.Shelf.Strings.Cut
import Derived.Shelf.Strings.Count
import Derived.Shelf.Strings.Shaped
import Derived.Shelf.Strings.Prefix
import Derived.Shelf.Bits.Mul64
import Derived.Shelf.Strings.Repeat
import Derived.Shelf.Unicode.DecodeSlow
import Derived.Shelf.Strings.BuilderCap
import Derived.Deep.Draws
import Derived.OwnWalk
import Derived.Maps.AppendAt
import Derived.Deep.AppendLies
import Derived.Laws.OwnMore
import Derived.Still
import Derived.Lib.Hide
import Derived.Lib.FrozenHead
import Derived.Deep.MidRow
import Derived.Test.YtkgnmddakiagbaaGreatDoorSayZq
import Derived.Test.YtkgnmddakiagbaaGreatDoorPl1Zq
import Derived.Test.YtkgnmddakiagbaaGreatDoorEUZq
import Derived.Test.YtkgnmddakiagbaaGreatDoorCalmZq
import Derived.Test.YtkgnmddakiagbaaGreatDoorMk1Zq
import Derived.Test.YtkgnmddakiagbaaGreatDoorPl2Zq
set_option linter.unusedVariables false
set_option linter.unusedSimpArgs false
namespace Go.Proofs.YtkgnmddakiagbaaGreatDoor
open Go.RowKit
set_option maxRecDepth 100000
def newF (F : View) (w w' : World) : View := fun p => if p.block < w.heap.size then F p else w'.cell? p
theorem newF_le {F : View} {w w' : World} (hF : ∀ p u, F p = some u → w.cell? p = some u) : View.le F (newF F w w') := fun p u h => by
  unfold newF
  rw [if_pos (cell_block (hF p u h))]; exact h
theorem newF_fw {F : View} {w w' : World} (hF : ∀ p u, F p = some u → w.cell? p = some u) (hb : Below w.heap.size w w') : ∀ p u, newF F w w' p = some u → w'.cell? p = some u := fun p u h => by
  unfold newF at h
  by_cases e : p.block < w.heap.size
  · rw [if_pos e] at h; rw [hb.cell e]; exact hF p u h
  · rw [if_neg e] at h; exact h
theorem newF_new {F : View} {w w' : World} : ∀ p u, newF F w w' p = some u → F p = some u ∨ w.heap.size ≤ p.block := fun p u h => by
  unfold newF at h
  by_cases e : p.block < w.heap.size
  · rw [if_pos e] at h; exact .inl h
  · exact .inr (by omega)
theorem rp_of_rd {α : Type} {F : View} {w w' : World} {n : Nat} {l : List α} {e : α → List AV} {f : α → List Value} {A : Option Addr} {c B : Nat} (hr : Rd w' B n A (l.map f)) (hA : ∀ ad, A = some ad → w.heap.size ≤ ad.block) (hc : l.length ≤ c)
    (hf : ∀ x, (e x).length = n) (hef : ∀ x (j : Nat) av, (e x)[j]? = some av → ∃ u, av = .sc u ∧ (f x)[j]? = some u ∧ u.oneCell' = true) : RP (newF F w w') (.ls n (l.map e)) (.slice A l.length c) := by
  have hcell : ∀ ad, A = some ad → ∀ (k : Nat) x, l[k]? = some x → ∀ (j : Nat) u, (f x)[j]? = some u → newF F w w' (ad.add (k * n + j)) = some u := fun ad had k x hk j u hu => by
    have hl : 0 < (l.map f).length := by have := (List.getElem?_eq_some_iff.1 hk).1; simp; omega
    obtain ⟨ad', e', _, h2⟩ := hr hl
    rw [had] at e'
    cases e'
    unfold newF
    rw [if_neg (by rw [block_of_add]; have := hA ad had; omega)]
    exact h2 k (f x) (by rw [List.getElem?_map, hk]; rfl) j u hu
  have key : ∀ (i : Nat) r (j : Nat) av, (l.map e)[i]? = some r → r[j]? = some av → ∃ x u, l[i]? = some x ∧ av = .sc u ∧ (f x)[j]? = some u ∧ u.oneCell' = true := fun i r j av hr' hav => by
    rw [List.getElem?_map] at hr'
    cases hx : l[i]? with
    | none => simp [hx] at hr'
    | some x =>
      rw [hx] at hr'
      obtain rfl : e x = r := by simpa using hr'
      obtain ⟨u, a, b, c⟩ := hef x j av hav
      exact ⟨x, u, rfl, a, b, c⟩
  have hlen : l.length = (l.map e).length := by simp
  rw [hlen]
  refine .ls n (l.map e) A c (A.getD ⟨0, 0, none⟩) (fun i j => ((l[i]?).bind fun x => (f x)[j]?).getD undef) (by simpa using hc) (fun r hr' => ?_) (fun hp => ?_) (fun i r j av hr' hav => ?_) (fun i r j av hr' hav => ?_)
  · obtain ⟨x, _, rfl⟩ := List.mem_map.1 hr'; exact hf x
  · obtain ⟨ad, e', _⟩ := hr (by simpa using hp)
    rw [e']; rfl
  · obtain ⟨x, u, h1, h2, h3, h4⟩ := key i r j av hr' hav
    obtain ⟨ad, e', _⟩ := hr (by have := (List.getElem?_eq_some_iff.1 h1).1; simp; omega)
    simp only [h1, Option.bind_some, h3, Option.getD_some]
    rw [e']
    exact ⟨hcell ad e' i x h1 j u h3, h4⟩
  · obtain ⟨x, u, h1, h2, h3, h4⟩ := key i r j av hr' hav
    simp only [h1, Option.bind_some, h3, Option.getD_some, h2]
    exact .sc u
theorem eInt_of (x : Int) (j : Nat) (av : AV) (h : (eInt x)[j]? = some av) : ∃ u, av = .sc u ∧ (intCell x)[j]? = some u ∧ u.oneCell' = true := by
  match j with
  | 0 => cases h; exact ⟨_, rfl, rfl, rfl⟩
  | j + 1 => simp [eInt] at h
end Go.Proofs.YtkgnmddakiagbaaGreatDoor
namespace Go.Proofs.YtkgnmddakiagbaaGreatDoor
open Go.RowKit
set_option maxHeartbeats 1600000
set_option maxRecDepth 100000
attribute [local go_sem] mk_bs bs_size bs_toList bs_append bs_extract
attribute [local simp] run_cut run_cut_to run_cut_from run_add_bs
theorem of_3 (w : World) : Calls Tryz.prog 44 #[.int .u8 3] w fun e w' => e = .returned (.tuple #[(.iface 193 (.agg #[])), .bool true]) ∧ w = w' := by
  go_enter Tryz.func44, Tryz.ntmps44
  go_wp2
  go_ret2
  exact ⟨rfl, rfl⟩
end Go.Proofs.YtkgnmddakiagbaaGreatDoor
namespace Go.Proofs.YtkgnmddakiagbaaGreatDoor
open Go.RowKit
set_option maxHeartbeats 1600000
set_option maxRecDepth 100000
attribute [local go_sem] mk_bs bs_size bs_toList bs_append bs_extract
attribute [local simp] run_cut run_cut_to run_cut_from run_add_bs
theorem of_4 (w : World) : Calls Tryz.prog 44 #[.int .u8 4] w fun e w' => e = .returned (.tuple #[(.iface 195 (.agg #[])), .bool true]) ∧ w = w' := by
  go_enter Tryz.func44, Tryz.ntmps44
  go_wp2
  go_ret2
  exact ⟨rfl, rfl⟩
end Go.Proofs.YtkgnmddakiagbaaGreatDoor
namespace Go.Proofs.YtkgnmddakiagbaaGreatDoor
open Go.RowKit
set_option maxRecDepth 100000
set_option maxHeartbeats 4000000
theorem pcOk_of2 {p : Pce} (h : bigB p = false) : PcOk p := by
  unfold bigB at h
  simp only [Bool.or_eq_false_iff, decide_eq_false_iff_not, List.any_eq_false] at h
  obtain ⟨h1, h2, h3, h4⟩ := h
  refine ⟨by omega, by omega, by omega, fun k hk => ?_⟩
  have := h4 _ (List.getElem_mem hk)
  simp at this
  exact this
end Go.Proofs.YtkgnmddakiagbaaGreatDoor
