/- Instruments: what Check answers, and how they lie in memory. The plain part. -/
import Derived.Test.YteldgllgagjciaaGreatRd
namespace Go.Proofs.YteldgllgagjciaaGreat
open Go.RowKit
set_option linter.unusedVariables false
def intCell (x : Int) : List Value := [.int .i64 x]
def crsCells (x : Int × Int × Bool) : List Value := [.int .i64 x.1, .int .i64 x.2.1, .bool x.2.2]
def stepsBad (last : Int) : List Int → Bool
  | [] => false
  | x :: r => decide (x ≤ last ∨ 127 < x) || stepsBad x r
/-- The highest pitch of a course. -/
def topOf (st : List Int) (x : Int × Int × Bool) : Int := (x.1 + if 0 < x.2.1 then st.getD (x.2.1.toNat - 1) 0 else 0) + if x.2.2 then 12 else 0
def crsE (st : List Int) : List (Int × Int × Bool) → Int
  | [] => 0
  | x :: r => if x.2.1 < 0 ∨ (st.length : Int) < x.2.1 then 13 else if (x.1 < 0 ∨ 127 < x.1) ∨ 127 < topOf st x then 10 else crsE st r
/-- The error of an instrument. -/
def insE (cs : List (Int × Int × Bool)) (st : List Int) : Int :=
  if 14 < cs.length ∨ 18 < st.length then 2 else if cs.length = 0 then 11 else if stepsBad 0 st = true then 11 else crsE st cs
theorem stepsBad_at {last : Int} {st : List Int} {k : Nat} (h : k < st.length) : stepsBad last (st.drop k) = (decide (st[k] ≤ last ∨ 127 < st[k]) || stepsBad st[k] (st.drop (k + 1))) := by
  rw [List.drop_eq_getElem_cons h]; rfl
theorem crsE_at {st : List Int} {cs : List (Int × Int × Bool)} {k : Nat} (h : k < cs.length) :
    crsE st (cs.drop k) = if cs[k].2.1 < 0 ∨ (st.length : Int) < cs[k].2.1 then 13 else if (cs[k].1 < 0 ∨ 127 < cs[k].1) ∨ 127 < topOf st cs[k] then 10 else crsE st (cs.drop (k + 1)) := by
  rw [List.drop_eq_getElem_cons h]; rfl
theorem stepsBad_bd : ∀ {st : List Int} {last : Int}, 0 ≤ last → stepsBad last st = false → ∀ k (h : k < st.length), 1 ≤ st[k] ∧ st[k] ≤ 127 := by
  intro st
  induction st with
  | nil => intro last _ _ k h; simp at h
  | cons x r ih =>
    intro last h0 hb k h
    unfold stepsBad at hb
    rw [Bool.or_eq_false_iff] at hb
    have hx := of_decide_eq_false hb.1
    cases k with
    | zero => simp only [List.getElem_cons_zero]; omega
    | succ k => simp only [List.getElem_cons_succ]; exact ih (by omega) hb.2 k (by simpa using h)
/-- An instrument in memory, below block B: its courses and its steps. -/
def InsAt (w : World) (B : Nat) (A1 A2 : Option Addr) (cs : List (Int × Int × Bool)) (st : List Int) : Prop := Rd w B 3 A1 (cs.map crsCells) ∧ Rd w B 1 A2 (st.map intCell)
section
variable {w w' : World} {B B' : Nat} {A1 A2 : Option Addr} {cs : List (Int × Int × Bool)} {st : List Int}
theorem InsAt.keep (h : InsAt w B A1 A2 cs st) (hk : ∀ p : Addr, p.block < B → w'.cell? p = w.cell? p) : InsAt w' B A1 A2 cs st := ⟨h.1.keep hk, h.2.keep hk⟩
theorem InsAt.more (h : InsAt w B A1 A2 cs st) (hB : B ≤ B') : InsAt w B' A1 A2 cs st := ⟨h.1.more hB, h.2.more hB⟩
theorem InsAt.below (h : InsAt w B A1 A2 cs st) (hb : Below B w w') : InsAt w' B A1 A2 cs st := h.keep fun _ hp => hb.cell hp
theorem InsAt.alloc (h : InsAt w B A1 A2 cs st) (hB : B ≤ w.heap.size) (o : Obj) : InsAt (w.alloc o) B A1 A2 cs st := ⟨h.1.alloc hB o, h.2.alloc hB o⟩
/-- A step: where it lies. -/
theorem InsAt.step {k : Nat} (h : InsAt w B A1 A2 cs st) (hk : k < st.length) : ∃ ad, A2 = some ad ∧ ad.block < B ∧ w.cell? (ad.add k) = some (.int .i64 st[k]) := by
  obtain ⟨ad, e, hb, hc⟩ := h.2.at_ (k := k) (by simpa using hk)
  refine ⟨ad, e, hb, ?_⟩
  have := hc 0 (.int .i64 st[k]) (by simp [intCell])
  simpa using this
/-- A course: where its cells lie. -/
theorem InsAt.crs {k : Nat} (h : InsAt w B A1 A2 cs st) (hk : k < cs.length) : ∃ ad, A1 = some ad ∧ ad.block < B ∧ w.cell? (ad.add (k * 3)) = some (.int .i64 cs[k].1) ∧ w.cell? ⟨(ad.add (k * 3)).block, (ad.add (k * 3)).off + 1, none⟩ = some (.int .i64 cs[k].2.1) ∧ w.cell? ⟨(ad.add (k * 3)).block, (ad.add (k * 3)).off + 2, none⟩ = some (.bool cs[k].2.2) := by
  obtain ⟨ad, e, hb, hc⟩ := h.1.at_ (k := k) (by simpa using hk)
  refine ⟨ad, e, hb, ?_, ?_, ?_⟩
  · have := hc 0 (.int .i64 cs[k].1) (by simp [crsCells]); simpa using this
  · rw [← add_field _ _ _ (by omega)]; exact hc 1 (.int .i64 cs[k].2.1) (by simp [crsCells])
  · rw [← add_field _ _ _ (by omega)]; exact hc 2 (.bool cs[k].2.2) (by simp [crsCells])
end
end Go.Proofs.YteldgllgagjciaaGreat
