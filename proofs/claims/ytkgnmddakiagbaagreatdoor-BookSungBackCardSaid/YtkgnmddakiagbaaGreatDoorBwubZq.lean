/- How big a piece is; the look at the examples. -/
import Derived.WalkKit
import Derived.Handy
import Derived.WalkLawsBesides
import Derived.Test.YtkgnmddakiagbaaGreatDoorRefZq
import Derived.OwnWalk
import Derived.Maps.AppendAt
import Derived.Deep.AppendLies
import Derived.Laws.OwnMore
import Derived.Deep.Draws
import Derived.Below
import Derived.ChangeSame
import Derived.Lib.SmallJoins
import Derived.Deep.Fields
import Derived.Test.YtkgnmddakiagbaaGreatDoorProg
import Derived.Deep.Slices
import Derived.ReadAgain
import Derived.Test.YtkgnmddakiagbaaGreatDoorCoPZq
import Derived.Test.YtkgnmddakiagbaaGreatDoorCalmZq
import Derived.Test.YtkgnmddakiagbaaGreatDoorInsZq
import Derived.Deep.MidRow
import Derived.Still
import Derived.Lib.Hide
import Derived.Lib.FrozenHead
import Derived.Test.YtkgnmddakiagbaaGreatDoorGdZq
import Derived.Test.YtkgnmddakiagbaaGreatDoorJnZq
import Derived.Deep.RegionHeld3
import Derived.Test.YtkgnmddakiagbaaGreatDoorSayZq
import Derived.BigQuiet
import Derived.Deep.QuietTactic
import Derived.Shelf.Strings.Builder1
import Derived.Shelf.Strings.Builder2
import Derived.Shelf.Small.Strs
import Derived.Shelf.Strings.BuilderF
import Derived.Shelf.Strings.BuilderK
import Derived.Shelf.Strings.Builder2Cap
import Derived.Shelf.Strconv.Itoa0
import Derived.Shelf.Strconv.Itoa1
import Derived.Shelf.LaysM
import Derived.Shelf.Strconv.Itoa2
import Derived.Shelf.Strconv.Itoa3
import Derived.Shelf.Strings.Search1
import Derived.Shelf.Strings.Search2
import Derived.Shelf.Strings.Search3
import Derived.Shelf.Strings.Cut
import Derived.Shelf.Strings.Count
import Derived.Shelf.Strings.Shaped
import Derived.Shelf.Strings.Prefix
import Derived.Shelf.Bits.Mul64
import Derived.Shelf.Strings.Repeat
import Derived.Shelf.Unicode.DecodeSlow
import Derived.Shelf.Strings.BuilderCap
import Derived.Test.YtkgnmddakiagbaaGreatDoorBwZq
import Derived.Lib.ItoaNum
import Derived.Test.YtkgnmddakiagbaaGreatDoorEHZq
import Derived.Test.YtkgnmddakiagbaaGreatDoorChPZq
import Derived.Test.YtkgnmddakiagbaaGreatDoorEUZq
set_option linter.unusedVariables false
set_option linter.unusedSimpArgs false
namespace Go.Proofs.YtkgnmddakiagbaaGreatDoor
open Go.RowKit
section
variable {w w' : World} {g : Nat} {t : TypeId} {cs : Array Value}
theorem Blk.drew (h : Blk w g t cs) : Blk w.drew g t cs := h
end
end Go.Proofs.YtkgnmddakiagbaaGreatDoor
namespace Go.Proofs.YtkgnmddakiagbaaGreatDoor
open Go.RowKit
section
variable {w w' : World} {B B' size : Nat} {A : Option Addr} {l : List (List Value)}
theorem Rd.setCell (h : Rd w B size A l) {p : Addr} (hB : B ≤ p.block) (u : Value) : Rd (w.setCell p u) B size A l :=
  h.keep fun q hq => World.cell?_setCell_other w p q u (fun e => by subst e; omega)
theorem Rd.grown (h : Rd w B size A l) {row : Option Nat} (hg : w.grownBy w' row) (hB : B ≤ w.heap.size) (hr : ∀ g, row = some g → B ≤ g) : Rd w' B size A l :=
  h.keep fun p hp => World.cell?_of_block (hg.block p.block (by omega) (fun e => by have := hr _ e.symm; omega))
end
end Go.Proofs.YtkgnmddakiagbaaGreatDoor
namespace Go.Proofs.YtkgnmddakiagbaaGreatDoor
open Go.RowKit Go.WideShapes Go.ChangeShapes Go.Joins Go.Deep
set_option maxRecDepth 100000
section
variable {H : Type} {enc : TypeId × Value → H} {w : World} {base : Nat} {spare : Nat → Bool} {held : Bool}
theorem cellsCourse : Tryz.prog.cellsOf 109 = 3 := by kernel_rfl
theorem cellsBool : Tryz.prog.cellsOf 4 = 1 := by kernel_rfl
theorem cellsCourses : Tryz.prog.cellsOf 23 = 1 := by kernel_rfl
theorem cellsInts : Tryz.prog.cellsOf 24 = 1 := by kernel_rfl
theorem cellsInstrument : Tryz.prog.cellsOf 26 = 2 := by kernel_rfl
theorem open_courses {n : Nat} {v : Value} {x : DataW H × List MemPlace} (h : DataW.trod enc Tryz.prog w base spare held n 23 [v] = some x) :
    ∃ (A : Option Addr) (c : Nat) (cs : List (Int × Int × Bool)), v = .slice A cs.length c ∧ cs.length ≤ maxLen ∧ Rd w w.heap.size 3 A (cs.map crsCells) := by
  rcases open_slice (P := Tryz.prog) Tryz.underlying23 h with ⟨h0, _⟩ | ⟨a, len, cap, m, n', D, Pl, hcs, hb, hl, hm, hmm, _, hi⟩
  · obtain rfl : v = .slice none 0 0 := by simpa using h0
    exact ⟨none, 0, [], rfl, by simp, Rd.none_⟩
  · obtain rfl : v = .slice (some a) len cap := by simpa using hcs
    have hlm : len ≤ m := by rw [hmm]; split <;> omega
    obtain ⟨cs, hlen, hq⟩ := list_of (Q := fun i (x : Int × Int × Bool) => w.cell? (a.add (i * 3)) = some (.int .i64 x.1) ∧ w.cell? (a.add (i * 3 + 1)) = some (.int .i64 x.2.1) ∧ w.cell? (a.add (i * 3 + 2)) = some (.bool x.2.2)) len (fun i hil => by
      obtain ⟨cs', hc, ht'⟩ := hi i (by omega)
      rw [cellsCourse] at hc
      obtain ⟨ys, n2, _, _, hlen, _, hf⟩ := DataW.trod_struct Tryz.underlying109 ht'
      obtain ⟨_, hcl, hat⟩ := World.cells?_some hc
      match cs', hcl with
      | [u0, u1, u2], _ =>
        have f0 : DataW.trod enc Tryz.prog w base spare held n2 3 [u0] = ys[0]? := by simpa [cellsInt] using hf 0 _ rfl
        have f1 : DataW.trod enc Tryz.prog w base spare held n2 3 [u1] = ys[1]? := by simpa [cellsInt] using hf 1 _ rfl
        have f2 : DataW.trod enc Tryz.prog w base spare held n2 4 [u2] = ys[2]? := by simpa [cellsBool] using hf 2 _ rfl
        have g0 := hat 0 (by omega)
        have g1 := hat 1 (by omega)
        have g2 := hat 2 (by omega)
        simp only [add_of_add, Nat.add_zero, List.getElem?_cons_zero, List.getElem?_cons_succ] at g0 g1 g2
        obtain ⟨y0, hy0⟩ : ∃ y, ys[0]? = some y := ⟨_, List.getElem?_eq_getElem (by rw [‹ys.length = _›]; decide)⟩
        obtain ⟨y1, hy1⟩ : ∃ y, ys[1]? = some y := ⟨_, List.getElem?_eq_getElem (by rw [‹ys.length = _›]; decide)⟩
        obtain ⟨y2, hy2⟩ : ∃ y, ys[2]? = some y := ⟨_, List.getElem?_eq_getElem (by rw [‹ys.length = _›]; decide)⟩
        rw [hy0] at f0; rw [hy1] at f1; rw [hy2] at f2
        obtain ⟨a0, e0, _, _⟩ := DataW.trod_int Tryz.underlying3 f0
        obtain ⟨a1, e1, _, _⟩ := DataW.trod_int Tryz.underlying3 f1
        obtain ⟨a2, e2, _⟩ := DataW.trod_bool Tryz.underlying4 f2
        simp only [List.cons.injEq, and_true] at e0 e1 e2
        subst e0 e1 e2
        exact ⟨(a0, a1, a2), g0, g1, g2⟩)
    refine ⟨some a, cap, cs, by rw [hlen], by omega, fun hpos => ⟨a, rfl, ?_, ?_⟩⟩
    · have hpos' : 0 < cs.length := by simpa using hpos
      have := (hq 0 hpos').1
      have := World.block_lt_of_cell? w _ this
      rwa [block_of_add] at this
    · intro k r hr j u hu
      rw [List.getElem?_map] at hr
      cases hk : cs[k]? with
      | none => rw [hk] at hr; cases hr
      | some x =>
        rw [hk] at hr
        obtain rfl : crsCells x = r := by simpa using hr
        obtain ⟨hkl, hkx⟩ := List.getElem?_eq_some_iff.1 hk
        have q := hq k hkl
        rw [hkx] at q
        match j with
        | 0 => obtain rfl : Value.int .i64 x.1 = u := by simpa [crsCells] using hu
               simpa using q.1
        | 1 => obtain rfl : Value.int .i64 x.2.1 = u := by simpa [crsCells] using hu
               exact q.2.1
        | 2 => obtain rfl : Value.bool x.2.2 = u := by simpa [crsCells] using hu
               exact q.2.2
        | j + 3 => simp [crsCells] at hu
theorem open_ints {n : Nat} {v : Value} {x : DataW H × List MemPlace} (h : DataW.trod enc Tryz.prog w base spare held n 24 [v] = some x) :
    ∃ (A : Option Addr) (c : Nat) (st : List Int), v = .slice A st.length c ∧ st.length ≤ maxLen ∧ Rd w w.heap.size 1 A (st.map intCell) := by
  rcases open_slice1 (P := Tryz.prog) Tryz.underlying24 cellsInt h with ⟨h0, _⟩ | ⟨a, len, cap, m, n', V, D, Pl, hcs, hb, hl, hm, hmm, _, hi⟩
  · obtain rfl : v = .slice none 0 0 := by simpa using h0
    exact ⟨none, 0, [], rfl, by simp, Rd.none_⟩
  · obtain rfl : v = .slice (some a) len cap := by simpa using hcs
    have hlm : len ≤ m := by rw [hmm]; split <;> omega
    obtain ⟨st, hlen, hq⟩ := list_of (Q := fun i (x : Int) => w.cell? (a.add i) = some (.int .i64 x)) len (fun i hil => by
      obtain ⟨hc, ht'⟩ := hi i (by omega)
      obtain ⟨a0, e0, _, _⟩ := DataW.trod_int Tryz.underlying3 ht'
      simp only [List.cons.injEq, and_true] at e0
      exact ⟨a0, by rw [hc, e0]⟩)
    refine ⟨some a, cap, st, by rw [hlen], by omega, fun hpos => ⟨a, rfl, ?_, ?_⟩⟩
    · have hpos' : 0 < st.length := by simpa using hpos
      have := World.block_lt_of_cell? w _ (hq 0 hpos')
      rwa [block_of_add] at this
    · intro k r hr j u hu
      rw [List.getElem?_map] at hr
      cases hk : st[k]? with
      | none => rw [hk] at hr; cases hr
      | some x =>
        rw [hk] at hr
        obtain rfl : intCell x = r := by simpa using hr
        obtain ⟨hkl, hkx⟩ := List.getElem?_eq_some_iff.1 hk
        have q := hq k hkl
        rw [hkx] at q
        match j with
        | 0 => obtain rfl : Value.int .i64 x = u := by simpa [intCell] using hu
               simpa using q
        | j + 1 => simp [intCell] at hu
theorem open_ins {n : Nat} {v0 v1 : Value} {x : DataW H × List MemPlace} (h : DataW.trod enc Tryz.prog w base spare held n 26 [v0, v1] = some x) :
    ∃ (A1 A2 : Option Addr) (c1 c2 : Nat) (cs : List (Int × Int × Bool)) (st : List Int), v0 = .slice A1 cs.length c1 ∧ v1 = .slice A2 st.length c2 ∧ cs.length ≤ maxLen ∧ st.length ≤ maxLen ∧ InsAt w w.heap.size A1 A2 cs st := by
  obtain ⟨ys, n2, _, _, _, hys, hf⟩ := DataW.trod_struct Tryz.underlying26 h
  have f0 : DataW.trod enc Tryz.prog w base spare held n2 23 [v0] = ys[0]? := by simpa [cellsCourses] using hf 0 _ rfl
  have f1 : DataW.trod enc Tryz.prog w base spare held n2 24 [v1] = ys[1]? := by simpa [cellsInts] using hf 1 _ rfl
  obtain ⟨y0, hy0⟩ : ∃ y, ys[0]? = some y := ⟨_, List.getElem?_eq_getElem (by rw [hys]; decide)⟩
  obtain ⟨y1, hy1⟩ : ∃ y, ys[1]? = some y := ⟨_, List.getElem?_eq_getElem (by rw [hys]; decide)⟩
  rw [hy0] at f0; rw [hy1] at f1
  obtain ⟨A1, c1, cs, e1, l1, r1⟩ := open_courses f0
  obtain ⟨A2, c2, st, e2, l2, r2⟩ := open_ints f1
  exact ⟨A1, A2, c1, c2, cs, st, e1, e2, l1, l2, r1, r2⟩
end
end Go.Proofs.YtkgnmddakiagbaaGreatDoor
namespace Go.Proofs.YtkgnmddakiagbaaGreatDoor
open Go.RowKit
theorem any_at {α : Type} {f : α → Bool} {l : List α} {k : Nat} (h : k < l.length) : (l.drop k).any f = (f l[k] || (l.drop (k + 1)).any f) := by
  rw [List.drop_eq_getElem_cons h]; rfl
end Go.Proofs.YtkgnmddakiagbaaGreatDoor
namespace Go.Proofs.YtkgnmddakiagbaaGreatDoor
open Go.RowKit
section
variable {P : Program} {w w' : World} {B B' size : Nat} {A : Option Addr} {l : List (List Value)}
theorem wp_append_new {o : Oper} {a : Act} {K : Act → World → Prop} {Q : Exit → Act → World → Prop} (s x : Operand) (t : TypeId)
    (ho : o.op = .call { callee := .builtin .append, args := #[s, x], argTypes := #[t, t] })
    (e : TypeId) (i : TypeInfo) (z : Value) (size bytes : Nat) (ht : P.underlying t = some (.slice e)) (hi : P.info? e = some i) (hz : i.zero = some z)
    (hsize : i.size = size) (hby : i.bytes = bytes) (hzs : z.cells.size = size) (hsz : 0 < size)
    (g : Nat) (hs : a.eval s = .slice (some ⟨g, 0, none⟩) 0 0) (hown : Blk w g e #[])
    (B : Nat) (A : Option Addr) (l : List (List Value)) (m c : Nat) (hx : a.eval x = .slice A m c) (hm : m = l.length) (hr : Rd w B size A l) (hl : ∀ r ∈ l, r.length = size) (h1 : ∀ r ∈ l, ∀ u ∈ r, u.oneCell' = true)
    (h63 : l.length ≤ maxLen) (hbytes : l.length * bytes ≤ 140737488355328)
    (h : ∀ A' c' w', Rd w' w'.heap.size size A' l → w.grownBy w' (some g) → ((∀ ad, A' = some ad → (ad.block = g ∨ ad.block = w.heap.size) ∧ ad.block < w'.heap.size) ∧ m ≤ c') → K (a.put o.dst (.slice A' m c')) w') : o.wp P a w K Q := by
  subst hm
  have hO : w.ownsRow g e size (.slice (some ⟨g, 0, none⟩) 0 0) 0 [] := ⟨by simp, .inr ⟨g, 0, #[], rfl, Nat.le_refl _, hown, Nat.le_refl _, by simp, by simp, by simp⟩⟩
  obtain ⟨v', w', hrun, h2, h3, h4⟩ := run_append_rd (P := P) (A := A) (l := l) g t o.type e i z size bytes ht hi hz hsize hby hzs hsz _ 0 [] hO c hr hl h1 (by omega) (by simpa using hbytes) (Nat.le_of_lt hown.lt)
  obtain ⟨A', c', hv, hrd, hat, hcap⟩ := rd_of_own h2 hl (by simp) (by omega)
  rw [Nat.zero_add] at hv
  subst hv
  unfold Oper.wp execOp
  simp only [ho, resolve, invoke, builtin, Sem.run_bind, Sem.run_pure, Result.andThen_ok, List.map_toArray, List.map_cons, List.map_nil, hs, hx, hrun]
  refine h A' c' w' hrd h3 ⟨fun ad had => ?_, by omega⟩
  have := (hat ad had).1
  have hlt : ad.block < w'.heap.size := by
    rcases h2.2 with ⟨h, _⟩ | ⟨g', cap, cur, h, _, hh, _⟩
    · rw [h] at this; simp [Value.ownBlock] at this
    · rw [h] at this
      obtain rfl : g' = ad.block := by simpa [Value.ownBlock] using this
      rcases Nat.lt_or_ge ad.block w'.heap.size with hlt | hge
      · exact hlt
      · rw [Array.getElem?_eq_none hge] at hh; cases hh
  rw [this] at h4
  exact ⟨by simpa [Value.ownBlock] using h4, hlt⟩
theorem step_append_new {ops : Array Oper} {o : Oper} {a : Act} {K : Act → World → Prop} {Q : Exit → Act → World → Prop} {E : Prop} (hgd : o.guard = none) (s x : Operand) (t : TypeId)
    (ho : o.op = .call { callee := .builtin .append, args := #[s, x], argTypes := #[t, t] })
    (e : TypeId) (i : TypeInfo) (z : Value) (size bytes : Nat) (ht : P.underlying t = some (.slice e)) (hi : P.info? e = some i) (hz : i.zero = some z)
    (hsize : i.size = size) (hby : i.bytes = bytes) (hzs : z.cells.size = size) (hsz : 0 < size)
    (g : Nat) (hs : a.eval s = .slice (some ⟨g, 0, none⟩) 0 0) (hown : Blk w g e #[])
    (B : Nat) (A : Option Addr) (l : List (List Value)) (m c : Nat) (hx : a.eval x = .slice A m c) (hm : m = l.length) (hr : Rd w B size A l) (hl : ∀ r ∈ l, r.length = size) (h1 : ∀ r ∈ l, ∀ u ∈ r, u.oneCell' = true)
    (h63 : l.length ≤ maxLen) (hbytes : l.length * bytes ≤ 140737488355328)
    (h : ∀ A' c' w', Rd w' w'.heap.size size A' l → w.grownBy w' (some g) → ((∀ ad, A' = some ad → (ad.block = g ∨ ad.block = w.heap.size) ∧ ad.block < w'.heap.size) ∧ m ≤ c') → K (a.put o.dst (.slice A' m c')) w') :
    if Region.wanted o (yielded ops a.tmps) = true then Oper.wp P o a w K Q else E := by
  have hw : Region.wanted o (yielded ops a.tmps) = true := by simp [Region.wanted, hgd]
  rw [if_pos hw]
  exact wp_append_new s x t ho e i z size bytes ht hi hz hsize hby hzs hsz g hs hown B A l m c hx hm hr hl h1 h63 hbytes h
end
end Go.Proofs.YtkgnmddakiagbaaGreatDoor
namespace Go.Proofs.YtkgnmddakiagbaaGreatDoor
open Go.RowKit
theorem blk_there {w : World} {b n : Nat} {t : TypeId} {cs : Array Value} (h : Blk w b t cs) (hn : n ≤ cs.size) : w.there b 0 n := fun j hj => by
  rw [Nat.zero_add, h.cell, h.frozen]
  exact ⟨by rw [Array.getElem?_eq_getElem (by omega)]; rfl, rfl⟩
theorem there_drew {w : World} {b o n : Nat} (h : w.there b o n) : w.drew.there b o n := h
theorem there_grown {w w' : World} {b o n g : Nat} (h : w.there b o n) (hg : w.grownBy w' (some g)) (hne : b ≠ g) : w'.there b o n := fun j hj => by
  obtain ⟨h1, h2⟩ := h j hj
  obtain ⟨u, hu⟩ := Option.isSome_iff_exists.1 h1
  have hb := World.block_lt_of_cell? w _ hu
  have e := hg.block b hb (by simpa using hne)
  exact ⟨by rw [World.cell?_of_block (a := ⟨b, o + j, none⟩) e]; exact h1, by rw [World.frozen?_of_block (a := ⟨b, o + j, none⟩) e]; exact h2⟩
theorem there_setCell {w : World} {b o n : Nat} (h : w.there b o n) (p : Addr) (u : Value) : (w.setCell p u).there b o n := fun j hj => by
  obtain ⟨h1, h2⟩ := h j hj
  refine ⟨?_, by rw [World.frozen?_setCell]; exact h2⟩
  obtain ⟨v, hv⟩ := Option.isSome_iff_exists.1 h1
  by_cases e : p = (⟨b, o + j, none⟩ : Addr)
  · subst e; rw [World.cell?_setCell_same _ _ _ hv]; rfl
  · rw [World.cell?_setCell_other _ _ _ _ e, hv]; rfl
theorem there2 {w : World} {b : Nat} (h : w.there b 0 2) : ∃ u0 u1, w.cell? ⟨b, 0, none⟩ = some u0 ∧ w.cell? ⟨b, 1, none⟩ = some u1 ∧ w.frozen? ⟨b, 0, none⟩ = false ∧ w.frozen? ⟨b, 1, none⟩ = false := by
  obtain ⟨a1, a2⟩ := h 0 (by omega)
  obtain ⟨b1, b2⟩ := h 1 (by omega)
  obtain ⟨u0, h0⟩ := Option.isSome_iff_exists.1 a1
  obtain ⟨u1, h1⟩ := Option.isSome_iff_exists.1 b1
  exact ⟨u0, u1, h0, h1, a2, b2⟩
def Stay (b : Nat) (w w' : World) : Prop := b < w.heap.size ∧ w.heap.size ≤ w'.heap.size ∧ w'.heap[b]? = w.heap[b]?
theorem Stay.refl {b : Nat} {w : World} (h : b < w.heap.size) : Stay b w w := ⟨h, Nat.le_refl _, rfl⟩
theorem Stay.drew {b : Nat} {w w' : World} (h : Stay b w w') : Stay b w w'.drew := h
theorem Stay.alloc {b : Nat} {w w' : World} (h : Stay b w w') (o : Obj) : Stay b w (w'.alloc o) :=
  ⟨h.1, Nat.le_trans h.2.1 (by simp), (Below.heap_alloc _ _ _ (Nat.lt_of_lt_of_le h.1 h.2.1)).trans h.2.2⟩
theorem Stay.grown {b g : Nat} {w w' w'' : World} (h : Stay b w w') (hg : w'.grownBy w'' (some g)) (hne : b ≠ g) : Stay b w w'' :=
  ⟨h.1, Nat.le_trans h.2.1 hg.size, (hg.block b (Nat.lt_of_lt_of_le h.1 h.2.1) (by simpa using hne)).trans h.2.2⟩
theorem Stay.setCell {b : Nat} {w w' : World} (h : Stay b w w') {p : Addr} (hne : b ≠ p.block) (u : Value) : Stay b w (w'.setCell p u) :=
  ⟨h.1, by simpa [World.setCell] using h.2.1, (Below.heap_setCell _ _ _ _ hne).trans h.2.2⟩
theorem bel_grown {a w w' : World} {g : Nat} (h : Below a.heap.size a w) (hg : w.grownBy w' (some g)) (hr : a.heap.size ≤ g) : Below a.heap.size a w' := h.grown hg h.size (fun k e => by injection e with e; omega)
theorem Rd.stay {w w' : World} {size : Nat} {A : Option Addr} {l : List (List Value)} (h : Rd w w.heap.size size A l) (hs : ∀ ad, A = some ad → ad.block < w.heap.size → Stay ad.block w w') : Rd w' w'.heap.size size A l := fun hn => by
  obtain ⟨ad, e, hb, hc⟩ := h hn
  have s := hs ad e hb
  exact ⟨ad, e, Nat.lt_of_lt_of_le hb s.2.1, fun k r hr j u hu => (World.cell?_of_block (by rw [block_of_add]; exact s.2.2)).trans (hc k r hr j u hu)⟩
end Go.Proofs.YtkgnmddakiagbaaGreatDoor
namespace Go.Proofs.YtkgnmddakiagbaaGreatDoor
open Go.RowKit
section
variable {P : Program} {C : Cx} {σ σ' : St} {G G' : Gh} {a : Act} {w w' : World} {o oj : Oper} {d d0 : Tmp} {ops : Array Oper} {rest : List Oper} {Q : Exit → St → Prop} {j : Nat} {b c : Bool}
/-! What writes, whatever else is known. -/
end
theorem fin_cell {P : Program} {fn : Func} {C : Cx} {σ : St} {t : Tmp} {T T' : TypeId} {k n : Nat} {cells : List AV} {res : AV} (h : fn.results = #[.cell t T]) (hT : aggB P T = some true) (hn : sizeB P T = some n) (ht : look t σ.t = some (.pt k 0 0)) (hk : look k σ.M = some (.box T' cells)) (hl : cells.length = n) (hr : .ag cells = res) (hp : cells.all AV.pu0 = true) :
    QFin P fn C res .ret σ := by
  refine ⟨.inr rfl, fun G a w ok => ?_⟩
  subst hr
  obtain ⟨p, ep, p1, p2, p3⟩ := (ok.tm t _ ht).2.2.pt_of
  obtain ⟨_, _, g3, cs, Φ, g4, g5, _, _, g6⟩ := ok.ob k _ hk
  obtain rfl := addr_eq p1 p2 p3
  rw [Nat.zero_mul, Nat.zero_add] at ep
  refine ⟨.agg cs, G.F, ?_, fun _ _ h => h, ok.fw, fun _ _ h => .inl h, .ag _ _ g5 fun i av u x y => (pu0_bd (List.all_eq_true.1 hp av (List.mem_of_getElem? x)) 0).rp ((g6 i av u x y).r (pu0_own (List.all_eq_true.1 hp av (List.mem_of_getElem? x))))⟩
  unfold aggB at hT
  cases hu : P.underlying T with
  | none => simp [hu] at hT
  | some d =>
    refine results_cell_row h a.tmps w (G.b k) T' cs (0, 0) d ep g4 hu ?_ ?_
    · rw [hu] at hT; cases d <;> simp_all
    · have : sizeB P T = some cs.size := by rw [hn, g5, hl]
      exact this
end Go.Proofs.YtkgnmddakiagbaaGreatDoor
namespace Go.Proofs.YtkgnmddakiagbaaGreatDoor
open Go.RowKit
theorem take_map_succ {α β : Type} {f : α → β} {l : List α} {k : Nat} (h : k < l.length) : (l.take k).map f ++ [f l[k]] = (l.take (k + 1)).map f := by
  rw [List.take_succ_eq_append_getElem h, List.map_append]; rfl
end Go.Proofs.YtkgnmddakiagbaaGreatDoor
namespace Go.Proofs.YtkgnmddakiagbaaGreatDoor
open Go.RowKit
set_option maxHeartbeats 1600000
set_option maxRecDepth 100000
theorem infoCourse : (Tryz.prog.info? 109).map (fun i => (i.zero, i.size, i.bytes)) = some (some (.agg #[.int .i64 0, .int .i64 0, .bool false]), 3, 24) := by kernel_rfl
theorem infoInt : (Tryz.prog.info? 3).map (fun i => (i.zero, i.size, i.bytes)) = some (some (.int .i64 0), 1, 8) := by kernel_rfl
theorem crs_len (cs : List (Int × Int × Bool)) : ∀ r ∈ cs.map crsCells, r.length = 3 := by intro r h; obtain ⟨x, _, rfl⟩ := List.mem_map.1 h; rfl
theorem int_len (st : List Int) : ∀ r ∈ st.map intCell, r.length = 1 := by intro r h; obtain ⟨x, _, rfl⟩ := List.mem_map.1 h; rfl
theorem crs_one (cs : List (Int × Int × Bool)) : ∀ r ∈ cs.map crsCells, ∀ u ∈ r, u.oneCell' = true := by
  intro r h u hu; obtain ⟨x, _, rfl⟩ := List.mem_map.1 h
  simp only [crsCells, List.mem_cons, List.not_mem_nil, or_false] at hu
  rcases hu with rfl | rfl | rfl <;> rfl
theorem int_one (st : List Int) : ∀ r ∈ st.map intCell, ∀ u ∈ r, u.oneCell' = true := by
  intro r h u hu; obtain ⟨x, _, rfl⟩ := List.mem_map.1 h
  simp only [intCell, List.mem_cons, List.not_mem_nil, or_false] at hu
  rcases hu with rfl; rfl
def CopyIns (cs : List (Int × Int × Bool)) (st : List Int) (W : World) (e : Ending) (w' : World) : Prop :=
  ∃ (A1 A2 : Option Addr) (c1 c2 : Nat), e = .returned (.agg #[.slice A1 cs.length c1, .slice A2 st.length c2]) ∧ Below W.heap.size W w' ∧ InsAt w' w'.heap.size A1 A2 cs st ∧ (∀ ad, A1 = some ad → W.heap.size ≤ ad.block) ∧ (∀ ad, A2 = some ad → W.heap.size ≤ ad.block) ∧ cs.length ≤ c1 ∧ st.length ≤ c2
section
variable {w w' : World} {B g : Nat} {A1 A2 : Option Addr} {cs : List (Int × Int × Bool)} {st : List Int}
theorem hid_ins1 (h : InsS w B A1 A2 cs st) : Rd w B 3 A1 (cs.map crsCells) := h.out.1
theorem hid_ins2 (h : InsS w B A1 A2 cs st) : Rd w B 1 A2 (st.map intCell) := h.out.2
theorem hins_drew (h : InsS w B A1 A2 cs st) : InsS w.drew B A1 A2 cs st := ⟨h.out⟩
theorem hins_alloc (h : InsS w B A1 A2 cs st) (hB : B ≤ w.heap.size) (o : Obj) : InsS (w.alloc o) B A1 A2 cs st := ⟨h.out.alloc hB o⟩
theorem hins_grown (h : InsS w B A1 A2 cs st) (hg : w.grownBy w' (some g)) (hB : B ≤ w.heap.size) (hr : B ≤ g) : InsS w' B A1 A2 cs st :=
  ⟨⟨h.out.1.grown hg hB (fun k e => by injection e with e; omega), h.out.2.grown hg hB (fun k e => by injection e with e; omega)⟩⟩
theorem hins_setCell {p : Addr} {u : Value} (h : InsS w B A1 A2 cs st) (hB : B ≤ p.block) : InsS (w.setCell p u) B A1 A2 cs st := ⟨⟨h.out.1.setCell hB u, h.out.2.setCell hB u⟩⟩
end
theorem rInsCopy (A1 A2 : Option Addr) (cs : List (Int × Int × Bool)) (st : List Int) (c1 c2 : Nat) (w : World) (hI : InsAt w w.heap.size A1 A2 cs st) (hm1 : cs.length ≤ 64) (hm2 : st.length ≤ 64) :
    Calls Tryz.prog 51 #[.agg #[.slice A1 cs.length c1, .slice A2 st.length c2]] w (CopyIns cs st w) := by
  obtain ⟨i0, hi0, hz0, hz1, hz2⟩ := info_parts infoCourse
  obtain ⟨i1, hi1, hz3, hz4, hz5⟩ := info_parts infoInt
  obtain ⟨n1, hn1⟩ : ∃ n, cs.length = n := ⟨_, rfl⟩
  obtain ⟨n2, hn2⟩ : ∃ n, st.length = n := ⟨_, rfl⟩
  have HP : Hid (∀ e w', (∃ (A1 A2 : Option Addr) (c1 c2 : Nat), e = .returned (.agg #[.slice A1 n1 c1, .slice A2 n2 c2]) ∧ Below w.heap.size w w' ∧ InsAt w' w'.heap.size A1 A2 cs st ∧ (∀ ad, A1 = some ad → w.heap.size ≤ ad.block) ∧ (∀ ad, A2 = some ad → w.heap.size ≤ ad.block) ∧ n1 ≤ c1 ∧ n2 ≤ c2) → CopyIns cs st w e w') := by
    intro e w' ⟨x1, x2, x3, x4, h1, h2, h3, h4, h5, h6, h7⟩
    exact ⟨x1, x2, x3, x4, by rw [hn1, hn2]; exact h1, h2, h3, h4, h5, by rw [hn1]; exact h6, by rw [hn2]; exact h7⟩
  have HI : InsS w w.heap.size A1 A2 cs st := ⟨hI⟩
  rw [hn1, hn2]
  rw [hn1] at hm1
  rw [hn2] at hm2
  have HN1 := Lib.hid (show n1 = (cs.map crsCells).length by simp [hn1])
  have HN2 := Lib.hid (show n2 = (st.map intCell).length by simp [hn2])
  clear hn1 hn2 hI
  go_enter Tryz.func51, Tryz.ntmps51
  go_wp2_with fail
  have HT : ((w.alloc (Obj.cells #[Value.slice A1 n1 c1, Value.slice A2 n2 c2] 26)).alloc (Obj.cells #[Value.slice none 0 0, Value.slice none 0 0] 26)).there (w.heap.size + 1) 0 2 := blk_there (blk_new' (by simp)) (by simp)
  go_region_held3 (fun w' => w'.cell? ⟨w.heap.size, 0, none⟩ = some (.slice A1 n1 c1) ∧ w'.cell? ⟨w.heap.size, 1, none⟩ = some (.slice A2 n2 c2) ∧ InsS w' w.heap.size A1 A2 cs st ∧ w'.there (w.heap.size + 1) 0 2)
    (((try go_split_ands); (try dsimp only); refine ⟨?_, ?_, ?_, ?_⟩;
      (focus (first | (rw [hga.cell_far _ (by simp; omega) (by simp; omega)]; with_reducible assumption) | (rw [hgb.cell_far _ (by simp; omega) (by simp; omega)]; with_reducible assumption) | (rw [World.cell?_setCell_other _ _ _ _ (by simp), World.cell?_setCell_other _ _ _ _ (by simp)]; with_reducible assumption) | (go_keep; done))); (focus (first | (rw [hga.cell_far _ (by simp; omega) (by simp; omega)]; with_reducible assumption) | (rw [hgb.cell_far _ (by simp; omega) (by simp; omega)]; with_reducible assumption) | (rw [World.cell?_setCell_other _ _ _ _ (by simp), World.cell?_setCell_other _ _ _ _ (by simp)]; with_reducible assumption) | (go_keep; done)));
      (focus (repeat (first | with_reducible exact HI | with_reducible assumption | with_reducible refine hins_drew ?_ | with_reducible refine hins_alloc ?_ (by first | omega | (simp; done) | (simp; omega)) _ | with_reducible refine hins_setCell ?_ (by first | omega | (simp; done) | (simp; omega)) | with_reducible refine hins_grown ?_ (by assumption) (by first | omega | (simp; done) | (simp; omega)) (by first | omega | (simp; done) | (simp; omega)))));
      (focus (repeat (first | with_reducible exact HT | with_reducible assumption | with_reducible refine there_drew ?_ | with_reducible refine World.there_alloc ?_ _ | with_reducible refine there_setCell ?_ _ _ | with_reducible refine there_grown ?_ (by assumption) (by first | omega | (simp; done) | (simp; omega)))))))
    (first
      | (refine step_append_new (by rfl) _ _ 23 (by rfl) 109 i0 _ 3 24 Tryz.underlying23 hi0 hz0 hz1 hz2 rfl (by omega) _ (by rfl) (by repeat (first | with_reducible assumption | with_reducible refine Blk.drew ?_ | with_reducible exact blk_new' (by simp) | with_reducible refine Blk.alloc ?_ _ | with_reducible refine blk_grown ?_ (by assumption) (by first | omega | (simp; done) | (simp; omega)))) w.heap.size A1 (cs.map crsCells) n1 c1 (by rfl) HN1.out (hid_ins1 (by first | with_reducible assumption | (go_split_ands; with_reducible assumption))) (crs_len _) (crs_one _) (by rw [← HN1.out]; simp only [maxLen]; omega) (by rw [← HN1.out]; omega) ?_; intro Aa ca wa hra hga hata0; have hata := hata0.1; have HCA := Lib.hid hata0.2; clear hata0; obtain ⟨ub0, ub1, eb0, eb1, fb0, fb1⟩ := there2 (there_grown (by first | with_reducible assumption | (go_split_ands; with_reducible assumption)) hga (by first | omega | (simp; done) | (simp; omega))); have hsa : w.heap.size + 2 < wa.heap.size := (by have := hga.size; (try simp at this); omega))
      | (refine step_append_new (by rfl) _ _ 24 (by rfl) 3 i1 _ 1 8 Tryz.underlying24 hi1 hz3 hz4 hz5 rfl (by omega) _ (by rfl) (by repeat (first | with_reducible assumption | with_reducible refine Blk.drew ?_ | with_reducible exact blk_new' (by simp) | with_reducible refine Blk.alloc ?_ _ | with_reducible refine blk_grown ?_ (by assumption) (by first | omega | (simp; done) | (simp; omega)))) w.heap.size A2 (st.map intCell) n2 c2 (by rfl) HN2.out (hid_ins2 (by first | with_reducible assumption | (go_split_ands; with_reducible assumption))) (int_len _) (int_one _) (by rw [← HN2.out]; simp only [maxLen]; omega) (by rw [← HN2.out]; omega) ?_; intro Ab cb wb hrb hgb hatb0; have hatb := hatb0.1; have HCB := Lib.hid hatb0.2; clear hatb0; obtain ⟨ub0, ub1, eb0, eb1, fb0, fb1⟩ := there2 (there_grown (by first | with_reducible assumption | (go_split_ands; with_reducible assumption)) hgb (by first | omega | (simp; done) | (simp; omega))); have hsb : w.heap.size + 2 < wb.heap.size := (by have := hgb.size; (try simp at this); omega)))
  all_goals
    go_wp2_with fail
    refine bodyPost_ret (v := .agg #[.slice Aa n1 ca, .slice Ab n2 cb]) (by simp [results, Tryz.results51, go_sem, eb0, eb1]) rfl (HP.out _ _ ⟨Aa, Ab, ca, cb, rfl, (by repeat (first | with_reducible exact Below.refl _ _ | with_reducible refine Below.drew ?_ | with_reducible refine bel_alloc ?_ _ | with_reducible refine Below.setCell ?_ (by first | omega | (simp; done) | (simp; omega)) _ | with_reducible refine bel_grown ?_ (by assumption) (by first | omega | (simp; done) | (simp; omega)))), ⟨hra.stay (fun ad had hlt => ?_), hrb.stay (fun ad had hlt => ?_)⟩, fun ad had => ?_, fun ad had => ?_, HCA.out, HCB.out⟩)
    · have hh := (hata ad had).1
      try simp at hh
      repeat (first | with_reducible exact Stay.refl hlt | with_reducible refine Stay.drew ?_ | with_reducible refine Stay.alloc ?_ _ | with_reducible refine Stay.setCell ?_ (by first | omega | (simp; done) | (simp; omega)) _ | with_reducible refine Stay.grown ?_ (by assumption) (by first | omega | (simp; done) | (simp; omega)))
    · have hh := (hatb ad had).1
      try simp at hh
      repeat (first | with_reducible exact Stay.refl hlt | with_reducible refine Stay.drew ?_ | with_reducible refine Stay.alloc ?_ _ | with_reducible refine Stay.setCell ?_ (by first | omega | (simp; done) | (simp; omega)) _ | with_reducible refine Stay.grown ?_ (by assumption) (by first | omega | (simp; done) | (simp; omega)))
    · have hh := (hata ad had).1
      try simp at hh
      omega
    · have hh := (hatb ad had).1
      try simp at hh
      omega
end Go.Proofs.YtkgnmddakiagbaaGreatDoor
namespace Go.Proofs.YtkgnmddakiagbaaGreatDoor
open Go.RowKit
set_option maxRecDepth 100000
theorem eCrs_of (x : Int × Int × Bool) (j : Nat) (av : AV) (h : (eCrs x)[j]? = some av) : ∃ u, av = .sc u ∧ (crsCells x)[j]? = some u ∧ u.oneCell' = true := by
  match j with
  | 0 => cases h; exact ⟨_, rfl, rfl, rfl⟩
  | 1 => cases h; exact ⟨_, rfl, rfl, rfl⟩
  | 2 => cases h; exact ⟨_, rfl, rfl, rfl⟩
  | j + 3 => simp [eCrs] at h
theorem insCopy_FS (cs : List (Int × Int × Bool)) (st : List Int) (h1 : cs.length ≤ 64) (h2 : st.length ≤ 64) : Ctr Tryz.prog 51 [.ag (eIns cs st)] (.ag (eIns cs st)) := by
  intro w F vs hF hR
  match vs, hR.1 with
  | [v], _ =>
    have r := hR.2 0 _ v rfl rfl
    obtain ⟨xs, rfl, q1, q2⟩ : ∃ xs : Array Value, v = .agg xs ∧ xs.size = 2 ∧ ∀ (i : Nat) av u, (eIns cs st)[i]? = some av → xs[i]? = some u → RP F av u := by
      cases r with | ag l cs a b => exact ⟨cs, rfl, a, b⟩
    have g : ∀ i (h : i < 2), xs[i]? = some (xs[i]'(by omega)) := fun i h => Array.getElem?_eq_getElem (by omega)
    obtain ⟨A1, c1, A2, c2, e1, e2, hI⟩ := ins_of_rp hF (q2 0 _ _ rfl (g 0 (by omega))) (q2 1 _ _ rfl (g 1 (by omega)))
    have ex : xs = #[.slice A1 cs.length c1, .slice A2 st.length c2] := by
      apply Array.ext (by simp [q1])
      intro i hi hi2
      match i, (show i < 2 by omega) with
      | 0, _ => exact e1
      | 1, _ => exact e2
    rw [ex]
    refine (rInsCopy A1 A2 cs st c1 c2 w hI h1 h2).mono fun e w' ⟨B1, B2, d1, d2, he, hb, hI', f1, f2, k1, k2⟩ => ?_
    refine ⟨_, newF F w w', he, hb, newF_le hF, newF_fw hF hb, newF_new, .ag _ _ rfl fun i av u a b => ?_⟩
    match i with
    | 0 => cases a; cases b; exact rp_of_rd hI'.1 f1 k1 (fun _ => rfl) eCrs_of
    | 1 => cases a; cases b; exact rp_of_rd hI'.2 f2 k2 (fun _ => rfl) eInt_of
    | i + 2 => simp [eIns] at a
end Go.Proofs.YtkgnmddakiagbaaGreatDoor
namespace Go.Proofs.YtkgnmddakiagbaaGreatDoor
open Go.RowKit
set_option maxHeartbeats 1600000
set_option maxRecDepth 100000
theorem rRest_any (e : Ev) (S : Option Addr) (c : Nat) (w : World) : Calls Tryz.prog 130 #[evVal e S c] w (Ret (.bool (restB e)) w) := by
  obtain ⟨bar, val, dot, three, tie, stops⟩ := e
  unfold evVal restB
  simp only
  generalize stops.length = n
  cases tie
  all_goals
    cases hn : ((n : Int) == 0)
    all_goals
      have hn2 : (n == 0) = ((n : Int) == 0) := by rw [Bool.eq_iff_iff]; simp
      rw [hn2, hn]
      clear hn2
      go_enter Tryz.func130, Tryz.ntmps130
      go_wp2
      go_ret
      exact Ret.mk' rfl (by repeat (first | exact Below.refl _ _ | assumption | refine bel_drewN ?_ _ | refine Below.drew ?_ | refine bel_alloc ?_ _ | refine Below.setCell ?_ (by first | omega | (simp; done) | (simp; omega)) _ | refine bel_step ?_ (by assumption)))
theorem rHas_any (e : Ev) (S : Option Addr) (c : Nat) (x : Int) (w : World) (hS : StpsAt w w.heap.size S e.stops) (hn : e.stops.length ≤ 20) : Calls Tryz.prog 186 #[evVal e S c, .int .i64 x] w (Ret (.bool (hasB x e.stops)) w) := by
  obtain ⟨bar, val, dot, three, tie, stops⟩ := e
  unfold evVal
  simp only at *
  have HS := Lib.hid hS
  obtain ⟨n, hnn⟩ : ∃ n, stops.length = n := ⟨_, rfl⟩
  rw [hnn] at hn ⊢
  have HN := Lib.hid hnn
  obtain ⟨V, hV⟩ : ∃ V, hasB x stops = V := ⟨_, rfl⟩
  rw [hV]
  have HV := Lib.hid hV
  clear hV hnn hS
  go_enter Tryz.func186, Tryz.ntmps186
  go_wp2
  go_loop [5] (fun i => ∃ k : Nat, k ≤ n ∧ i = .int .i64 k ∧ V = hasB x (stops.drop k)) (fun i => n - (intOf i).toNat)
  case atStart => exact ⟨0, Nat.zero_le _, rfl, HV.out.symm⟩
  case round =>
    obtain ⟨k, hk, rfl, hs⟩ := hrel
    have HR := Lib.hid hs
    clear hs
    by_cases hlt : k < n
    · have hk2 : k < stops.length := by have := HN.out; omega
      obtain ⟨ad, hA, hb, hc, _⟩ := HS.out.stp hk2
      subst hA
      have hs2 := HR.out.trans (any_at hk2)
      generalize stops[k].1 = y at hc hs2
      have hc2 : ∀ o : Obj, (w.alloc o).cell? (ad.add (k * 5)) = some (.int .i64 y) := fun o => by
        rw [World.cell?_alloc_lt _ _ _ (by rw [block_of_add]; omega), hc]
      clear hc
      cases hyx : (y == x)
      · have HR2 := Lib.hid (hs2.trans (show _ = hasB x (stops.drop (k + 1)) by rw [hyx]; rfl))
        clear hs2
        go_wp2
        go_round
        case rel => exact ⟨k + 1, by omega, by go_num, HR2.out⟩
        case measure => simp [intOf]; omega
      · have HE := Lib.hid (hs2.trans (show _ = true by rw [hyx]; rfl))
        clear hs2
        go_wp2
        go_ret
        exact Ret.mk' (by rw [HE.out]; rfl) (by repeat (first | exact Below.refl _ _ | assumption | refine bel_drewN ?_ _ | refine Below.drew ?_ | refine bel_alloc ?_ _ | refine Below.setCell ?_ (by first | omega | (simp; done) | (simp; omega)) _ | refine bel_step ?_ (by assumption)))
    · have HE := Lib.hid (HR.out.trans (show hasB x (stops.drop k) = false from by rw [List.drop_eq_nil_of_le (by have := HN.out; omega)]; rfl))
      go_wp2
      go_ret
      exact Ret.mk' (by rw [HE.out]; rfl) (by repeat (first | exact Below.refl _ _ | assumption | refine bel_drewN ?_ _ | refine Below.drew ?_ | refine bel_alloc ?_ _ | refine Below.setCell ?_ (by first | omega | (simp; done) | (simp; omega)) _ | refine bel_step ?_ (by assumption)))
theorem rLongest_any (M : PM) (p : Pce) (i x : Int) (w : World) (hP : PcAt w w.heap.size M p) (hO : PcOk p) :
    Calls Tryz.prog 154 #[pcValue M p, .int .i64 i, .int .i64 x] w (Ret (.int .i64 (longestN p.evs i x)) w) := by
  obtain ⟨A1, A2, A3, c1, c2, c3⟩ := M
  obtain ⟨cs, st, evs⟩ := p
  unfold pcValue
  have HP := Lib.hid hP.2.1
  have H4 := Lib.hid hO.n4
  have hn3 := hO.n3
  simp only at *
  generalize cs.length = n1
  generalize st.length = n2
  obtain ⟨n3, hnn⟩ : ∃ n, evs.length = n := ⟨_, rfl⟩
  rw [hnn] at hn3 ⊢
  have HN := Lib.hid hnn
  by_cases hi0 : i < 0
  · rw [longestN_out (.inl hi0)]
    clear hnn hP hO
    go_enter Tryz.func154, Tryz.ntmps154
    go_wp2
    go_ret
    exact Ret.mk' rfl (by repeat (first | exact Below.refl _ _ | assumption | refine bel_drewN ?_ _ | refine Below.drew ?_ | refine bel_alloc ?_ _ | refine Below.setCell ?_ (by first | omega | (simp; done) | (simp; omega)) _ | refine bel_step ?_ (by assumption)))
  · by_cases hi1 : (n3 : Int) ≤ i
    · rw [longestN_out (.inr (by omega))]
      clear hnn hP hO
      go_enter Tryz.func154, Tryz.ntmps154
      go_wp2
      go_ret
      exact Ret.mk' rfl (by repeat (first | exact Below.refl _ _ | assumption | refine bel_drewN ?_ _ | refine Below.drew ?_ | refine bel_alloc ?_ _ | refine Below.setCell ?_ (by first | omega | (simp; done) | (simp; omega)) _ | refine bel_step ?_ (by assumption)))
    · obtain ⟨j, rfl⟩ : ∃ j : Nat, i = j := ⟨i.toNat, by omega⟩
      have hj : j < n3 := by omega
      have d1 : decide ((j : Int) < 0) = false := decide_eq_false (by omega)
      have d2 : decide ((n3 : Int) ≤ (j : Int)) = false := decide_eq_false (by omega)
      have d3 : decide (n3 ≤ j) = false := decide_eq_false (by omega)
      rw [longestN_in (by omega)]
      obtain ⟨V, hV⟩ : ∃ V, runL x 15 (evs.drop (j + 1)) = V := ⟨_, rfl⟩
      rw [hV]
      have HV := Lib.hid hV
      clear hV hnn hP hO hi0 hi1
      go_enter Tryz.func154, Tryz.ntmps154
      go_wp2
      go_loopw [7] (fun v wr => ∃ h : Nat, h ≤ 15 ∧ j + 1 + h ≤ n3 ∧ v = .int .i64 h ∧ V = h + runL x (15 - h) (evs.drop (j + 1 + h)) ∧ Below w.heap.size w wr ∧ Blk wr w.heap.size 29 #[.slice A1 n1 c1, .slice A2 n2 c2, .slice A3 n3 c3])
        (fun v _ => 15 - (intOf v).toNat)
      case atStart => exact ⟨0, by omega, by omega, rfl, by simpa using HV.out.symm, (by repeat (first | exact Below.refl _ _ | assumption | refine bel_drewN ?_ _ | refine Below.drew ?_ | refine bel_alloc ?_ _ | refine Below.setCell ?_ (by first | omega | (simp; done) | (simp; omega)) _ | refine bel_step ?_ (by assumption))), Blk.new _ _ _⟩
      case round =>
        obtain ⟨h, hh, hjh, rfl, hs, hbel, hblk⟩ := hrel
        have HR := Lib.hid hs
        have HB := Lib.hid hblk
        have hlt : w.heap.size < wr.heap.size := hblk.lt
        have q0 : wr.cell? ⟨w.heap.size, 0, none⟩ = some (.slice A1 n1 c1) := hblk.cell 0
        have q1 : wr.cell? ⟨w.heap.size, 1, none⟩ = some (.slice A2 n2 c2) := hblk.cell 1
        have q2 : wr.cell? ⟨w.heap.size, 2, none⟩ = some (.slice A3 n3 c3) := hblk.cell 2
        clear hs hblk
        by_cases h15 : h < 15
        · by_cases hin : j + h + 1 < n3
          · have hk2 : j + h + 1 < evs.length := by have := HN.out; omega
            have HE := Lib.hid (HP.out.below hbel)
            obtain ⟨ad, S, c, hA, hb, e0, e1, e2, e3, e4, e5, hS⟩ := HE.out.ev hk2
            subst hA
            have hs2 := HR.out
            rw [show j + 1 + h = j + h + 1 from by omega] at hs2
            have HS := Lib.hid hS
            have H20 := H4.out _ hk2
            have hinI : (j : Int) + h + 1 < n3 := by omega
            have hidx : ((j : Int) + h + 1).toNat = j + h + 1 := by omega
            have HS2 := Lib.hid (fun (w' : World) (hb : Below wr.heap.size wr w') => ((HS.out.more hbel.size).after hb))
            have HC : (V = h ∧ (restB evs[j + h + 1] = true ∨ (restB evs[j + h + 1] = false ∧ hasB x evs[j + h + 1].stops = true))) ∨ (V = (h + 1) + runL x (15 - (h + 1)) (evs.drop (j + 1 + (h + 1))) ∧ restB evs[j + h + 1] = false ∧ hasB x evs[j + h + 1].stops = false) := by
              cases hr : restB evs[j + h + 1]
              · cases hq : hasB x evs[j + h + 1].stops
                · refine .inr ⟨?_, rfl, rfl⟩
                  rw [hs2, show 15 - h = (15 - (h + 1)) + 1 from by omega, runL_step hk2 (by rw [hr, hq]; rfl), show j + 1 + (h + 1) = j + h + 1 + 1 from by omega]
                  omega
                · exact .inl ⟨by rw [hs2, runL_stop hk2 (by rw [hr, hq]; rfl)]; rfl, .inr ⟨rfl, rfl⟩⟩
              · exact .inl ⟨by rw [hs2, runL_stop hk2 (by rw [hr]; rfl)]; rfl, .inl rfl⟩
            clear hs2 hS
            obtain ⟨e, he⟩ : ∃ e, evs[j + h + 1] = e := ⟨_, rfl⟩
            rw [he] at e0 e1 e2 e3 e4 e5 H20 HC
            rw [he] at HS2
            have R := fun w => rRest_any e S c w
            have HH := fun w hS => rHas_any e S c x w hS H20
            rcases HC with ⟨hv, hr | ⟨hr, hq⟩⟩ | ⟨hv, hr, hq⟩
            · rw [hr] at R
              have KR := Lib.hid R
              have HE2 := Lib.hid hv
              clear R HH hv he hr H20
              go_wp2_with (go_at_call 130; refine (KR.out _).mono ?_; rintro e' w1 ⟨rfl, hb1⟩; have k1 := (Blk.new _ _ _).after hb1; have x0 : w1.cell? ⟨wr.heap.size, 0, none⟩ = some (.bool e.bar) := k1.cell 0; have x1 : w1.cell? ⟨wr.heap.size, 1, none⟩ = some (.int .i64 e.val) := k1.cell 1; have x2 : w1.cell? ⟨wr.heap.size, 2, none⟩ = some (.bool e.dot) := k1.cell 2; have x3 : w1.cell? ⟨wr.heap.size, 3, none⟩ = some (.bool e.three) := k1.cell 3; have x4 : w1.cell? ⟨wr.heap.size, 4, none⟩ = some (.bool e.tie) := k1.cell 4; have x5 : w1.cell? ⟨wr.heap.size, 5, none⟩ = some (.slice S e.stops.length c) := k1.cell 5; clear k1)
              go_ret
              exact Ret.mk' (by rw [HE2.out]; rfl) (by repeat (first | exact Below.refl _ _ | assumption | refine bel_drewN ?_ _ | refine Below.drew ?_ | refine bel_alloc ?_ _ | refine Below.setCell ?_ (by first | omega | (simp; done) | (simp; omega)) _ | refine bel_step ?_ (by assumption)))
            · rw [hr] at R
              rw [hq] at HH
              have KR := Lib.hid R
              have KH := Lib.hid HH
              have HE2 := Lib.hid hv
              clear R HH hv he hr hq H20
              go_wp2_with (first | (go_at_call 130; refine (KR.out _).mono ?_; rintro e' w1 ⟨rfl, hb1⟩; have k1 := (Blk.new _ _ _).after hb1; have x0 : w1.cell? ⟨wr.heap.size, 0, none⟩ = some (.bool e.bar) := k1.cell 0; have x1 : w1.cell? ⟨wr.heap.size, 1, none⟩ = some (.int .i64 e.val) := k1.cell 1; have x2 : w1.cell? ⟨wr.heap.size, 2, none⟩ = some (.bool e.dot) := k1.cell 2; have x3 : w1.cell? ⟨wr.heap.size, 3, none⟩ = some (.bool e.three) := k1.cell 3; have x4 : w1.cell? ⟨wr.heap.size, 4, none⟩ = some (.bool e.tie) := k1.cell 4; have x5 : w1.cell? ⟨wr.heap.size, 5, none⟩ = some (.slice S e.stops.length c) := k1.cell 5; clear k1) | (go_at_call 186; refine (KH.out _ (HS2.out _ (by repeat (first | exact Below.refl _ _ | assumption | refine bel_drewN ?_ _ | refine Below.drew ?_ | refine bel_alloc ?_ _ | refine Below.setCell ?_ (by first | omega | (simp; done) | (simp; omega)) _ | refine bel_step ?_ (by assumption))))).mono ?_; rintro e' w2 ⟨rfl, hb2⟩))
              go_ret
              exact Ret.mk' (by rw [HE2.out]; rfl) (by repeat (first | exact Below.refl _ _ | assumption | refine bel_drewN ?_ _ | refine Below.drew ?_ | refine bel_alloc ?_ _ | refine Below.setCell ?_ (by first | omega | (simp; done) | (simp; omega)) _ | refine bel_step ?_ (by assumption)))
            · rw [hr] at R
              rw [hq] at HH
              have KR := Lib.hid R
              have KH := Lib.hid HH
              have HE2 := Lib.hid hv
              clear R HH hv he hr hq H20
              go_wp2_with (first | (go_at_call 130; refine (KR.out _).mono ?_; rintro e' w1 ⟨rfl, hb1⟩; have k1 := (Blk.new _ _ _).after hb1; have x0 : w1.cell? ⟨wr.heap.size, 0, none⟩ = some (.bool e.bar) := k1.cell 0; have x1 : w1.cell? ⟨wr.heap.size, 1, none⟩ = some (.int .i64 e.val) := k1.cell 1; have x2 : w1.cell? ⟨wr.heap.size, 2, none⟩ = some (.bool e.dot) := k1.cell 2; have x3 : w1.cell? ⟨wr.heap.size, 3, none⟩ = some (.bool e.three) := k1.cell 3; have x4 : w1.cell? ⟨wr.heap.size, 4, none⟩ = some (.bool e.tie) := k1.cell 4; have x5 : w1.cell? ⟨wr.heap.size, 5, none⟩ = some (.slice S e.stops.length c) := k1.cell 5; clear k1) | (go_at_call 186; refine (KH.out _ (HS2.out _ (by repeat (first | exact Below.refl _ _ | assumption | refine bel_drewN ?_ _ | refine Below.drew ?_ | refine bel_alloc ?_ _ | refine Below.setCell ?_ (by first | omega | (simp; done) | (simp; omega)) _ | refine bel_step ?_ (by assumption))))).mono ?_; rintro e' w2 ⟨rfl, hb2⟩))
              go_roundw
              case rel => exact ⟨h + 1, by omega, by omega, by go_num, HE2.out, (by repeat (first | exact Below.refl _ _ | assumption | refine bel_drewN ?_ _ | refine Below.drew ?_ | refine bel_alloc ?_ _ | refine Below.setCell ?_ (by first | omega | (simp; done) | (simp; omega)) _ | refine bel_step ?_ (by assumption))), ((HB.out.alloc _).after hb1).after hb2⟩
              case measure => simp [intOf]; omega
          · have HE := Lib.hid (HR.out.trans (show h + runL x (15 - h) (evs.drop (j + 1 + h)) = h from by rw [List.drop_eq_nil_of_le (by have := HN.out; omega), runL_nil]; rfl))
            have hinI : ¬ (j : Int) + h + 1 < n3 := by omega
            go_wp2
            go_ret
            exact Ret.mk' (by rw [HE.out]; rfl) (by repeat (first | exact Below.refl _ _ | assumption | refine bel_drewN ?_ _ | refine Below.drew ?_ | refine bel_alloc ?_ _ | refine Below.setCell ?_ (by first | omega | (simp; done) | (simp; omega)) _ | refine bel_step ?_ (by assumption)))
        · have HE := Lib.hid (HR.out.trans (show h + runL x (15 - h) (evs.drop (j + 1 + h)) = h from by rw [show 15 - h = 0 from by omega]; rfl))
          go_wp2
          go_ret
          exact Ret.mk' (by rw [HE.out]; rfl) (by repeat (first | exact Below.refl _ _ | assumption | refine bel_drewN ?_ _ | refine Below.drew ?_ | refine bel_alloc ?_ _ | refine Below.setCell ?_ (by first | omega | (simp; done) | (simp; omega)) _ | refine bel_step ?_ (by assumption)))
end Go.Proofs.YtkgnmddakiagbaaGreatDoor
namespace Go.Proofs.YtkgnmddakiagbaaGreatDoor
open Go.RowKit
set_option maxHeartbeats 1600000
set_option maxRecDepth 100000
theorem topOf_fret {st : List Int} {p : Int} {k : Nat} {o : Bool} (hk : k < st.length) : topOf st (p, (k : Int) + 1, o) = p + st[k] + if o then 12 else 0 := by
  unfold topOf
  have h0 : (0 : Int) < (k : Int) + 1 := by omega
  have : ((k : Int) + 1).toNat - 1 = k := by omega
  simp only [if_pos h0]
  rw [this, List.getD_eq_getElem?_getD, List.getElem?_eq_getElem hk]; rfl
theorem topOf_open {st : List Int} {p : Int} {o : Bool} : topOf st (p, 0, o) = p + if o then 12 else 0 := by unfold topOf; simp
theorem rInsCheck (A1 A2 : Option Addr) (cs : List (Int × Int × Bool)) (st : List Int) (n1 n2 c1 c2 : Nat) (w : World) (hI : InsAt w w.heap.size A1 A2 cs st) (hn1 : n1 = cs.length) (hn2 : n2 = st.length) :
    Calls Tryz.prog 93 #[.agg #[.slice A1 n1 c1, .slice A2 n2 c2]] w (Ret (.int .i64 (insE cs st)) w) := by
  by_cases hm1 : 14 < n1
  · rw [insE_many (.inl (by omega))]
    clear hn1 hn2 hI
    go_enter Tryz.func93, Tryz.ntmps93
    go_wp2
    go_ret
    exact Ret.mk' rfl (by repeat (first | exact Below.refl _ _ | assumption | refine bel_drewN ?_ _ | refine Below.drew ?_ | refine bel_alloc ?_ _ | refine Below.setCell ?_ (by first | omega | (simp; done) | (simp; omega)) _ | refine bel_step ?_ (by assumption)))
  · by_cases hm2 : 18 < n2
    · rw [insE_many (.inr (by omega))]
      clear hn1 hn2 hI
      go_enter Tryz.func93, Tryz.ntmps93
      go_wp2
      go_ret
      exact Ret.mk' rfl (by repeat (first | exact Below.refl _ _ | assumption | refine bel_drewN ?_ _ | refine Below.drew ?_ | refine bel_alloc ?_ _ | refine Below.setCell ?_ (by first | omega | (simp; done) | (simp; omega)) _ | refine bel_step ?_ (by assumption)))
    · by_cases hz : n1 = 0
      · rw [insE_none (by omega) (by omega)]
        subst hz
        clear hn1 hn2 hI
        go_enter Tryz.func93, Tryz.ntmps93
        go_wp2
        go_ret
        exact Ret.mk' rfl (by repeat (first | exact Below.refl _ _ | assumption | refine bel_drewN ?_ _ | refine Below.drew ?_ | refine bel_alloc ?_ _ | refine Below.setCell ?_ (by first | omega | (simp; done) | (simp; omega)) _ | refine bel_step ?_ (by assumption)))
      · have hnz : 0 < n1 := by omega
        have HI := Lib.hid hI
        have HN1 := Lib.hid hn1
        have HN2 := Lib.hid hn2
        have HE1 := Lib.hid (fun h => insE_steps (cs := cs) (st := st) (by omega) h)
        have HE2 := Lib.hid (fun h => insE_crs (cs := cs) (st := st) (by omega) (by omega) h)
        have h18 : st.length ≤ 18 := by omega
        have hi1 : n2 ≤ 18 := by omega
        have hi2 : n1 ≤ 14 := by omega
        clear hI hn1 hn2 hz hm1 hm2
        go_enter Tryz.func93, Tryz.ntmps93
        go_wp2
        go_loop [3, 4] (fun last i => ∃ (k : Nat) (x : Int), k ≤ n2 ∧ i = .int .i64 k ∧ last = .int .i64 x ∧ stepsBad 0 st = stepsBad x (st.drop k)) (fun _ i => n2 - (intOf i).toNat)
        case atStart => exact ⟨0, 0, Nat.zero_le _, rfl, rfl, rfl⟩
        case round =>
          obtain ⟨k, x, hk, rfl, rfl, hs⟩ := hrel
          have HS := Lib.hid hs
          clear hs
          by_cases hlt : k < n2
          · have hk2 : k < st.length := by have := HN2.out; omega
            obtain ⟨ad, hA, hb, hc⟩ := HI.out.step hk2
            subst hA
            have hs2 := HS.out.trans (stepsBad_at hk2)
            obtain ⟨y, hy⟩ : ∃ y, st[k] = y := ⟨_, rfl⟩
            rw [hy] at hc hs2
            have hc2 : ∀ o : Obj, (w.alloc o).cell? (ad.add k) = some (.int .i64 y) := fun o => by
              rw [World.cell?_alloc_lt _ _ _ (by rw [block_of_add]; omega), hc]
            clear hc hy
            by_cases hb1 : y ≤ x
            · have HE := Lib.hid (HE1.out (hs2.trans (by simp [hb1])))
              clear hs2
              go_wp2
              go_ret
              exact Ret.mk' (by rw [HE.out]; rfl) (by repeat (first | exact Below.refl _ _ | assumption | refine bel_drewN ?_ _ | refine Below.drew ?_ | refine bel_alloc ?_ _ | refine Below.setCell ?_ (by first | omega | (simp; done) | (simp; omega)) _ | refine bel_step ?_ (by assumption)))
            · by_cases hb2 : 127 < y
              · have HE := Lib.hid (HE1.out (hs2.trans (by simp [hb2])))
                clear hs2
                go_wp2
                go_ret
                exact Ret.mk' (by rw [HE.out]; rfl) (by repeat (first | exact Below.refl _ _ | assumption | refine bel_drewN ?_ _ | refine Below.drew ?_ | refine bel_alloc ?_ _ | refine Below.setCell ?_ (by first | omega | (simp; done) | (simp; omega)) _ | refine bel_step ?_ (by assumption)))
              · have HS3 := Lib.hid (hs2.trans (show _ = stepsBad y (st.drop (k + 1)) by simp [hb1, hb2]))
                clear hs2
                go_wp2
                go_round
                case rel => exact ⟨k + 1, y, by omega, by go_num, rfl, HS3.out⟩
                case measure => simp [intOf]; omega
          · have hsF : stepsBad 0 st = false := by
              have h := HS.out
              rw [h, List.drop_eq_nil_of_le (by have := HN2.out; omega)]; rfl
            have HE := Lib.hid (HE2.out hsF)
            have HBD := Lib.hid (stepsBad_bd (by omega) hsF)
            clear hsF
            go_wp2
            go_loopw [5] (fun i wr => ∃ k : Nat, k ≤ n1 ∧ i = .int .i64 k ∧ crsE st cs = crsE st (cs.drop k) ∧ Below w.heap.size w wr ∧ Blk wr w.heap.size 26 #[.slice A1 n1 c1, .slice A2 n2 c2]) (fun i _ => n1 - (intOf i).toNat)
            case atStart => exact ⟨0, Nat.zero_le _, rfl, rfl, (by repeat (first | exact Below.refl _ _ | assumption | refine bel_drewN ?_ _ | refine Below.drew ?_ | refine bel_alloc ?_ _ | refine Below.setCell ?_ (by first | omega | (simp; done) | (simp; omega)) _ | refine bel_step ?_ (by assumption))), Blk.new _ _ _⟩
            case round =>
              obtain ⟨j, hj, rfl, hs, hbel, hblk⟩ := hrel
              have HC := Lib.hid hs
              have HB := Lib.hid hblk
              have hlt3 : w.heap.size < wr.heap.size := hblk.lt
              have q0 : wr.cell? ⟨w.heap.size, 0, none⟩ = some (.slice A1 n1 c1) := hblk.cell 0
              have q1 : wr.cell? ⟨w.heap.size, 1, none⟩ = some (.slice A2 n2 c2) := hblk.cell 1
              clear hs hblk
              by_cases hlt2 : j < n1
              · have hj2 : j < cs.length := by have := HN1.out; omega
                have HI2 := Lib.hid (HI.out.below hbel)
                obtain ⟨ad, hA, hb, hc0, hc1, hc2⟩ := HI2.out.crs hj2
                subst hA
                have hs2 := HC.out.trans (crsE_at hj2)
                obtain ⟨⟨p, f, o⟩, hx⟩ : ∃ x, cs[j] = x := ⟨_, rfl⟩
                rw [hx] at hc0 hc1 hc2 hs2
                simp only at hc0 hc1 hc2 hs2
                have HI3 := Lib.hid (fun o => HI2.out.alloc (hbel.size) o)
                have hbel4 : ∀ o : Obj, Below w.heap.size w (wr.alloc o) := fun o => hbel.alloc hbel.size o
                have HB4 := Lib.hid (fun o => HB.out.alloc o)
                have hn3 : (st.length : Int) = n2 := by have := HN2.out; omega
                by_cases b1 : f < 0
                · have HE3 := Lib.hid (HE.out.trans (hs2.trans (if_pos (.inl b1))))
                  clear hs2
                  go_wp2
                  go_ret
                  exact Ret.mk' (by rw [HE3.out]; rfl) (by repeat (first | exact Below.refl _ _ | assumption | refine bel_drewN ?_ _ | refine Below.drew ?_ | refine bel_alloc ?_ _ | refine Below.setCell ?_ (by first | omega | (simp; done) | (simp; omega)) _ | refine bel_step ?_ (by assumption)))
                · by_cases b2 : (n2 : Int) < f
                  · have HE3 := Lib.hid (HE.out.trans (hs2.trans (if_pos (.inr (by omega)))))
                    clear hs2 hn3
                    go_wp2
                    go_ret
                    exact Ret.mk' (by rw [HE3.out]; rfl) (by repeat (first | exact Below.refl _ _ | assumption | refine bel_drewN ?_ _ | refine Below.drew ?_ | refine bel_alloc ?_ _ | refine Below.setCell ?_ (by first | omega | (simp; done) | (simp; omega)) _ | refine bel_step ?_ (by assumption)))
                  · rw [if_neg (by omega)] at hs2
                    by_cases b3 : p < 0
                    · have HE3 := Lib.hid (HE.out.trans (hs2.trans (if_pos (.inl (.inl b3)))))
                      clear hs2 hn3
                      go_wp2
                      go_ret
                      exact Ret.mk' (by rw [HE3.out]; rfl) (by repeat (first | exact Below.refl _ _ | assumption | refine bel_drewN ?_ _ | refine Below.drew ?_ | refine bel_alloc ?_ _ | refine Below.setCell ?_ (by first | omega | (simp; done) | (simp; omega)) _ | refine bel_step ?_ (by assumption)))
                    · by_cases b4 : 127 < p
                      · have HE3 := Lib.hid (HE.out.trans (hs2.trans (if_pos (.inl (.inr b4)))))
                        clear hs2 hn3
                        go_wp2
                        go_ret
                        exact Ret.mk' (by rw [HE3.out]; rfl) (by repeat (first | exact Below.refl _ _ | assumption | refine bel_drewN ?_ _ | refine Below.drew ?_ | refine bel_alloc ?_ _ | refine Below.setCell ?_ (by first | omega | (simp; done) | (simp; omega)) _ | refine bel_step ?_ (by assumption)))
                      · have hsz := hbel.size
                        by_cases b6 : 0 < f
                        · obtain ⟨i, hi⟩ : ∃ i : Nat, f = (i : Int) + 1 := ⟨f.toNat - 1, by omega⟩
                          subst hi
                          have hi2 : i < st.length := by omega
                          obtain ⟨ad2, hA, hb3, hc3⟩ := HI2.out.step hi2
                          subst hA
                          have hbd := HBD.out i hi2
                          rw [topOf_fret hi2] at hs2
                          have hi3 : i < n2 := by omega
                          obtain ⟨y, hy⟩ : ∃ y, st[i] = y := ⟨_, rfl⟩
                          rw [hy] at hc3 hs2 hbd
                          have hc4 : ∀ o : Obj, (wr.alloc o).cell? (ad2.add i) = some (.int .i64 y) := fun o => by
                            rw [World.cell?_alloc_lt _ _ _ (by rw [block_of_add]; omega), hc3]
                          clear hc3 hy hn3
                          by_cases b5 : 127 < p + y + if o then 12 else 0
                          · have HE3 := Lib.hid (HE.out.trans (hs2.trans (if_pos (.inr b5))))
                            clear hs2
                            cases o
                            all_goals
                              simp only [if_true, Bool.false_eq_true, if_false] at b5
                              go_wp2
                              go_ret
                              exact Ret.mk' (by rw [HE3.out]; rfl) (by repeat (first | exact Below.refl _ _ | assumption | refine bel_drewN ?_ _ | refine Below.drew ?_ | refine bel_alloc ?_ _ | refine Below.setCell ?_ (by first | omega | (simp; done) | (simp; omega)) _ | refine bel_step ?_ (by assumption)))
                          · rw [if_neg (by omega)] at hs2
                            have HS4 := Lib.hid hs2
                            clear hs2
                            cases o
                            all_goals
                              simp only [if_true, Bool.false_eq_true, if_false] at b5
                              go_wp2
                              go_roundw
                              case rel => exact ⟨j + 1, by omega, by go_num, HS4.out, (by repeat (first | exact Below.refl _ _ | assumption | refine bel_drewN ?_ _ | refine Below.drew ?_ | refine bel_alloc ?_ _ | refine Below.setCell ?_ (by first | omega | (simp; done) | (simp; omega)) _ | refine bel_step ?_ (by assumption))), HB4.out _⟩
                              case measure => simp [intOf]; omega
                        · have hi : f = 0 := by omega
                          subst hi
                          rw [topOf_open] at hs2
                          clear hn3
                          by_cases b5 : 127 < p + if o then 12 else 0
                          · have HE3 := Lib.hid (HE.out.trans (hs2.trans (if_pos (.inr b5))))
                            clear hs2
                            cases o
                            all_goals
                              simp only [if_true, Bool.false_eq_true, if_false] at b5
                              first
                              | omega
                              | (go_wp2
                                 go_ret
                                 exact Ret.mk' (by rw [HE3.out]; rfl) (by repeat (first | exact Below.refl _ _ | assumption | refine bel_drewN ?_ _ | refine Below.drew ?_ | refine bel_alloc ?_ _ | refine Below.setCell ?_ (by first | omega | (simp; done) | (simp; omega)) _ | refine bel_step ?_ (by assumption))))
                          · rw [if_neg (by omega)] at hs2
                            have HS4 := Lib.hid hs2
                            clear hs2
                            cases o
                            all_goals
                              simp only [if_true, Bool.false_eq_true, if_false] at b5
                              go_wp2
                              go_roundw
                              case rel => exact ⟨j + 1, by omega, by go_num, HS4.out, (by repeat (first | exact Below.refl _ _ | assumption | refine bel_drewN ?_ _ | refine Below.drew ?_ | refine bel_alloc ?_ _ | refine Below.setCell ?_ (by first | omega | (simp; done) | (simp; omega)) _ | refine bel_step ?_ (by assumption))), HB4.out _⟩
                              case measure => simp [intOf]; omega
              · have HE3 := Lib.hid (HE.out.trans (HC.out.trans (show crsE st (cs.drop j) = 0 from by rw [List.drop_eq_nil_of_le (by have := HN1.out; omega)]; rfl)))
                go_wp2
                go_ret
                exact Ret.mk' (by rw [HE3.out]; rfl) (by repeat (first | exact Below.refl _ _ | assumption | refine bel_drewN ?_ _ | refine Below.drew ?_ | refine bel_alloc ?_ _ | refine Below.setCell ?_ (by first | omega | (simp; done) | (simp; omega)) _ | refine bel_step ?_ (by assumption)))
end Go.Proofs.YtkgnmddakiagbaaGreatDoor
namespace Go.Proofs.YtkgnmddakiagbaaGreatDoor
open Go.RowKit
set_option maxRecDepth 100000
set_option maxHeartbeats 4000000
/-! Check of an instrument, as a contract over trees. -/
theorem rInsCheck_FS (cs : List (Int × Int × Bool)) (st : List Int) : Ctr Tryz.prog 93 [.ag (eIns cs st)] (.sc (.int .i64 (insE cs st))) :=
  Ctr.of_ins (post := []) rfl (fun _ => .sc _) fun w A1 A2 c1 c2 hI => rInsCheck A1 A2 cs st cs.length st.length c1 c2 w hI rfl rfl
end Go.Proofs.YtkgnmddakiagbaaGreatDoor
namespace Go.Proofs.YtkgnmddakiagbaaGreatDoor
open Go.RowKit
set_option maxHeartbeats 1600000
set_option maxRecDepth 100000
attribute [local go_sem] mk_bs bs_size bs_toList bs_append bs_extract
attribute [local simp] run_cut run_cut_to run_cut_from run_add_bs
theorem right_any (v : Int) (d t : Bool) (w : World) : Calls Tryz.prog 153 #[.agg #[.int .i64 v, .bool d, .bool t]] w (Ret (.bool (sgOk v d t)) w) := by
  by_cases h0 : v = 0
  · subst h0
    cases d <;> cases t
    all_goals
      go_enter Tryz.func153, Tryz.ntmps153
      go_wp2
      go_ret
      exact Ret.mk' rfl (by repeat (first | exact Below.refl _ _ | assumption | refine bel_drewN ?_ _ | refine Below.drew ?_ | refine bel_alloc ?_ _ | refine Below.setCell ?_ (by first | omega | (simp; done) | (simp; omega)) _ | refine bel_step ?_ (by assumption)))
  · have hb : (v == 0) = false := by simpa using h0
    have e : sgOk v d t = (decide (1 ≤ v) && decide (v ≤ 7) && !(d && t)) := by unfold sgOk; rw [hb]; simp
    rw [e]
    clear e
    by_cases h1 : 1 ≤ v
    · by_cases h7 : v ≤ 7
      · cases d <;> cases t
        all_goals
          go_enter Tryz.func153, Tryz.ntmps153
          go_wp2
          go_ret
          exact Ret.mk' (by simp [h1, h7]) (by repeat (first | exact Below.refl _ _ | assumption | refine bel_drewN ?_ _ | refine Below.drew ?_ | refine bel_alloc ?_ _ | refine Below.setCell ?_ (by first | omega | (simp; done) | (simp; omega)) _ | refine bel_step ?_ (by assumption)))
      · rw [show (decide (1 ≤ v) && decide (v ≤ 7) && !(d && t)) = false from by rw [decide_eq_false h7]; simp]
        go_enter Tryz.func153, Tryz.ntmps153
        go_wp2
        go_ret
        exact Ret.mk' rfl (by repeat (first | exact Below.refl _ _ | assumption | refine bel_drewN ?_ _ | refine Below.drew ?_ | refine bel_alloc ?_ _ | refine Below.setCell ?_ (by first | omega | (simp; done) | (simp; omega)) _ | refine bel_step ?_ (by assumption)))
    · rw [show (decide (1 ≤ v) && decide (v ≤ 7) && !(d && t)) = false from by rw [decide_eq_false h1]; simp]
      go_enter Tryz.func153, Tryz.ntmps153
      go_wp2
      go_ret
      exact Ret.mk' rfl (by repeat (first | exact Below.refl _ _ | assumption | refine bel_drewN ?_ _ | refine Below.drew ?_ | refine bel_alloc ?_ _ | refine Below.setCell ?_ (by first | omega | (simp; done) | (simp; omega)) _ | refine bel_step ?_ (by assumption)))
end Go.Proofs.YtkgnmddakiagbaaGreatDoor
namespace Go.Proofs.YtkgnmddakiagbaaGreatDoor
open Go.RowKit
set_option maxRecDepth 100000
set_option maxHeartbeats 8000000
theorem rRight2_FS (v : Int) (d t : Bool) : Ctr Tryz.prog 153 [.ag [.sc (.int .i64 v), .sc (.bool d), .sc (.bool t)]] (.sc (.bool (sgOk v d t))) := by
  intro w F vs hF hR
  match vs, hR.1 with
  | [x], _ =>
    obtain ⟨cs, rfl, h1, h2⟩ : ∃ cs : Array Value, x = .agg cs ∧ cs.size = 3 ∧ ∀ (i : Nat) av u, [AV.sc (.int .i64 v), .sc (.bool d), .sc (.bool t)][i]? = some av → cs[i]? = some u → RP F av u := by
      cases hR.2 0 _ x rfl rfl with | ag l cs a b => exact ⟨cs, rfl, a, b⟩
    have g : ∀ i (h : i < 3), cs[i]? = some (cs[i]'(by omega)) := fun i h => Array.getElem?_eq_getElem (by omega)
    have e : cs = #[.int .i64 v, .bool d, .bool t] := by
      apply Array.ext (by simp [h1])
      intro i hi hi2
      match i, (show i < 3 by omega) with
      | 0, _ => exact (h2 0 _ _ rfl (g 0 (by omega))).sc_eq
      | 1, _ => exact (h2 1 _ _ rfl (g 1 (by omega))).sc_eq
      | 2, _ => exact (h2 2 _ _ rfl (g 2 (by omega))).sc_eq
    subst e
    exact (right_any v d t w).mono fun e w' ⟨he, hb⟩ => ⟨_, F, he, hb, fun _ _ h => h, fun p u x => by rw [hb.cell (cell_block (hF p u x))]; exact hF p u x, fun _ _ h => .inl h, .sc _⟩
theorem rLong_FS (p : Pce) (hO : PcOk p) (i x : Int) : Ctr Tryz.prog 154 [ePce p, .sc (.int .i64 i), .sc (.int .i64 x)] (.sc (.int .i64 (longestN p.evs i x))) :=
  Ctr.of_pc (pre := []) (post := [.sc (.int .i64 i), .sc (.int .i64 x)]) rfl rfl (fun _ => .sc _) fun w M hM => rLongest_any M p i x w hM hO
end Go.Proofs.YtkgnmddakiagbaaGreatDoor
namespace Go.Proofs.YtkgnmddakiagbaaGreatDoor
open Go.RowKit
set_option maxRecDepth 100000
set_option maxHeartbeats 4000000
theorem pcCopy_FS (p : Pce) (hO : PcOk p) : Ctr Tryz.prog 14 [ePce p] (ePce p) := by
  refine Ctr.intro Tryz.func14 rfl Tryz.ntmps14 (Nat.le_of_ble_eq_true rfl) (bd_all rfl) fun w0 F0 => ?_
  have hn3 := hO.n3
  repeat refine W.go rfl ?_
  refine (?_ : WL _ _ _ _ _ _)
  dsimp only [St.put, Nat.reduceAdd]
  refine WL.vl rfl (WV.call rfl (callF Tryz.func51 rfl rfl) rfl rfl (insCopy_FS p.cs p.st hO.n1 hO.n2)) ?_
  repeat (first | refine W.go rfl ?_ | refine WL.ev rfl ?_)
  refine (?_ : W _ _ _ _ _)
  dsimp only [St.put, Nat.reduceAdd]
  refine W.tr (Tr.nilBox (k := 2) (j := 2) 78 6 rfl rfl rfl rfl) ?_
  refine W.loop (fun k : Nat => k ≤ p.evs.length) (fun k => ⟨[(1, .pt 0 0 0), (2, .pt 1 0 0), (3, .pt 2 0 0), (4, .sc (.int .i64 k))], [(0, .box 29 [.ls 3 (p.cs.map eCrs), .ls 1 (p.st.map eInt), .ls 6 (p.evs.map eEv)]), (1, .box 29 [.sc (.slice none 0 0), .sc (.slice none 0 0), .sc (.slice none 0 0)]), (2, .box 29 [.ls 3 (p.cs.map eCrs), .ls 1 (p.st.map eInt), .sl 3]), (3, .row 78 6 ((p.evs.take k).map eEv))], 4⟩) (fun k => p.evs.length - k) 0 (by omega) (Tr.ren id (by repeat (first | exact trivial | refine ⟨⟨?_, ?_⟩, ?_⟩ | rfl)) (by repeat (first | exact trivial | refine ⟨⟨?_, ?_, ?_⟩, ?_⟩ | rfl)) rfl) fun k hk => ?_
  repeat (first | refine W.go rfl ?_ | refine WL.ev rfl ?_ | refine WL.len rfl rfl (by first | exact List.length_map _ | exact List.length_replicate | rfl) ?_)
  refine (?_ : W _ _ _ _ _)
  dsimp only [St.put, Nat.reduceAdd]
  (refine W.cond rfl (fun hif => ?_) (fun hif => ?_) <;> (try simp only [decide_eq_true_eq, decide_eq_false_iff_not, Int.not_lt, Int.not_le, Bool.not_eq_true', Bool.not_eq_false'] at hif))
  · have hk2 : k < p.evs.length := by omega
    have h20 := hO.n4 k hk2
    repeat (first | refine W.go rfl ?_ | refine WL.ev rfl ?_ | refine WL.idx rfl rfl (by omega) (by first | exact map_at (by omega) | exact map_atZ (by omega) (by omega)) ?_ | refine WL.app rfl rfl rfl (by first | omega | (simp; done) | (simp; omega)) ?_)
    refine (?_ : WL _ _ _ _ _ _)
    dsimp only [St.put, Nat.reduceAdd]
    refine WL.tr (Tr.freeze 6 rfl) ?_
    repeat (first | refine W.go rfl ?_ | refine WL.ev rfl ?_ | refine WL.ar rfl rfl (by unfold I64; omega) ?_ | refine WL.app rfl rfl rfl (by first | omega | (simp; done) | (simp; omega)) ?_)
    dsimp only [St.put, Nat.reduceAdd]
    refine ⟨k + 1, by omega, by omega, Tr.ren (fun q => bif Nat.beq q 3 then 8 else q) (by repeat (first | exact trivial | refine ⟨⟨?_, ?_⟩, ?_⟩ | rfl)) (by repeat (first | exact trivial | refine ⟨⟨?_, ?_, ?_⟩, ?_⟩ | exact congrArg (fun r => some (AO.row _ _ r)) (take_map_succ hk2) | rfl)) rfl⟩
  · have he : k = p.evs.length := by omega
    subst he
    repeat refine W.go rfl ?_
    refine (?_ : W _ _ _ _ _)
    dsimp only [St.put, Nat.reduceAdd]
    refine W.tr (Tr.freeze 3 rfl) ?_
    refine W.ret (fin_cell rfl rfl rfl rfl rfl rfl ?_ rfl)
    show AV.ag [_, _, .ls 6 ((p.evs.take p.evs.length).map eEv)] = ePce p
    rw [List.take_length]
    rfl
end Go.Proofs.YtkgnmddakiagbaaGreatDoor
namespace Go.Proofs.YtkgnmddakiagbaaGreatDoor
open Go.RowKit
set_option maxHeartbeats 1600000
set_option maxRecDepth 100000
theorem big_any (M : PM) (p : Pce) (w : World) (hP : PcAt w w.heap.size M p) : Calls Tryz.prog 11 #[pcValue M p] w (Ret (.bool (bigB p)) w) := by
  obtain ⟨A1, A2, A3, c1, c2, c3⟩ := M
  obtain ⟨cs, st, evs⟩ := p
  unfold pcValue
  simp only at *
  have HP := Lib.hid hP.2.1
  obtain ⟨n1, hn1⟩ : ∃ n, cs.length = n := ⟨_, rfl⟩
  obtain ⟨n2, hn2⟩ : ∃ n, st.length = n := ⟨_, rfl⟩
  obtain ⟨n3, hn3⟩ : ∃ n, evs.length = n := ⟨_, rfl⟩
  have HN3 := Lib.hid hn3
  have hB : bigB ⟨cs, st, evs⟩ = (decide (64 < n1) || (decide (64 < n2) || (decide (420 < n3) || evs.any fun e => decide (20 < e.stops.length)))) := by unfold bigB; rw [hn1, hn2, hn3]
  rw [hB, hn1, hn2, hn3]
  clear hB hn1 hn2 hn3 hP
  by_cases b1 : 64 < n1
  · have e : (decide (64 < n1) || (decide (64 < n2) || (decide (420 < n3) || evs.any fun e => decide (20 < e.stops.length)))) = true := by simp [b1]
    rw [e]
    clear e
    go_enter Tryz.func11, Tryz.ntmps11
    go_wp2
    go_ret
    exact Ret.mk' rfl (by repeat (first | exact Below.refl _ _ | assumption | refine bel_drewN ?_ _ | refine Below.drew ?_ | refine bel_alloc ?_ _ | refine Below.setCell ?_ (by first | omega | (simp; done) | (simp; omega)) _ | refine bel_step ?_ (by assumption)))
  · by_cases b2 : 64 < n2
    · have e : (decide (64 < n1) || (decide (64 < n2) || (decide (420 < n3) || evs.any fun e => decide (20 < e.stops.length)))) = true := by simp [b2]
      rw [e]
      clear e
      go_enter Tryz.func11, Tryz.ntmps11
      go_wp2
      go_ret
      exact Ret.mk' rfl (by repeat (first | exact Below.refl _ _ | assumption | refine bel_drewN ?_ _ | refine Below.drew ?_ | refine bel_alloc ?_ _ | refine Below.setCell ?_ (by first | omega | (simp; done) | (simp; omega)) _ | refine bel_step ?_ (by assumption)))
    · by_cases b3 : 420 < n3
      · have e : (decide (64 < n1) || (decide (64 < n2) || (decide (420 < n3) || evs.any fun e => decide (20 < e.stops.length)))) = true := by simp [b3]
        rw [e]
        clear e
        go_enter Tryz.func11, Tryz.ntmps11
        go_wp2
        go_ret
        exact Ret.mk' rfl (by repeat (first | exact Below.refl _ _ | assumption | refine bel_drewN ?_ _ | refine Below.drew ?_ | refine bel_alloc ?_ _ | refine Below.setCell ?_ (by first | omega | (simp; done) | (simp; omega)) _ | refine bel_step ?_ (by assumption)))
      · have e : (decide (64 < n1) || (decide (64 < n2) || (decide (420 < n3) || evs.any fun e => decide (20 < e.stops.length)))) = evs.any fun e => decide (20 < e.stops.length) := by simp [b1, b2, b3]
        rw [e]
        clear e
        obtain ⟨V, hV⟩ : ∃ V, (evs.any fun e => decide (20 < e.stops.length)) = V := ⟨_, rfl⟩
        rw [hV]
        have HV := Lib.hid hV
        clear hV
        go_enter Tryz.func11, Tryz.ntmps11
        go_wp2
        go_loop [3] (fun i => ∃ k : Nat, k ≤ n3 ∧ i = .int .i64 k ∧ V = (evs.drop k).any fun e => decide (20 < e.stops.length)) (fun i => n3 - (intOf i).toNat)
        case atStart => exact ⟨0, Nat.zero_le _, rfl, HV.out.symm⟩
        case round =>
          obtain ⟨k, hk, rfl, hs⟩ := hrel
          have HS := Lib.hid hs
          clear hs
          by_cases hlt : k < n3
          · have hk2 : k < evs.length := by have := HN3.out; omega
            obtain ⟨ad, S, c, hA, hb, _, _, _, _, _, hc, _⟩ := HP.out.ev hk2
            subst hA
            have hs2 := HS.out.trans (any_at hk2)
            generalize evs[k] = e at hc hs2
            have hc2 : ∀ o : Obj, (w.alloc o).cell? ⟨(ad.add (k * 6)).block, (ad.add (k * 6)).off + 5, none⟩ = some (.slice S e.stops.length c) := fun o => by
              rw [World.cell?_alloc_lt _ _ _ (by rw [block_of_add]; omega), hc]
            clear hc
            generalize e.stops.length = n at *
            by_cases hb1 : 20 < n
            · have HE := Lib.hid (hs2.trans (show _ = true by simp [hb1]))
              clear hs2
              go_wp2
              go_ret
              exact Ret.mk' (by rw [HE.out]; rfl) (by repeat (first | exact Below.refl _ _ | assumption | refine bel_drewN ?_ _ | refine Below.drew ?_ | refine bel_alloc ?_ _ | refine Below.setCell ?_ (by first | omega | (simp; done) | (simp; omega)) _ | refine bel_step ?_ (by assumption)))
            · have HS3 := Lib.hid (hs2.trans (show _ = (evs.drop (k + 1)).any fun e => decide (20 < e.stops.length) by simp [hb1]))
              clear hs2
              go_wp2
              go_round
              case rel => exact ⟨k + 1, by omega, by go_num, HS3.out⟩
              case measure => simp [intOf]; omega
          · have HE := Lib.hid (HS.out.trans (show ((evs.drop k).any fun e => decide (20 < e.stops.length)) = false from by rw [List.drop_eq_nil_of_le (by have := HN3.out; omega)]; rfl))
            go_wp2
            go_ret
            exact Ret.mk' (by rw [HE.out]; rfl) (by repeat (first | exact Below.refl _ _ | assumption | refine bel_drewN ?_ _ | refine Below.drew ?_ | refine bel_alloc ?_ _ | refine Below.setCell ?_ (by first | omega | (simp; done) | (simp; omega)) _ | refine bel_step ?_ (by assumption)))
end Go.Proofs.YtkgnmddakiagbaaGreatDoor
namespace Go.Proofs.YtkgnmddakiagbaaGreatDoor
open Go.RowKit
set_option maxRecDepth 100000
set_option maxHeartbeats 4000000
theorem big_FS (p : Pce) : Ctr Tryz.prog 11 [ePce p] (.sc (.bool (bigB p))) :=
  Ctr.of_pc (pre := []) (post := []) rfl rfl (fun _ => .sc _) fun w M hM => big_any M p w hM
end Go.Proofs.YtkgnmddakiagbaaGreatDoor
