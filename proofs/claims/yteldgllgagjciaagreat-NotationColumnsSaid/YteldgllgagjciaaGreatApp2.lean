/- Blocks that stay; a store into a variable of the call's own; for regions that draw their order. -/
import Derived.Test.YteldgllgagjciaaGreatOwn
import Derived.Deep.Draws
import Derived.Deep.MidRow

/- A slice that reads as a list of rows of cells, nil let in: words of this seat. -/
namespace Go.Proofs.YteldgllgagjciaaGreat
open Go.RowKit
theorem block_of_add (a : Addr) (n : Nat) : (a.add n).block = a.block := by unfold Addr.add; split <;> rfl
theorem add_of_add (a : Addr) (i j : Nat) : (a.add i).add j = a.add (i + j) := by
  unfold Addr.add
  by_cases hi : i = 0 <;> by_cases hj : j = 0 <;> simp [hi, hj, Nat.add_assoc]
theorem add_field (ad : Addr) (i j : Nat) (h : 0 < j) : ad.add (i + j) = ⟨(ad.add i).block, (ad.add i).off + j, none⟩ := by
  rw [← add_of_add]
  generalize ad.add i = b
  unfold Addr.add
  rw [if_neg (by omega)]
/-- The slice at A holds the rows l, each of size cells, below block B. -/
def Rd (w : World) (B size : Nat) (A : Option Addr) (l : List (List Value)) : Prop :=
  0 < l.length → ∃ ad, A = some ad ∧ ad.block < B ∧ ∀ k r, l[k]? = some r → ∀ j u, r[j]? = some u → w.cell? (ad.add (k * size + j)) = some u
section
variable {w w' : World} {B B' size : Nat} {A : Option Addr} {l : List (List Value)}
theorem Rd.none_ : Rd w B size A [] := fun h => absurd h (by simp)
theorem Rd.at_ {k : Nat} (h : Rd w B size A l) (hk : k < l.length) : ∃ ad, A = some ad ∧ ad.block < B ∧ ∀ j u, (l[k])[j]? = some u → w.cell? (ad.add (k * size + j)) = some u := by
  obtain ⟨ad, e, hb, hc⟩ := h (by omega)
  exact ⟨ad, e, hb, fun j u hu => hc k _ (List.getElem?_eq_getElem hk) j u hu⟩
theorem Rd.keep (h : Rd w B size A l) (hk : ∀ p : Addr, p.block < B → w'.cell? p = w.cell? p) : Rd w' B size A l := fun hn => by
  obtain ⟨ad, e, hb, hc⟩ := h hn
  exact ⟨ad, e, hb, fun k r hr j u hu => (hk _ (by rw [block_of_add]; exact hb)).trans (hc k r hr j u hu)⟩
theorem Rd.more (h : Rd w B size A l) (hB : B ≤ B') : Rd w B' size A l := fun hn => by
  obtain ⟨ad, e, hb, hc⟩ := h hn
  exact ⟨ad, e, by omega, hc⟩
theorem Rd.below (h : Rd w B size A l) (hb : Below B w w') : Rd w' B size A l := h.keep fun _ hp => hb.cell hp
theorem Rd.drew (h : Rd w B size A l) : Rd w.drew B size A l := h
theorem Rd.drewN (h : Rd w B size A l) (k : Nat) : Rd (w.drewN k) B size A l := h
theorem Rd.alloc (h : Rd w B size A l) (hB : B ≤ w.heap.size) (o : Obj) : Rd (w.alloc o) B size A l := h.keep fun p hp => World.cell?_alloc_lt w o p (by omega)
theorem Rd.setCell (h : Rd w B size A l) {p : Addr} (hB : B ≤ p.block) (u : Value) : Rd (w.setCell p u) B size A l :=
  h.keep fun q hq => World.cell?_setCell_other w p q u (fun e => by subst e; omega)
theorem Rd.grown (h : Rd w B size A l) {row : Option Nat} (hg : w.grownBy w' row) (hB : B ≤ w.heap.size) (hr : ∀ g, row = some g → B ≤ g) : Rd w' B size A l :=
  h.keep fun p hp => World.cell?_of_block (hg.block p.block (by omega) (fun e => by have := hr _ e.symm; omega))
end
end Go.Proofs.YteldgllgagjciaaGreat

/- append to a row of the call's own, from a slice that reads as rows of cells. -/
namespace Go.Proofs.YteldgllgagjciaaGreat
open Go.RowKit
set_option linter.unusedVariables false
theorem flatten_at {size : Nat} : ∀ {l : List (List Value)}, (∀ r ∈ l, r.length = size) → ∀ k r, l[k]? = some r → ∀ j u, r[j]? = some u → l.flatten[k * size + j]? = some u := by
  intro l
  induction l with
  | nil => intro _ k r h; simp at h
  | cons x t ih =>
    intro hl k r hr j u hu
    have hx : x.length = size := hl x (by simp)
    cases k with
    | zero =>
      obtain rfl : x = r := by simpa using hr
      have hj : j < x.length := (List.getElem?_eq_some_iff.1 hu).1
      rw [List.flatten_cons, Nat.zero_mul, Nat.zero_add, List.getElem?_append_left hj]; exact hu
    | succ k =>
      have := ih (fun r h => hl r (by simp [h])) k r (by simpa using hr) j u hu
      rw [List.flatten_cons, List.getElem?_append_right (by rw [hx, Nat.succ_mul]; omega), hx, Nat.succ_mul]
      rw [show k * size + size + j - size = k * size + j from by omega]
      exact this
theorem flatten_len {size : Nat} : ∀ {l : List (List Value)}, (∀ r ∈ l, r.length = size) → l.flatten.length = l.length * size := by
  intro l
  induction l with
  | nil => intro _; simp
  | cons x t ih =>
    intro hl
    rw [List.flatten_cons, List.length_append, hl x (by simp), ih (fun r h => hl r (by simp [h])), List.length_cons, Nat.succ_mul]; omega
theorem flatten_mem {size : Nat} : ∀ {l : List (List Value)}, (∀ r ∈ l, r.length = size) → ∀ i u, l.flatten[i]? = some u → ∃ k r j, l[k]? = some r ∧ r[j]? = some u ∧ i = k * size + j := by
  intro l
  induction l with
  | nil => intro _ i u h; simp at h
  | cons x t ih =>
    intro hl i u h
    have hx : x.length = size := hl x (by simp)
    rw [List.flatten_cons] at h
    by_cases e : i < x.length
    · rw [List.getElem?_append_left e] at h
      exact ⟨0, x, i, by simp, h, by simp⟩
    · rw [List.getElem?_append_right (by omega)] at h
      obtain ⟨k, r, j, a, b, c⟩ := ih (fun r h => hl r (by simp [h])) _ _ h
      exact ⟨k + 1, r, j, by simpa using a, b, by rw [Nat.succ_mul]; omega⟩
section
variable {P : Program} {w w' : World} {B B' size : Nat} {A : Option Addr} {l : List (List Value)}
/-- A row of the call's own reads as its rows of cells. -/
theorem rd_of_own {base : Nat} {e : TypeId} {v : Value} {n : Nat} {xs : List Value} (h : w.ownsRow base e size v n xs) (hl : ∀ r ∈ l, r.length = size) (hxs : xs = l.flatten) (hn : n = l.length) :
    ∃ A c, v = .slice A n c ∧ Rd w w.heap.size size A l ∧ (∀ ad, A = some ad → v.ownBlock = some ad.block ∧ base ≤ ad.block) ∧ n ≤ c := by
  rcases h.2 with ⟨rfl, h0⟩ | ⟨g, cap, cur, rfl, hb, hh, hnc, hcm, hcs, ht⟩
  · subst h0
    have hnil : l = [] := List.eq_nil_of_length_eq_zero hn.symm
    subst hnil
    exact ⟨none, 0, rfl, Rd.none_, (fun ad h => by cases h), Nat.le_refl _⟩
  · refine ⟨some ⟨g, 0, none⟩, cap, rfl, fun hpos => ⟨⟨g, 0, none⟩, rfl, ?_, fun k r hr j u hu => ?_⟩, (fun ad h => by injection h with h; subst h; exact ⟨rfl, hb⟩), hnc⟩
    · show g < w.heap.size
      rcases Nat.lt_or_ge g w.heap.size with hlt | hge
      · exact hlt
      · rw [Array.getElem?_eq_none hge] at hh; cases hh
    · have h1 := flatten_at hl k r hr j u hu
      rw [← hxs, ← ht] at h1
      rw [add_zero_addr, cell_of_row w g _ cur e (0, 0) hh]
      rw [List.getElem?_take] at h1
      split at h1
      · simpa using h1
      · cases h1
theorem Rd.far (h : Rd w B size A l) (hk : ∀ ad, A = some ad → w'.heap[ad.block]? = w.heap[ad.block]?) (hB : B ≤ B') : Rd w' B' size A l := fun hn => by
  obtain ⟨ad, e, hb, hc⟩ := h hn
  exact ⟨ad, e, by omega, fun k r hr j u hu => (World.cell?_of_block (by rw [block_of_add]; exact hk ad e)).trans (hc k r hr j u hu)⟩
/-- append(own, xs...): the source nil, empty or not. -/
theorem run_append_rd (base : Nat) (t ty e : TypeId) (i : TypeInfo) (z : Value) (size bytes : Nat) (ht : P.underlying t = some (.slice e)) (hi : P.info? e = some i) (hz : i.zero = some z)
    (hsize : i.size = size) (hby : i.bytes = bytes) (hzs : z.cells.size = size) (hsz : 0 < size)
    (v : Value) (n : Nat) (xs : List Value) (hown : w.ownsRow base e size v n xs)
    (c : Nat) (hr : Rd w B size A l) (hl : ∀ r ∈ l, r.length = size) (h1 : ∀ r ∈ l, ∀ u ∈ r, u.oneCell' = true)
    (h63 : n + l.length ≤ maxLen) (hbytes : (n + l.length) * bytes ≤ 140737488355328) (hbase : base ≤ w.heap.size) :
    ∃ v' w', (Builtin.append_ #[t, t] ty #[v, .slice A l.length c]).run P w = .ok v' w' ∧ w'.ownsRow base e size v' (n + l.length) (xs ++ l.flatten) ∧ w.grownBy w' v.ownBlock ∧
      (v'.ownBlock = v.ownBlock ∨ v'.ownBlock = some w.heap.size) := by
  rcases A with _ | ad
  · have hm : l = [] := by
      rcases Nat.eq_zero_or_pos l.length with h0 | h0
      · exact List.eq_nil_of_length_eq_zero h0
      · obtain ⟨ad, h, _⟩ := hr h0
        cases h
    subst hm
    refine ⟨v, w, ?_, by simpa using hown, World.grownBy.refl w _, .inl rfl⟩
    rcases hown.2 with ⟨rfl, rfl⟩ | ⟨g, cap, cur, rfl, _, _, hnc, _⟩
    · simp [Builtin.append_, run_underlying ht, sizeOf, typeInfo, hi, Builtin.lenOf, Builtin.firstCells]
    · simp [Builtin.append_, run_underlying ht, sizeOf, typeInfo, hi, Builtin.lenOf, Builtin.firstCells, hnc, storeCells]
  · have hcells : ∀ j u, l.flatten[j]? = some u → w.cell? (ad.add j) = some u := by
      intro j u hu
      obtain ⟨k, r, q, hk, hq, rfl⟩ := flatten_mem hl j u hu
      have hpos : 0 < l.length := by have := (List.getElem?_eq_some_iff.1 hk).1; omega
      obtain ⟨ad', h, _, hc⟩ := hr hpos
      injection h with h
      subst h
      exact hc k r hk q u hq
    obtain ⟨v', w', hrun, h2, h3, _, h5⟩ := run_append_own_at (P := P) w base t ty e i z size bytes ht hi hz hsize hby hzs hsz v n xs hown ad l.length c l.flatten (flatten_len hl) hcells
      (fun u hu => by obtain ⟨r, hr1, hr2⟩ := List.mem_flatten.1 hu; exact h1 r hr1 u hr2) h63 hbytes hbase
    exact ⟨v', w', hrun, h2, h3, h5⟩
/-- append to an empty row: []T{}. -/
theorem wp_append_new {o : Oper} {a : Act} {K : Act → World → Prop} {Q : Exit → Act → World → Prop} (s x : Operand) (t : TypeId)
    (ho : o.op = .call { callee := .builtin .append, args := #[s, x], argTypes := #[t, t] })
    (e : TypeId) (i : TypeInfo) (z : Value) (size bytes : Nat) (ht : P.underlying t = some (.slice e)) (hi : P.info? e = some i) (hz : i.zero = some z)
    (hsize : i.size = size) (hby : i.bytes = bytes) (hzs : z.cells.size = size) (hsz : 0 < size)
    (g : Nat) (hs : a.eval s = .slice (some ⟨g, 0, none⟩) 0 0) (hown : Blk w g e #[])
    (B : Nat) (A : Option Addr) (l : List (List Value)) (m c : Nat) (hx : a.eval x = .slice A m c) (hm : m = l.length) (hr : Rd w B size A l) (hl : ∀ r ∈ l, r.length = size) (h1 : ∀ r ∈ l, ∀ u ∈ r, u.oneCell' = true)
    (h63 : l.length ≤ maxLen) (hbytes : l.length * bytes ≤ 140737488355328)
    (h : ∀ A' c' w', Rd w' w'.heap.size size A' l → w.grownBy w' (some g) → ((∀ ad, A' = some ad → (ad.block = g ∨ ad.block = w.heap.size) ∧ ad.block < w'.heap.size) ∧ m ≤ c') → K (a.put o.dst (.slice A' m c')) w') : o.wp P a w K Q := by
  subst hm
  have hO : w.ownsRow g e size (.slice (some ⟨g, 0, none⟩) 0 0) 0 [] := ⟨by simp, .inr ⟨g, 0, #[], rfl, Nat.le_refl _, hown, Nat.le_refl _, by simp, by simp, by simp⟩⟩
  obtain ⟨v', w', hrun, h2, h3, h4⟩ := run_append_rd (P := P) (A := A) (l := l) g t o.type e i z size bytes ht hi hz hsize hby hzs hsz _ 0 [] hO c hr hl h1 (by omega) (by simpa using hbytes) (Nat.le_of_lt hown.lt)
  obtain ⟨A', c', hv, hrd, hat, hcap⟩ := rd_of_own h2 hl (by simp) (by omega)
  rw [Nat.zero_add] at hv
  subst hv
  unfold Oper.wp execOp
  simp only [ho, resolve, invoke, builtin, Sem.run_bind, Sem.run_pure, Result.andThen_ok, List.map_toArray, List.map_cons, List.map_nil, hs, hx, hrun]
  refine h A' c' w' hrd h3 ⟨fun ad had => ?_, by omega⟩
  have := (hat ad had).1
  have hlt : ad.block < w'.heap.size := by
    rcases h2.2 with ⟨h, _⟩ | ⟨g', cap, cur, h, _, hh, _⟩
    · rw [h] at this; simp [Value.ownBlock] at this
    · rw [h] at this
      obtain rfl : g' = ad.block := by simpa [Value.ownBlock] using this
      rcases Nat.lt_or_ge ad.block w'.heap.size with hlt | hge
      · exact hlt
      · rw [Array.getElem?_eq_none hge] at hh; cases hh
  rw [this] at h4
  exact ⟨by simpa [Value.ownBlock] using h4, hlt⟩
theorem wpList_append_new {ops : Array Oper} {rest : List Oper} {o : Oper} {a : Act} {Q : Exit → Act → World → Prop} (hgd : o.guard = none) (s x : Operand) (t : TypeId)
    (ho : o.op = .call { callee := .builtin .append, args := #[s, x], argTypes := #[t, t] })
    (e : TypeId) (i : TypeInfo) (z : Value) (size bytes : Nat) (ht : P.underlying t = some (.slice e)) (hi : P.info? e = some i) (hz : i.zero = some z)
    (hsize : i.size = size) (hby : i.bytes = bytes) (hzs : z.cells.size = size) (hsz : 0 < size)
    (g : Nat) (hs : a.eval s = .slice (some ⟨g, 0, none⟩) 0 0) (hown : Blk w g e #[])
    (B : Nat) (A : Option Addr) (l : List (List Value)) (m c : Nat) (hx : a.eval x = .slice A m c) (hm : m = l.length) (hr : Rd w B size A l) (hl : ∀ r ∈ l, r.length = size) (h1 : ∀ r ∈ l, ∀ u ∈ r, u.oneCell' = true)
    (h63 : l.length ≤ maxLen) (hbytes : l.length * bytes ≤ 140737488355328)
    (h : ∀ A' c' w', Rd w' w'.heap.size size A' l → w.grownBy w' (some g) → ((∀ ad, A' = some ad → (ad.block = g ∨ ad.block = w.heap.size) ∧ ad.block < w'.heap.size) ∧ m ≤ c') → wpList P ops Q rest (a.put o.dst (.slice A' m c')) w') : wpList P ops Q (o :: rest) a w :=
  wpList_plain hgd fun _ hK => wp_append_new s x t ho e i z size bytes ht hi hz hsize hby hzs hsz g hs hown B A l m c hx hm hr hl h1 h63 hbytes fun A' c' w' h2 h3 h4 => hK _ _ (h A' c' w' h2 h3 h4)
theorem step_append_new {ops : Array Oper} {o : Oper} {a : Act} {K : Act → World → Prop} {Q : Exit → Act → World → Prop} {E : Prop} (hgd : o.guard = none) (s x : Operand) (t : TypeId)
    (ho : o.op = .call { callee := .builtin .append, args := #[s, x], argTypes := #[t, t] })
    (e : TypeId) (i : TypeInfo) (z : Value) (size bytes : Nat) (ht : P.underlying t = some (.slice e)) (hi : P.info? e = some i) (hz : i.zero = some z)
    (hsize : i.size = size) (hby : i.bytes = bytes) (hzs : z.cells.size = size) (hsz : 0 < size)
    (g : Nat) (hs : a.eval s = .slice (some ⟨g, 0, none⟩) 0 0) (hown : Blk w g e #[])
    (B : Nat) (A : Option Addr) (l : List (List Value)) (m c : Nat) (hx : a.eval x = .slice A m c) (hm : m = l.length) (hr : Rd w B size A l) (hl : ∀ r ∈ l, r.length = size) (h1 : ∀ r ∈ l, ∀ u ∈ r, u.oneCell' = true)
    (h63 : l.length ≤ maxLen) (hbytes : l.length * bytes ≤ 140737488355328)
    (h : ∀ A' c' w', Rd w' w'.heap.size size A' l → w.grownBy w' (some g) → ((∀ ad, A' = some ad → (ad.block = g ∨ ad.block = w.heap.size) ∧ ad.block < w'.heap.size) ∧ m ≤ c') → K (a.put o.dst (.slice A' m c')) w') :
    if Region.wanted o (yielded ops a.tmps) = true then Oper.wp P o a w K Q else E := by
  have hw : Region.wanted o (yielded ops a.tmps) = true := by simp [Region.wanted, hgd]
  rw [if_pos hw]
  exact wp_append_new s x t ho e i z size bytes ht hi hz hsize hby hzs hsz g hs hown B A l m c hx hm hr hl h1 h63 hbytes h
end
theorem blk_new' {w : World} {g : Nat} {t : TypeId} {cs : Array Value} (h : g = w.heap.size) : Blk (w.alloc (.cells cs t)) g t cs := by subst h; exact Blk.new _ _ _
theorem blk_grown {w w' : World} {g : Nat} {t : TypeId} {cs : Array Value} {row : Option Nat} (h : Blk w g t cs) (hb : w.grownBy w' row) (hg : some g ≠ row) : Blk w' g t cs := (hb.block g h.lt hg).trans h
end Go.Proofs.YteldgllgagjciaaGreat

namespace Go.Proofs.YteldgllgagjciaaGreat
open Go.RowKit
set_option linter.unusedVariables false
theorem blk_there {w : World} {b n : Nat} {t : TypeId} {cs : Array Value} (h : Blk w b t cs) (hn : n ≤ cs.size) : w.there b 0 n := fun j hj => by
  rw [Nat.zero_add, h.cell, h.frozen]
  exact ⟨by rw [Array.getElem?_eq_getElem (by omega)]; rfl, rfl⟩
theorem there_drew {w : World} {b o n : Nat} (h : w.there b o n) : w.drew.there b o n := h
theorem there_grown {w w' : World} {b o n g : Nat} (h : w.there b o n) (hg : w.grownBy w' (some g)) (hne : b ≠ g) : w'.there b o n := fun j hj => by
  obtain ⟨h1, h2⟩ := h j hj
  obtain ⟨u, hu⟩ := Option.isSome_iff_exists.1 h1
  have hb := World.block_lt_of_cell? w _ hu
  have e := hg.block b hb (by simpa using hne)
  exact ⟨by rw [World.cell?_of_block (a := ⟨b, o + j, none⟩) e]; exact h1, by rw [World.frozen?_of_block (a := ⟨b, o + j, none⟩) e]; exact h2⟩
theorem setCells_heap : ∀ (vs : List Value) (b o : Nat) (w : World) (k : Nat), k ≠ b → (w.setCells b o vs).heap[k]? = w.heap[k]?
  | [], _, _, _, _, _ => rfl
  | v :: r, b, o, w, k, h => by rw [World.setCells, setCells_heap r b (o + 1) _ k h, Below.heap_setCell _ _ _ _ h]
theorem setCells_size : ∀ (vs : List Value) (b o : Nat) (w : World), (w.setCells b o vs).heap.size = w.heap.size
  | [], _, _, _ => rfl
  | v :: r, b, o, w => by rw [World.setCells, setCells_size r b (o + 1) _]; simp [World.setCell]
theorem bel_setCells {B : Nat} {a w : World} : ∀ (vs : List Value) (b o : Nat) (w : World), Below B a w → B ≤ b → Below B a (w.setCells b o vs)
  | [], _, _, _, h, _ => h
  | v :: r, b, o, w, h, hb => by rw [World.setCells]; exact bel_setCells (a := a) (w := w) r b (o + 1) _ (h.setCell hb v) hb
theorem cells_setCells {w : World} {b o : Nat} {vs : List Value} {p : Addr} (h : p.block ≠ b) : (w.setCells b o vs).cell? p = w.cell? p := World.cell?_of_block (setCells_heap vs b o w _ h)
theorem frozen_setCells {w : World} {b o : Nat} {vs : List Value} {p : Addr} (h : p.block ≠ b) : (w.setCells b o vs).frozen? p = w.frozen? p := World.frozen?_of_block (setCells_heap vs b o w _ h)
theorem step_store_mid {P : Program} {ops : Array Oper} {op : Oper} {a : Act} {w : World} {K : Act → World → Prop} {Q : Exit → Act → World → Prop} {E : Prop} (hgd : op.guard = none) (ty : TypeId) (x y : Operand) (ho : op.op = .store ty x y)
    (b o : Nat) (cells : Array Value) (hx : a.eval x = .pointer (some ⟨b, o, none⟩)) (hy : a.eval y = .agg cells)
    (ht : w.there b o cells.size) (hi : (P.info? ty).map (·.size) = some cells.size) (h1 : cells.all (·.oneCell') = true)
    (h : K (a.put op.dst undef) (w.setCells b o cells.toList)) : if Region.wanted op (yielded ops a.tmps) = true then Oper.wp P op a w K Q else E := by
  have hw : Region.wanted op (yielded ops a.tmps) = true := by simp [Region.wanted, hgd]
  rw [if_pos hw]
  exact wp_store_mid ty x y ho b o cells hx hy ht hi h1 h
theorem there_setCell {w : World} {b o n : Nat} (h : w.there b o n) (p : Addr) (u : Value) : (w.setCell p u).there b o n := fun j hj => by
  obtain ⟨h1, h2⟩ := h j hj
  refine ⟨?_, by rw [World.frozen?_setCell]; exact h2⟩
  obtain ⟨v, hv⟩ := Option.isSome_iff_exists.1 h1
  by_cases e : p = (⟨b, o + j, none⟩ : Addr)
  · subst e; rw [World.cell?_setCell_same _ _ _ hv]; rfl
  · rw [World.cell?_setCell_other _ _ _ _ e, hv]; rfl
theorem there2 {w : World} {b : Nat} (h : w.there b 0 2) : ∃ u0 u1, w.cell? ⟨b, 0, none⟩ = some u0 ∧ w.cell? ⟨b, 1, none⟩ = some u1 ∧ w.frozen? ⟨b, 0, none⟩ = false ∧ w.frozen? ⟨b, 1, none⟩ = false := by
  obtain ⟨a1, a2⟩ := h 0 (by omega)
  obtain ⟨b1, b2⟩ := h 1 (by omega)
  obtain ⟨u0, h0⟩ := Option.isSome_iff_exists.1 a1
  obtain ⟨u1, h1⟩ := Option.isSome_iff_exists.1 b1
  exact ⟨u0, u1, h0, h1, a2, b2⟩
/-- Block b is as it was. -/
def Stay (b : Nat) (w w' : World) : Prop := b < w.heap.size ∧ w.heap.size ≤ w'.heap.size ∧ w'.heap[b]? = w.heap[b]?
theorem Stay.refl {b : Nat} {w : World} (h : b < w.heap.size) : Stay b w w := ⟨h, Nat.le_refl _, rfl⟩
theorem Stay.drew {b : Nat} {w w' : World} (h : Stay b w w') : Stay b w w'.drew := h
theorem Stay.alloc {b : Nat} {w w' : World} (h : Stay b w w') (o : Obj) : Stay b w (w'.alloc o) :=
  ⟨h.1, Nat.le_trans h.2.1 (by simp), (Below.heap_alloc _ _ _ (Nat.lt_of_lt_of_le h.1 h.2.1)).trans h.2.2⟩
theorem Stay.grown {b g : Nat} {w w' w'' : World} (h : Stay b w w') (hg : w'.grownBy w'' (some g)) (hne : b ≠ g) : Stay b w w'' :=
  ⟨h.1, Nat.le_trans h.2.1 hg.size, (hg.block b (Nat.lt_of_lt_of_le h.1 h.2.1) (by simpa using hne)).trans h.2.2⟩
theorem Stay.setCells {b g o : Nat} {w w' : World} {vs : List Value} (h : Stay b w w') (hne : b ≠ g) : Stay b w (w'.setCells g o vs) :=
  ⟨h.1, by rw [setCells_size]; exact h.2.1, (setCells_heap vs g o w' b hne).trans h.2.2⟩
theorem Stay.setCell {b : Nat} {w w' : World} (h : Stay b w w') {p : Addr} (hne : b ≠ p.block) (u : Value) : Stay b w (w'.setCell p u) :=
  ⟨h.1, by simpa [World.setCell] using h.2.1, (Below.heap_setCell _ _ _ _ hne).trans h.2.2⟩
theorem bel_grown {a w w' : World} {g : Nat} (h : Below a.heap.size a w) (hg : w.grownBy w' (some g)) (hr : a.heap.size ≤ g) : Below a.heap.size a w' := h.grown hg h.size (fun k e => by injection e with e; omega)
theorem Stay.step {b : Nat} {w w' w'' : World} (h : Stay b w w') (hb : Below w'.heap.size w' w'') : Stay b w w'' := ⟨h.1, Nat.le_trans h.2.1 hb.size, (hb.block b (Nat.lt_of_lt_of_le h.1 h.2.1)).trans h.2.2⟩
theorem Rd.stay {w w' : World} {size : Nat} {A : Option Addr} {l : List (List Value)} (h : Rd w w.heap.size size A l) (hs : ∀ ad, A = some ad → ad.block < w.heap.size → Stay ad.block w w') : Rd w' w'.heap.size size A l := fun hn => by
  obtain ⟨ad, e, hb, hc⟩ := h hn
  have s := hs ad e hb
  exact ⟨ad, e, Nat.lt_of_lt_of_le hb s.2.1, fun k r hr j u hu => (World.cell?_of_block (by rw [block_of_add]; exact s.2.2)).trans (hc k r hr j u hu)⟩
theorem rd_block {w : World} {g : Nat} {t : TypeId} {cs : List Value} {size : Nat} (h : Blk w g t cs.toArray) (hs : cs.length = size) : Rd w w.heap.size size (some ⟨g, 0, none⟩) [cs] := fun _ => by
  refine ⟨⟨g, 0, none⟩, rfl, h.lt, fun k r hr j u hu => ?_⟩
  match k with
  | 0 =>
    obtain rfl : cs = r := by simpa using hr
    rw [Nat.zero_mul, Nat.zero_add, add_zero_addr, h.cell]
    simpa using hu
  | k + 1 => simp at hr
theorem wpList_append_rd {P : Program} {w : World} {ops : Array Oper} {rest : List Oper} {o : Oper} {a : Act} {Q : Exit → Act → World → Prop} (hgd : o.guard = none) (s x : Operand) (t : TypeId)
    (ho : o.op = .call { callee := .builtin .append, args := #[s, x], argTypes := #[t, t] })
    (base : Nat) (e : TypeId) (i : TypeInfo) (z : Value) (size bytes : Nat) (ht : P.underlying t = some (.slice e)) (hi : P.info? e = some i) (hz : i.zero = some z)
    (hsize : i.size = size) (hby : i.bytes = bytes) (hzs : z.cells.size = size) (hsz : 0 < size)
    (v : Value) (n : Nat) (L : List (List Value)) (hs : a.eval s = v) (hown : w.ownsRow base e size v n L.flatten) (hL : ∀ r ∈ L, r.length = size) (hn : n = L.length)
    (B : Nat) (A : Option Addr) (l : List (List Value)) (m c : Nat) (hx : a.eval x = .slice A m c) (hm : m = l.length) (hr : Rd w B size A l) (hl : ∀ r ∈ l, r.length = size) (h1 : ∀ r ∈ l, ∀ u ∈ r, u.oneCell' = true)
    (h63 : n + l.length ≤ maxLen) (hbytes : (n + l.length) * bytes ≤ 140737488355328) (hbase : base ≤ w.heap.size)
    (h : ∀ A' c' w', w'.ownsRow base e size (.slice A' (n + m) c') (n + m) (L ++ l).flatten → w.grownBy w' v.ownBlock → ((Value.slice A' (n + m) c').ownBlock = v.ownBlock ∨ (Value.slice A' (n + m) c').ownBlock = some w.heap.size) → wpList P ops Q rest (a.put o.dst (.slice A' (n + m) c')) w') :
    wpList P ops Q (o :: rest) a w :=
  wpList_plain hgd fun _ hK => by
    subst hm
    obtain ⟨v', w', hrun, h2, h3, h4⟩ := run_append_rd (P := P) (A := A) (l := l) base t o.type e i z size bytes ht hi hz hsize hby hzs hsz v n L.flatten hown c hr hl h1 h63 hbytes hbase
    rw [← List.flatten_append] at h2
    obtain ⟨A', c', hv, hrd, hat, hcap⟩ := rd_of_own (l := L ++ l) h2 (fun r hr => by rcases List.mem_append.1 hr with h | h; exact hL r h; exact hl r h) rfl (by simp [hn])
    subst hv
    unfold Oper.wp execOp
    simp only [ho, resolve, invoke, builtin, Sem.run_bind, Sem.run_pure, Result.andThen_ok, List.map_toArray, List.map_cons, List.map_nil, hs, hx, hrun]
    exact hK _ _ (h A' c' w' h2 h3 h4)
theorem own_keep {w w' : World} {base : Nat} {e : TypeId} {size n : Nat} {v : Value} {xs : List Value} (h : w.ownsRow base e size v n xs) (hk : ∀ g, v.ownBlock = some g → g < w.heap.size → w'.heap[g]? = w.heap[g]?) : w'.ownsRow base e size v n xs := by
  rcases h with ⟨h1, ⟨rfl, h2⟩ | ⟨g, cap, cur, rfl, hbg, hh, h3⟩⟩
  · exact ⟨h1, .inl ⟨rfl, h2⟩⟩
  · have hlt : g < w.heap.size := by
      rcases Nat.lt_or_ge g w.heap.size with hlt | hge
      · exact hlt
      · rw [Array.getElem?_eq_none hge] at hh; cases hh
    exact ⟨h1, .inr ⟨g, cap, cur, rfl, hbg, (hk g rfl hlt).trans hh, h3⟩⟩
theorem own_lt {w : World} {base : Nat} {e : TypeId} {size n : Nat} {v : Value} {xs : List Value} (h : w.ownsRow base e size v n xs) : ∀ g, v.ownBlock = some g → base ≤ g ∧ g < w.heap.size := by
  intro g hg
  rcases h.2 with ⟨rfl, _⟩ | ⟨g', cap, cur, rfl, hb, hh, _⟩
  · simp [Value.ownBlock] at hg
  · obtain rfl : g' = g := by simpa [Value.ownBlock] using hg
    refine ⟨hb, ?_⟩
    rcases Nat.lt_or_ge g' w.heap.size with hlt | hge
    · exact hlt
    · rw [Array.getElem?_eq_none hge] at hh; cases hh
end Go.Proofs.YteldgllgagjciaaGreat
