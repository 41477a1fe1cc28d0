/- Blocks that stay; a store into a variable of the call's own; for regions that draw their order. -/
import Derived.Test.YteldgllgagjciaaGreatApp
import Derived.Deep.MidRow
namespace Go.Proofs.YteldgllgagjciaaGreat
open Go.RowKit
set_option linter.unusedVariables false
theorem blk_there {w : World} {b n : Nat} {t : TypeId} {cs : Array Value} (h : Blk w b t cs) (hn : n ≤ cs.size) : w.there b 0 n := fun j hj => by
  rw [Nat.zero_add, h.cell, h.frozen]
  exact ⟨by rw [Array.getElem?_eq_getElem (by omega)]; rfl, rfl⟩
theorem there_drew {w : World} {b o n : Nat} (h : w.there b o n) : w.drew.there b o n := h
theorem there_grown {w w' : World} {b o n g : Nat} (h : w.there b o n) (hg : w.grownBy w' (some g)) (hne : b ≠ g) : w'.there b o n := fun j hj => by
  obtain ⟨h1, h2⟩ := h j hj
  obtain ⟨u, hu⟩ := Option.isSome_iff_exists.1 h1
  have hb := World.block_lt_of_cell? w _ hu
  have e := hg.block b hb (by simpa using hne)
  exact ⟨by rw [World.cell?_of_block (a := ⟨b, o + j, none⟩) e]; exact h1, by rw [World.frozen?_of_block (a := ⟨b, o + j, none⟩) e]; exact h2⟩
theorem setCells_heap : ∀ (vs : List Value) (b o : Nat) (w : World) (k : Nat), k ≠ b → (w.setCells b o vs).heap[k]? = w.heap[k]?
  | [], _, _, _, _, _ => rfl
  | v :: r, b, o, w, k, h => by rw [World.setCells, setCells_heap r b (o + 1) _ k h, Below.heap_setCell _ _ _ _ h]
theorem setCells_size : ∀ (vs : List Value) (b o : Nat) (w : World), (w.setCells b o vs).heap.size = w.heap.size
  | [], _, _, _ => rfl
  | v :: r, b, o, w => by rw [World.setCells, setCells_size r b (o + 1) _]; simp [World.setCell]
theorem bel_setCells {B : Nat} {a w : World} : ∀ (vs : List Value) (b o : Nat) (w : World), Below B a w → B ≤ b → Below B a (w.setCells b o vs)
  | [], _, _, _, h, _ => h
  | v :: r, b, o, w, h, hb => by rw [World.setCells]; exact bel_setCells (a := a) (w := w) r b (o + 1) _ (h.setCell hb v) hb
theorem cells_setCells {w : World} {b o : Nat} {vs : List Value} {p : Addr} (h : p.block ≠ b) : (w.setCells b o vs).cell? p = w.cell? p := World.cell?_of_block (setCells_heap vs b o w _ h)
theorem frozen_setCells {w : World} {b o : Nat} {vs : List Value} {p : Addr} (h : p.block ≠ b) : (w.setCells b o vs).frozen? p = w.frozen? p := World.frozen?_of_block (setCells_heap vs b o w _ h)
theorem step_store_mid {P : Program} {ops : Array Oper} {op : Oper} {a : Act} {w : World} {K : Act → World → Prop} {Q : Exit → Act → World → Prop} {E : Prop} (hgd : op.guard = none) (ty : TypeId) (x y : Operand) (ho : op.op = .store ty x y)
    (b o : Nat) (cells : Array Value) (hx : a.eval x = .pointer (some ⟨b, o, none⟩)) (hy : a.eval y = .agg cells)
    (ht : w.there b o cells.size) (hi : (P.info? ty).map (·.size) = some cells.size) (h1 : cells.all (·.oneCell') = true)
    (h : K (a.put op.dst undef) (w.setCells b o cells.toList)) : if Region.wanted op (yielded ops a.tmps) = true then Oper.wp P op a w K Q else E := by
  have hw : Region.wanted op (yielded ops a.tmps) = true := by simp [Region.wanted, hgd]
  rw [if_pos hw]
  exact wp_store_mid ty x y ho b o cells hx hy ht hi h1 h
theorem there_setCell {w : World} {b o n : Nat} (h : w.there b o n) (p : Addr) (u : Value) : (w.setCell p u).there b o n := fun j hj => by
  obtain ⟨h1, h2⟩ := h j hj
  refine ⟨?_, by rw [World.frozen?_setCell]; exact h2⟩
  obtain ⟨v, hv⟩ := Option.isSome_iff_exists.1 h1
  by_cases e : p = (⟨b, o + j, none⟩ : Addr)
  · subst e; rw [World.cell?_setCell_same _ _ _ hv]; rfl
  · rw [World.cell?_setCell_other _ _ _ _ e, hv]; rfl
theorem there2 {w : World} {b : Nat} (h : w.there b 0 2) : ∃ u0 u1, w.cell? ⟨b, 0, none⟩ = some u0 ∧ w.cell? ⟨b, 1, none⟩ = some u1 ∧ w.frozen? ⟨b, 0, none⟩ = false ∧ w.frozen? ⟨b, 1, none⟩ = false := by
  obtain ⟨a1, a2⟩ := h 0 (by omega)
  obtain ⟨b1, b2⟩ := h 1 (by omega)
  obtain ⟨u0, h0⟩ := Option.isSome_iff_exists.1 a1
  obtain ⟨u1, h1⟩ := Option.isSome_iff_exists.1 b1
  exact ⟨u0, u1, h0, h1, a2, b2⟩
/-- Block b is as it was. -/
def Stay (b : Nat) (w w' : World) : Prop := b < w.heap.size ∧ w.heap.size ≤ w'.heap.size ∧ w'.heap[b]? = w.heap[b]?
theorem Stay.refl {b : Nat} {w : World} (h : b < w.heap.size) : Stay b w w := ⟨h, Nat.le_refl _, rfl⟩
theorem Stay.drew {b : Nat} {w w' : World} (h : Stay b w w') : Stay b w w'.drew := h
theorem Stay.alloc {b : Nat} {w w' : World} (h : Stay b w w') (o : Obj) : Stay b w (w'.alloc o) :=
  ⟨h.1, Nat.le_trans h.2.1 (by simp), (Below.heap_alloc _ _ _ (Nat.lt_of_lt_of_le h.1 h.2.1)).trans h.2.2⟩
theorem Stay.grown {b g : Nat} {w w' w'' : World} (h : Stay b w w') (hg : w'.grownBy w'' (some g)) (hne : b ≠ g) : Stay b w w'' :=
  ⟨h.1, Nat.le_trans h.2.1 hg.size, (hg.block b (Nat.lt_of_lt_of_le h.1 h.2.1) (by simpa using hne)).trans h.2.2⟩
theorem Stay.setCells {b g o : Nat} {w w' : World} {vs : List Value} (h : Stay b w w') (hne : b ≠ g) : Stay b w (w'.setCells g o vs) :=
  ⟨h.1, by rw [setCells_size]; exact h.2.1, (setCells_heap vs g o w' b hne).trans h.2.2⟩
theorem Stay.setCell {b : Nat} {w w' : World} (h : Stay b w w') {p : Addr} (hne : b ≠ p.block) (u : Value) : Stay b w (w'.setCell p u) :=
  ⟨h.1, by simpa [World.setCell] using h.2.1, (Below.heap_setCell _ _ _ _ hne).trans h.2.2⟩
theorem bel_grown {a w w' : World} {g : Nat} (h : Below a.heap.size a w) (hg : w.grownBy w' (some g)) (hr : a.heap.size ≤ g) : Below a.heap.size a w' := h.grown hg h.size (fun k e => by injection e with e; omega)
theorem Stay.step {b : Nat} {w w' w'' : World} (h : Stay b w w') (hb : Below w'.heap.size w' w'') : Stay b w w'' := ⟨h.1, Nat.le_trans h.2.1 hb.size, (hb.block b (Nat.lt_of_lt_of_le h.1 h.2.1)).trans h.2.2⟩
theorem Rd.stay {w w' : World} {size : Nat} {A : Option Addr} {l : List (List Value)} (h : Rd w w.heap.size size A l) (hs : ∀ ad, A = some ad → ad.block < w.heap.size → Stay ad.block w w') : Rd w' w'.heap.size size A l := fun hn => by
  obtain ⟨ad, e, hb, hc⟩ := h hn
  have s := hs ad e hb
  exact ⟨ad, e, Nat.lt_of_lt_of_le hb s.2.1, fun k r hr j u hu => (World.cell?_of_block (by rw [block_of_add]; exact s.2.2)).trans (hc k r hr j u hu)⟩
theorem rd_block {w : World} {g : Nat} {t : TypeId} {cs : List Value} {size : Nat} (h : Blk w g t cs.toArray) (hs : cs.length = size) : Rd w w.heap.size size (some ⟨g, 0, none⟩) [cs] := fun _ => by
  refine ⟨⟨g, 0, none⟩, rfl, h.lt, fun k r hr j u hu => ?_⟩
  match k with
  | 0 =>
    obtain rfl : cs = r := by simpa using hr
    rw [Nat.zero_mul, Nat.zero_add, add_zero_addr, h.cell]
    simpa using hu
  | k + 1 => simp at hr
theorem wpList_append_rd {P : Program} {w : World} {ops : Array Oper} {rest : List Oper} {o : Oper} {a : Act} {Q : Exit → Act → World → Prop} (hgd : o.guard = none) (s x : Operand) (t : TypeId)
    (ho : o.op = .call { callee := .builtin .append, args := #[s, x], argTypes := #[t, t] })
    (base : Nat) (e : TypeId) (i : TypeInfo) (z : Value) (size bytes : Nat) (ht : P.underlying t = some (.slice e)) (hi : P.info? e = some i) (hz : i.zero = some z)
    (hsize : i.size = size) (hby : i.bytes = bytes) (hzs : z.cells.size = size) (hsz : 0 < size)
    (v : Value) (n : Nat) (L : List (List Value)) (hs : a.eval s = v) (hown : w.ownsRow base e size v n L.flatten) (hL : ∀ r ∈ L, r.length = size) (hn : n = L.length)
    (B : Nat) (A : Option Addr) (l : List (List Value)) (m c : Nat) (hx : a.eval x = .slice A m c) (hm : m = l.length) (hr : Rd w B size A l) (hl : ∀ r ∈ l, r.length = size) (h1 : ∀ r ∈ l, ∀ u ∈ r, u.oneCell' = true)
    (h63 : n + l.length ≤ maxLen) (hbytes : (n + l.length) * bytes ≤ 140737488355328) (hbase : base ≤ w.heap.size)
    (h : ∀ A' c' w', w'.ownsRow base e size (.slice A' (n + m) c') (n + m) (L ++ l).flatten → w.grownBy w' v.ownBlock → ((Value.slice A' (n + m) c').ownBlock = v.ownBlock ∨ (Value.slice A' (n + m) c').ownBlock = some w.heap.size) → wpList P ops Q rest (a.put o.dst (.slice A' (n + m) c')) w') :
    wpList P ops Q (o :: rest) a w :=
  wpList_plain hgd fun _ hK => by
    subst hm
    obtain ⟨v', w', hrun, h2, h3, h4⟩ := run_append_rd (P := P) (A := A) (l := l) base t o.type e i z size bytes ht hi hz hsize hby hzs hsz v n L.flatten hown c hr hl h1 h63 hbytes hbase
    rw [← List.flatten_append] at h2
    obtain ⟨A', c', hv, hrd, hat, hcap⟩ := rd_of_own (l := L ++ l) h2 (fun r hr => by rcases List.mem_append.1 hr with h | h; exact hL r h; exact hl r h) rfl (by simp [hn])
    subst hv
    unfold Oper.wp execOp
    simp only [ho, resolve, invoke, builtin, Sem.run_bind, Sem.run_pure, Result.andThen_ok, List.map_toArray, List.map_cons, List.map_nil, hs, hx, hrun]
    exact hK _ _ (h A' c' w' h2 h3 h4)
theorem own_keep {w w' : World} {base : Nat} {e : TypeId} {size n : Nat} {v : Value} {xs : List Value} (h : w.ownsRow base e size v n xs) (hk : ∀ g, v.ownBlock = some g → g < w.heap.size → w'.heap[g]? = w.heap[g]?) : w'.ownsRow base e size v n xs := by
  rcases h with ⟨h1, ⟨rfl, h2⟩ | ⟨g, cap, cur, rfl, hbg, hh, h3⟩⟩
  · exact ⟨h1, .inl ⟨rfl, h2⟩⟩
  · have hlt : g < w.heap.size := by
      rcases Nat.lt_or_ge g w.heap.size with hlt | hge
      · exact hlt
      · rw [Array.getElem?_eq_none hge] at hh; cases hh
    exact ⟨h1, .inr ⟨g, cap, cur, rfl, hbg, (hk g rfl hlt).trans hh, h3⟩⟩
theorem own_lt {w : World} {base : Nat} {e : TypeId} {size n : Nat} {v : Value} {xs : List Value} (h : w.ownsRow base e size v n xs) : ∀ g, v.ownBlock = some g → base ≤ g ∧ g < w.heap.size := by
  intro g hg
  rcases h.2 with ⟨rfl, _⟩ | ⟨g', cap, cur, rfl, hb, hh, _⟩
  · simp [Value.ownBlock] at hg
  · obtain rfl : g' = g := by simpa [Value.ownBlock] using hg
    refine ⟨hb, ?_⟩
    rcases Nat.lt_or_ge g' w.heap.size with hlt | hge
    · exact hlt
    · rw [Array.getElem?_eq_none hge] at hh; cases hh
end Go.Proofs.YteldgllgagjciaaGreat
