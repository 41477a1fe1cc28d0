/- Check of an instrument: the program. -/
import Derived.Test.YtkgnmddakiagbaaGreatDoorCalmYq
import Derived.Deep.MidRow
import Derived.Lib.Hide
import Derived.Lib.FrozenHead
import Derived.Test.YtkgnmddakiagbaaGreatDoorProg
set_option linter.unusedVariables false
set_option linter.unusedSimpArgs false
namespace Go.Proofs.YtkgnmddakiagbaaGreatDoor
open Go.RowKit
theorem flatten_at {size : Nat} : ∀ {l : List (List Value)}, (∀ r ∈ l, r.length = size) → ∀ k r, l[k]? = some r → ∀ j u, r[j]? = some u → l.flatten[k * size + j]? = some u := by
  intro l
  induction l with
  | nil => intro _ k r h; simp at h
  | cons x t ih =>
    intro hl k r hr j u hu
    have hx : x.length = size := hl x (by simp)
    cases k with
    | zero =>
      obtain rfl : x = r := by simpa using hr
      have hj : j < x.length := (List.getElem?_eq_some_iff.1 hu).1
      rw [List.flatten_cons, Nat.zero_mul, Nat.zero_add, List.getElem?_append_left hj]; exact hu
    | succ k =>
      have := ih (fun r h => hl r (by simp [h])) k r (by simpa using hr) j u hu
      rw [List.flatten_cons, List.getElem?_append_right (by rw [hx, Nat.succ_mul]; omega), hx, Nat.succ_mul]
      rw [show k * size + size + j - size = k * size + j from by omega]
      exact this
theorem flatten_len {size : Nat} : ∀ {l : List (List Value)}, (∀ r ∈ l, r.length = size) → l.flatten.length = l.length * size := by
  intro l
  induction l with
  | nil => intro _; simp
  | cons x t ih =>
    intro hl
    rw [List.flatten_cons, List.length_append, hl x (by simp), ih (fun r h => hl r (by simp [h])), List.length_cons, Nat.succ_mul]; omega
theorem flatten_mem {size : Nat} : ∀ {l : List (List Value)}, (∀ r ∈ l, r.length = size) → ∀ i u, l.flatten[i]? = some u → ∃ k r j, l[k]? = some r ∧ r[j]? = some u ∧ i = k * size + j := by
  intro l
  induction l with
  | nil => intro _ i u h; simp at h
  | cons x t ih =>
    intro hl i u h
    have hx : x.length = size := hl x (by simp)
    rw [List.flatten_cons] at h
    by_cases e : i < x.length
    · rw [List.getElem?_append_left e] at h
      exact ⟨0, x, i, by simp, h, by simp⟩
    · rw [List.getElem?_append_right (by omega)] at h
      obtain ⟨k, r, j, a, b, c⟩ := ih (fun r h => hl r (by simp [h])) _ _ h
      exact ⟨k + 1, r, j, by simpa using a, b, by rw [Nat.succ_mul]; omega⟩
section
variable {P : Program} {w w' : World} {B B' size : Nat} {A : Option Addr} {l : List (List Value)}
theorem rd_of_own {base : Nat} {e : TypeId} {v : Value} {n : Nat} {xs : List Value} (h : w.ownsRow base e size v n xs) (hl : ∀ r ∈ l, r.length = size) (hxs : xs = l.flatten) (hn : n = l.length) :
    ∃ A c, v = .slice A n c ∧ Rd w w.heap.size size A l ∧ (∀ ad, A = some ad → v.ownBlock = some ad.block ∧ base ≤ ad.block) ∧ n ≤ c := by
  rcases h.2 with ⟨rfl, h0⟩ | ⟨g, cap, cur, rfl, hb, hh, hnc, hcm, hcs, ht⟩
  · subst h0
    have hnil : l = [] := List.eq_nil_of_length_eq_zero hn.symm
    subst hnil
    exact ⟨none, 0, rfl, Rd.none_, (fun ad h => by cases h), Nat.le_refl _⟩
  · refine ⟨some ⟨g, 0, none⟩, cap, rfl, fun hpos => ⟨⟨g, 0, none⟩, rfl, ?_, fun k r hr j u hu => ?_⟩, (fun ad h => by injection h with h; subst h; exact ⟨rfl, hb⟩), hnc⟩
    · show g < w.heap.size
      rcases Nat.lt_or_ge g w.heap.size with hlt | hge
      · exact hlt
      · rw [Array.getElem?_eq_none hge] at hh; cases hh
    · have h1 := flatten_at hl k r hr j u hu
      rw [← hxs, ← ht] at h1
      rw [add_zero_addr, cell_of_row w g _ cur e (0, 0) hh]
      rw [List.getElem?_take] at h1
      split at h1
      · simpa using h1
      · cases h1
theorem run_append_rd (base : Nat) (t ty e : TypeId) (i : TypeInfo) (z : Value) (size bytes : Nat) (ht : P.underlying t = some (.slice e)) (hi : P.info? e = some i) (hz : i.zero = some z)
    (hsize : i.size = size) (hby : i.bytes = bytes) (hzs : z.cells.size = size) (hsz : 0 < size)
    (v : Value) (n : Nat) (xs : List Value) (hown : w.ownsRow base e size v n xs)
    (c : Nat) (hr : Rd w B size A l) (hl : ∀ r ∈ l, r.length = size) (h1 : ∀ r ∈ l, ∀ u ∈ r, u.oneCell' = true)
    (h63 : n + l.length ≤ maxLen) (hbytes : (n + l.length) * bytes ≤ 140737488355328) (hbase : base ≤ w.heap.size) :
    ∃ v' w', (Builtin.append_ #[t, t] ty #[v, .slice A l.length c]).run P w = .ok v' w' ∧ w'.ownsRow base e size v' (n + l.length) (xs ++ l.flatten) ∧ w.grownBy w' v.ownBlock ∧
      (v'.ownBlock = v.ownBlock ∨ v'.ownBlock = some w.heap.size) := by
  rcases A with _ | ad
  · have hm : l = [] := by
      rcases Nat.eq_zero_or_pos l.length with h0 | h0
      · exact List.eq_nil_of_length_eq_zero h0
      · obtain ⟨ad, h, _⟩ := hr h0
        cases h
    subst hm
    refine ⟨v, w, ?_, by simpa using hown, World.grownBy.refl w _, .inl rfl⟩
    rcases hown.2 with ⟨rfl, rfl⟩ | ⟨g, cap, cur, rfl, _, _, hnc, _⟩
    · simp [Builtin.append_, run_underlying ht, sizeOf, typeInfo, hi, Builtin.lenOf, Builtin.firstCells]
    · simp [Builtin.append_, run_underlying ht, sizeOf, typeInfo, hi, Builtin.lenOf, Builtin.firstCells, hnc, storeCells]
  · have hcells : ∀ j u, l.flatten[j]? = some u → w.cell? (ad.add j) = some u := by
      intro j u hu
      obtain ⟨k, r, q, hk, hq, rfl⟩ := flatten_mem hl j u hu
      have hpos : 0 < l.length := by have := (List.getElem?_eq_some_iff.1 hk).1; omega
      obtain ⟨ad', h, _, hc⟩ := hr hpos
      injection h with h
      subst h
      exact hc k r hk q u hq
    obtain ⟨v', w', hrun, h2, h3, _, h5⟩ := run_append_own_at (P := P) w base t ty e i z size bytes ht hi hz hsize hby hzs hsz v n xs hown ad l.length c l.flatten (flatten_len hl) hcells
      (fun u hu => by obtain ⟨r, hr1, hr2⟩ := List.mem_flatten.1 hu; exact h1 r hr1 u hr2) h63 hbytes hbase
    exact ⟨v', w', hrun, h2, h3, h5⟩
theorem wp_append_new {o : Oper} {a : Act} {K : Act → World → Prop} {Q : Exit → Act → World → Prop} (s x : Operand) (t : TypeId)
    (ho : o.op = .call { callee := .builtin .append, args := #[s, x], argTypes := #[t, t] })
    (e : TypeId) (i : TypeInfo) (z : Value) (size bytes : Nat) (ht : P.underlying t = some (.slice e)) (hi : P.info? e = some i) (hz : i.zero = some z)
    (hsize : i.size = size) (hby : i.bytes = bytes) (hzs : z.cells.size = size) (hsz : 0 < size)
    (g : Nat) (hs : a.eval s = .slice (some ⟨g, 0, none⟩) 0 0) (hown : Blk w g e #[])
    (B : Nat) (A : Option Addr) (l : List (List Value)) (m c : Nat) (hx : a.eval x = .slice A m c) (hm : m = l.length) (hr : Rd w B size A l) (hl : ∀ r ∈ l, r.length = size) (h1 : ∀ r ∈ l, ∀ u ∈ r, u.oneCell' = true)
    (h63 : l.length ≤ maxLen) (hbytes : l.length * bytes ≤ 140737488355328)
    (h : ∀ A' c' w', Rd w' w'.heap.size size A' l → w.grownBy w' (some g) → ((∀ ad, A' = some ad → (ad.block = g ∨ ad.block = w.heap.size) ∧ ad.block < w'.heap.size) ∧ m ≤ c') → K (a.put o.dst (.slice A' m c')) w') : o.wp P a w K Q := by
  subst hm
  have hO : w.ownsRow g e size (.slice (some ⟨g, 0, none⟩) 0 0) 0 [] := ⟨by simp, .inr ⟨g, 0, #[], rfl, Nat.le_refl _, hown, Nat.le_refl _, by simp, by simp, by simp⟩⟩
  obtain ⟨v', w', hrun, h2, h3, h4⟩ := run_append_rd (P := P) (A := A) (l := l) g t o.type e i z size bytes ht hi hz hsize hby hzs hsz _ 0 [] hO c hr hl h1 (by omega) (by simpa using hbytes) (Nat.le_of_lt hown.lt)
  obtain ⟨A', c', hv, hrd, hat, hcap⟩ := rd_of_own h2 hl (by simp) (by omega)
  rw [Nat.zero_add] at hv
  subst hv
  unfold Oper.wp execOp
  simp only [ho, resolve, invoke, builtin, Sem.run_bind, Sem.run_pure, Result.andThen_ok, List.map_toArray, List.map_cons, List.map_nil, hs, hx, hrun]
  refine h A' c' w' hrd h3 ⟨fun ad had => ?_, by omega⟩
  have := (hat ad had).1
  have hlt : ad.block < w'.heap.size := by
    rcases h2.2 with ⟨h, _⟩ | ⟨g', cap, cur, h, _, hh, _⟩
    · rw [h] at this; simp [Value.ownBlock] at this
    · rw [h] at this
      obtain rfl : g' = ad.block := by simpa [Value.ownBlock] using this
      rcases Nat.lt_or_ge ad.block w'.heap.size with hlt | hge
      · exact hlt
      · rw [Array.getElem?_eq_none hge] at hh; cases hh
  rw [this] at h4
  exact ⟨by simpa [Value.ownBlock] using h4, hlt⟩
theorem step_append_new {ops : Array Oper} {o : Oper} {a : Act} {K : Act → World → Prop} {Q : Exit → Act → World → Prop} {E : Prop} (hgd : o.guard = none) (s x : Operand) (t : TypeId)
    (ho : o.op = .call { callee := .builtin .append, args := #[s, x], argTypes := #[t, t] })
    (e : TypeId) (i : TypeInfo) (z : Value) (size bytes : Nat) (ht : P.underlying t = some (.slice e)) (hi : P.info? e = some i) (hz : i.zero = some z)
    (hsize : i.size = size) (hby : i.bytes = bytes) (hzs : z.cells.size = size) (hsz : 0 < size)
    (g : Nat) (hs : a.eval s = .slice (some ⟨g, 0, none⟩) 0 0) (hown : Blk w g e #[])
    (B : Nat) (A : Option Addr) (l : List (List Value)) (m c : Nat) (hx : a.eval x = .slice A m c) (hm : m = l.length) (hr : Rd w B size A l) (hl : ∀ r ∈ l, r.length = size) (h1 : ∀ r ∈ l, ∀ u ∈ r, u.oneCell' = true)
    (h63 : l.length ≤ maxLen) (hbytes : l.length * bytes ≤ 140737488355328)
    (h : ∀ A' c' w', Rd w' w'.heap.size size A' l → w.grownBy w' (some g) → ((∀ ad, A' = some ad → (ad.block = g ∨ ad.block = w.heap.size) ∧ ad.block < w'.heap.size) ∧ m ≤ c') → K (a.put o.dst (.slice A' m c')) w') :
    if Region.wanted o (yielded ops a.tmps) = true then Oper.wp P o a w K Q else E := by
  have hw : Region.wanted o (yielded ops a.tmps) = true := by simp [Region.wanted, hgd]
  rw [if_pos hw]
  exact wp_append_new s x t ho e i z size bytes ht hi hz hsize hby hzs hsz g hs hown B A l m c hx hm hr hl h1 h63 hbytes h
end
theorem blk_new' {w : World} {g : Nat} {t : TypeId} {cs : Array Value} (h : g = w.heap.size) : Blk (w.alloc (.cells cs t)) g t cs := by subst h; exact Blk.new _ _ _
theorem blk_grown {w w' : World} {g : Nat} {t : TypeId} {cs : Array Value} {row : Option Nat} (h : Blk w g t cs) (hb : w.grownBy w' row) (hg : some g ≠ row) : Blk w' g t cs := (hb.block g h.lt hg).trans h
end Go.Proofs.YtkgnmddakiagbaaGreatDoor
namespace Go.Proofs.YtkgnmddakiagbaaGreatDoor
open Go.RowKit
theorem blk_there {w : World} {b n : Nat} {t : TypeId} {cs : Array Value} (h : Blk w b t cs) (hn : n ≤ cs.size) : w.there b 0 n := fun j hj => by
  rw [Nat.zero_add, h.cell, h.frozen]
  exact ⟨by rw [Array.getElem?_eq_getElem (by omega)]; rfl, rfl⟩
theorem there_drew {w : World} {b o n : Nat} (h : w.there b o n) : w.drew.there b o n := h
theorem there_grown {w w' : World} {b o n g : Nat} (h : w.there b o n) (hg : w.grownBy w' (some g)) (hne : b ≠ g) : w'.there b o n := fun j hj => by
  obtain ⟨h1, h2⟩ := h j hj
  obtain ⟨u, hu⟩ := Option.isSome_iff_exists.1 h1
  have hb := World.block_lt_of_cell? w _ hu
  have e := hg.block b hb (by simpa using hne)
  exact ⟨by rw [World.cell?_of_block (a := ⟨b, o + j, none⟩) e]; exact h1, by rw [World.frozen?_of_block (a := ⟨b, o + j, none⟩) e]; exact h2⟩
theorem there_setCell {w : World} {b o n : Nat} (h : w.there b o n) (p : Addr) (u : Value) : (w.setCell p u).there b o n := fun j hj => by
  obtain ⟨h1, h2⟩ := h j hj
  refine ⟨?_, by rw [World.frozen?_setCell]; exact h2⟩
  obtain ⟨v, hv⟩ := Option.isSome_iff_exists.1 h1
  by_cases e : p = (⟨b, o + j, none⟩ : Addr)
  · subst e; rw [World.cell?_setCell_same _ _ _ hv]; rfl
  · rw [World.cell?_setCell_other _ _ _ _ e, hv]; rfl
theorem there2 {w : World} {b : Nat} (h : w.there b 0 2) : ∃ u0 u1, w.cell? ⟨b, 0, none⟩ = some u0 ∧ w.cell? ⟨b, 1, none⟩ = some u1 ∧ w.frozen? ⟨b, 0, none⟩ = false ∧ w.frozen? ⟨b, 1, none⟩ = false := by
  obtain ⟨a1, a2⟩ := h 0 (by omega)
  obtain ⟨b1, b2⟩ := h 1 (by omega)
  obtain ⟨u0, h0⟩ := Option.isSome_iff_exists.1 a1
  obtain ⟨u1, h1⟩ := Option.isSome_iff_exists.1 b1
  exact ⟨u0, u1, h0, h1, a2, b2⟩
def Stay (b : Nat) (w w' : World) : Prop := b < w.heap.size ∧ w.heap.size ≤ w'.heap.size ∧ w'.heap[b]? = w.heap[b]?
theorem Stay.refl {b : Nat} {w : World} (h : b < w.heap.size) : Stay b w w := ⟨h, Nat.le_refl _, rfl⟩
theorem Stay.drew {b : Nat} {w w' : World} (h : Stay b w w') : Stay b w w'.drew := h
theorem Stay.alloc {b : Nat} {w w' : World} (h : Stay b w w') (o : Obj) : Stay b w (w'.alloc o) :=
  ⟨h.1, Nat.le_trans h.2.1 (by simp), (Below.heap_alloc _ _ _ (Nat.lt_of_lt_of_le h.1 h.2.1)).trans h.2.2⟩
theorem Stay.grown {b g : Nat} {w w' w'' : World} (h : Stay b w w') (hg : w'.grownBy w'' (some g)) (hne : b ≠ g) : Stay b w w'' :=
  ⟨h.1, Nat.le_trans h.2.1 hg.size, (hg.block b (Nat.lt_of_lt_of_le h.1 h.2.1) (by simpa using hne)).trans h.2.2⟩
theorem Stay.setCell {b : Nat} {w w' : World} (h : Stay b w w') {p : Addr} (hne : b ≠ p.block) (u : Value) : Stay b w (w'.setCell p u) :=
  ⟨h.1, by simpa [World.setCell] using h.2.1, (Below.heap_setCell _ _ _ _ hne).trans h.2.2⟩
theorem bel_grown {a w w' : World} {g : Nat} (h : Below a.heap.size a w) (hg : w.grownBy w' (some g)) (hr : a.heap.size ≤ g) : Below a.heap.size a w' := h.grown hg h.size (fun k e => by injection e with e; omega)
theorem Rd.stay {w w' : World} {size : Nat} {A : Option Addr} {l : List (List Value)} (h : Rd w w.heap.size size A l) (hs : ∀ ad, A = some ad → ad.block < w.heap.size → Stay ad.block w w') : Rd w' w'.heap.size size A l := fun hn => by
  obtain ⟨ad, e, hb, hc⟩ := h hn
  have s := hs ad e hb
  exact ⟨ad, e, Nat.lt_of_lt_of_le hb s.2.1, fun k r hr j u hu => (World.cell?_of_block (by rw [block_of_add]; exact s.2.2)).trans (hc k r hr j u hu)⟩
theorem rd_block {w : World} {g : Nat} {t : TypeId} {cs : List Value} {size : Nat} (h : Blk w g t cs.toArray) (hs : cs.length = size) : Rd w w.heap.size size (some ⟨g, 0, none⟩) [cs] := fun _ => by
  refine ⟨⟨g, 0, none⟩, rfl, h.lt, fun k r hr j u hu => ?_⟩
  match k with
  | 0 =>
    obtain rfl : cs = r := by simpa using hr
    rw [Nat.zero_mul, Nat.zero_add, add_zero_addr, h.cell]
    simpa using hu
  | k + 1 => simp at hr
theorem wpList_append_rd {P : Program} {w : World} {ops : Array Oper} {rest : List Oper} {o : Oper} {a : Act} {Q : Exit → Act → World → Prop} (hgd : o.guard = none) (s x : Operand) (t : TypeId)
    (ho : o.op = .call { callee := .builtin .append, args := #[s, x], argTypes := #[t, t] })
    (base : Nat) (e : TypeId) (i : TypeInfo) (z : Value) (size bytes : Nat) (ht : P.underlying t = some (.slice e)) (hi : P.info? e = some i) (hz : i.zero = some z)
    (hsize : i.size = size) (hby : i.bytes = bytes) (hzs : z.cells.size = size) (hsz : 0 < size)
    (v : Value) (n : Nat) (L : List (List Value)) (hs : a.eval s = v) (hown : w.ownsRow base e size v n L.flatten) (hL : ∀ r ∈ L, r.length = size) (hn : n = L.length)
    (B : Nat) (A : Option Addr) (l : List (List Value)) (m c : Nat) (hx : a.eval x = .slice A m c) (hm : m = l.length) (hr : Rd w B size A l) (hl : ∀ r ∈ l, r.length = size) (h1 : ∀ r ∈ l, ∀ u ∈ r, u.oneCell' = true)
    (h63 : n + l.length ≤ maxLen) (hbytes : (n + l.length) * bytes ≤ 140737488355328) (hbase : base ≤ w.heap.size)
    (h : ∀ A' c' w', w'.ownsRow base e size (.slice A' (n + m) c') (n + m) (L ++ l).flatten → w.grownBy w' v.ownBlock → ((Value.slice A' (n + m) c').ownBlock = v.ownBlock ∨ (Value.slice A' (n + m) c').ownBlock = some w.heap.size) → wpList P ops Q rest (a.put o.dst (.slice A' (n + m) c')) w') :
    wpList P ops Q (o :: rest) a w :=
  wpList_plain hgd fun _ hK => by
    subst hm
    obtain ⟨v', w', hrun, h2, h3, h4⟩ := run_append_rd (P := P) (A := A) (l := l) base t o.type e i z size bytes ht hi hz hsize hby hzs hsz v n L.flatten hown c hr hl h1 h63 hbytes hbase
    rw [← List.flatten_append] at h2
    obtain ⟨A', c', hv, hrd, hat, hcap⟩ := rd_of_own (l := L ++ l) h2 (fun r hr => by rcases List.mem_append.1 hr with h | h; exact hL r h; exact hl r h) rfl (by simp [hn])
    subst hv
    unfold Oper.wp execOp
    simp only [ho, resolve, invoke, builtin, Sem.run_bind, Sem.run_pure, Result.andThen_ok, List.map_toArray, List.map_cons, List.map_nil, hs, hx, hrun]
    exact hK _ _ (h A' c' w' h2 h3 h4)
theorem own_keep {w w' : World} {base : Nat} {e : TypeId} {size n : Nat} {v : Value} {xs : List Value} (h : w.ownsRow base e size v n xs) (hk : ∀ g, v.ownBlock = some g → g < w.heap.size → w'.heap[g]? = w.heap[g]?) : w'.ownsRow base e size v n xs := by
  rcases h with ⟨h1, ⟨rfl, h2⟩ | ⟨g, cap, cur, rfl, hbg, hh, h3⟩⟩
  · exact ⟨h1, .inl ⟨rfl, h2⟩⟩
  · have hlt : g < w.heap.size := by
      rcases Nat.lt_or_ge g w.heap.size with hlt | hge
      · exact hlt
      · rw [Array.getElem?_eq_none hge] at hh; cases hh
    exact ⟨h1, .inr ⟨g, cap, cur, rfl, hbg, (hk g rfl hlt).trans hh, h3⟩⟩
theorem own_lt {w : World} {base : Nat} {e : TypeId} {size n : Nat} {v : Value} {xs : List Value} (h : w.ownsRow base e size v n xs) : ∀ g, v.ownBlock = some g → base ≤ g ∧ g < w.heap.size := by
  intro g hg
  rcases h.2 with ⟨rfl, _⟩ | ⟨g', cap, cur, rfl, hb, hh, _⟩
  · simp [Value.ownBlock] at hg
  · obtain rfl : g' = g := by simpa [Value.ownBlock] using hg
    refine ⟨hb, ?_⟩
    rcases Nat.lt_or_ge g' w.heap.size with hlt | hge
    · exact hlt
    · rw [Array.getElem?_eq_none hge] at hh; cases hh
end Go.Proofs.YtkgnmddakiagbaaGreatDoor
namespace Go.Proofs.YtkgnmddakiagbaaGreatDoor
open Go.RowKit
inductive AV where
  | sc (v : Value)
  | ag (l : List AV)
  | tu (l : List AV)
  | ls (n : Nat) (rows : List (List AV))
  | ow (T : TypeId) (n : Nat) (rows : List (List AV))
  | pr (cells : List AV)
  | pt (k i j : Nat)
  | sl (k : Nat)
  | fn (f : FuncId) (caps : List AV)
abbrev View := Addr → Option Value
inductive RP (F : View) : AV → Value → Prop
  | sc (v : Value) : RP F (.sc v) v
  | ag (l : List AV) (cs : Array Value) : cs.size = l.length → (∀ (i : Nat) av u, l[i]? = some av → cs[i]? = some u → RP F av u) → RP F (.ag l) (.agg cs)
  | tu (l : List AV) (cs : Array Value) : cs.size = l.length → (∀ (i : Nat) av u, l[i]? = some av → cs[i]? = some u → RP F av u) → RP F (.tu l) (.tuple cs)
  | ls (n : Nat) (rows : List (List AV)) (A : Option Addr) (cap : Nat) (ad : Addr) (u : Nat → Nat → Value) : rows.length ≤ cap → (∀ r ∈ rows, r.length = n) → (0 < rows.length → A = some ad) →
      (∀ (i : Nat) r (j : Nat) av, rows[i]? = some r → r[j]? = some av → F (ad.add (i * n + j)) = some (u i j) ∧ (u i j).oneCell' = true) →
      (∀ (i : Nat) r (j : Nat) av, rows[i]? = some r → r[j]? = some av → RP F av (u i j)) → RP F (.ls n rows) (.slice A rows.length cap)
  | pr (cells : List AV) (p : Addr) (u : Nat → Value) : (∀ (j : Nat) av, cells[j]? = some av → F (p.add j) = some (u j) ∧ (u j).oneCell' = true) →
      (∀ (j : Nat) av, cells[j]? = some av → RP F av (u j)) → RP F (.pr cells) (.pointer (some p))
  | fn (f : FuncId) (l : List AV) (cs : Array Value) : cs.size = l.length → (∀ (i : Nat) av u, l[i]? = some av → cs[i]? = some u → RP F av u) → RP F (.fn f l) (.func (.func f) #[] cs)
def View.le (F F' : View) : Prop := ∀ p u, F p = some u → F' p = some u
theorem RP.mono {F F' : View} (h : F.le F') {av : AV} {v : Value} (r : RP F av v) : RP F' av v := by
  induction r with
  | sc v => exact .sc v
  | ag l cs h1 _ ih => exact .ag l cs h1 ih
  | tu l cs h1 _ ih => exact .tu l cs h1 ih
  | ls n rows A cap ad u h0 h1 h2 h3 _ ih => exact .ls n rows A cap ad u h0 h1 h2 (fun i r j av a b => ⟨h _ _ (h3 i r j av a b).1, (h3 i r j av a b).2⟩) ih
  | pr cells p u h1 _ ih => exact .pr cells p u (fun j av a => ⟨h _ _ (h1 j av a).1, (h1 j av a).2⟩) ih
  | fn f l cs h1 _ ih => exact .fn f l cs h1 ih
structure Gh where
  F : View
  b : Nat → Nat
  n : Nat → Nat
  h : Nat → Value
  fp : Nat → Nat → Prop
inductive R (G : Gh) : AV → Value → Prop
  | pu (av : AV) (v : Value) : RP G.F av v → R G av v
  | pt (k i j : Nat) (p : Addr) : p.block = G.b k → p.off = i * G.n k + j → p.spot = none → R G (.pt k i j) (.pointer (some p))
  | sl (k : Nat) : (G.h k).oneCell' = true → R G (.sl k) (G.h k)
  | ag (l : List AV) (cs : Array Value) : cs.size = l.length → (∀ (i : Nat) av u, l[i]? = some av → cs[i]? = some u → R G av u) → R G (.ag l) (.agg cs)
  | tu (l : List AV) (cs : Array Value) : cs.size = l.length → (∀ (i : Nat) av u, l[i]? = some av → cs[i]? = some u → R G av u) → R G (.tu l) (.tuple cs)
  | fn (f : FuncId) (l : List AV) (cs : Array Value) : cs.size = l.length → (∀ (i : Nat) av u, l[i]? = some av → cs[i]? = some u → R G av u) → R G (.fn f l) (.func (.func f) #[] cs)
inductive Bd (nk : Nat) : AV → Prop
  | sc (v : Value) : Bd nk (.sc v)
  | ls (n : Nat) (rows : List (List AV)) : Bd nk (.ls n rows)
  | ow (T : TypeId) (n : Nat) (rows : List (List AV)) : Bd nk (.ow T n rows)
  | pr (cells : List AV) : Bd nk (.pr cells)
  | pt (k i j : Nat) : k < nk → Bd nk (.pt k i j)
  | sl (k : Nat) : k < nk → Bd nk (.sl k)
  | ag (l : List AV) : (∀ (i : Nat) x, l[i]? = some x → Bd nk x) → Bd nk (.ag l)
  | tu (l : List AV) : (∀ (i : Nat) x, l[i]? = some x → Bd nk x) → Bd nk (.tu l)
  | fn (f : FuncId) (l : List AV) : (∀ (i : Nat) x, l[i]? = some x → Bd nk x) → Bd nk (.fn f l)
theorem Bd.mono {nk nk' : Nat} (h : nk ≤ nk') {av : AV} (b : Bd nk av) : Bd nk' av := by
  induction b with
  | sc v => exact .sc v
  | ls n rows => exact .ls n rows
  | ow T n rows => exact .ow T n rows
  | pr cells => exact .pr cells
  | pt k i j hk => exact .pt k i j (by omega)
  | sl k hk => exact .sl k (by omega)
  | ag l _ ih => exact .ag l ih
  | tu l _ ih => exact .tu l ih
  | fn f l _ ih => exact .fn f l ih
structure Gh.le (G G' : Gh) (nk : Nat) : Prop where
  F : G.F.le G'.F
  b : ∀ k, k < nk → G'.b k = G.b k
  n : ∀ k, k < nk → G'.n k = G.n k
  h : ∀ k, k < nk → G'.h k = G.h k
theorem Gh.le.refl (G : Gh) (nk : Nat) : G.le G nk := ⟨fun _ _ h => h, fun _ _ => rfl, fun _ _ => rfl, fun _ _ => rfl⟩
theorem R.mono {G G' : Gh} {nk : Nat} (h : G.le G' nk) {av : AV} {v : Value} (r : R G av v) (b : Bd nk av) : R G' av v := by
  induction r with
  | pu av v hp => exact .pu _ _ (hp.mono h.F)
  | pt k i j p h1 h2 h3 =>
    cases b with
    | pt _ _ _ hk => exact .pt k i j p (by rw [h.b k hk]; exact h1) (by rw [h.n k hk]; exact h2) h3
  | sl k h1 =>
    cases b with
    | sl _ hk => rw [← h.h k hk]; exact .sl k (by rw [h.h k hk]; exact h1)
  | ag l cs h1 _ ih =>
    cases b with
    | ag _ hb => exact .ag l cs h1 fun i av u a c => ih i av u a c (hb i av a)
  | tu l cs h1 _ ih =>
    cases b with
    | tu _ hb => exact .tu l cs h1 fun i av u a c => ih i av u a c (hb i av a)
  | fn f l cs h1 _ ih =>
    cases b with
    | fn _ _ hb => exact .fn f l cs h1 fun i av u a c => ih i av u a c (hb i av a)
theorem RP.sc_eq {F : View} {v u : Value} (r : RP F (.sc v) u) : u = v := by cases r; rfl
theorem R.sc_eq {G : Gh} {v u : Value} (r : R G (.sc v) u) : u = v := by cases r with | pu _ _ h => exact h.sc_eq
theorem R.pu_of {G : Gh} {n : Nat} {rows : List (List AV)} {u : Value} (r : R G (.ls n rows) u) : RP G.F (.ls n rows) u := by cases r with | pu _ _ h => exact h
theorem R.pr_of {G : Gh} {cells : List AV} {u : Value} (r : R G (.pr cells) u) : RP G.F (.pr cells) u := by cases r with | pu _ _ h => exact h
theorem RP.no_ow {F : View} {T n : Nat} {rows : List (List AV)} {u : Value} (r : RP F (.ow T n rows) u) : False := by cases r
theorem R.no_ow {G : Gh} {T n : Nat} {rows : List (List AV)} {u : Value} (r : R G (.ow T n rows) u) : False := by cases r with | pu _ _ h => exact h.no_ow
theorem R.ag_of {G : Gh} {l : List AV} {u : Value} (r : R G (.ag l) u) : ∃ cs : Array Value, u = .agg cs ∧ cs.size = l.length ∧ ∀ (i : Nat) av u, l[i]? = some av → cs[i]? = some u → R G av u := by
  cases r with
  | pu _ _ h => cases h with | ag _ cs h1 h2 => exact ⟨cs, rfl, h1, fun i av u a b => .pu _ _ (h2 i av u a b)⟩
  | ag _ cs h1 h2 => exact ⟨cs, rfl, h1, h2⟩
theorem R.tu_of {G : Gh} {l : List AV} {u : Value} (r : R G (.tu l) u) : ∃ cs : Array Value, u = .tuple cs ∧ cs.size = l.length ∧ ∀ (i : Nat) av u, l[i]? = some av → cs[i]? = some u → R G av u := by
  cases r with
  | pu _ _ h => cases h with | tu _ cs h1 h2 => exact ⟨cs, rfl, h1, fun i av u a b => .pu _ _ (h2 i av u a b)⟩
  | tu _ cs h1 h2 => exact ⟨cs, rfl, h1, h2⟩
theorem R.fn_of {G : Gh} {f : FuncId} {l : List AV} {u : Value} (r : R G (.fn f l) u) : ∃ cs : Array Value, u = .func (.func f) #[] cs ∧ cs.size = l.length ∧ ∀ (i : Nat) av u, l[i]? = some av → cs[i]? = some u → R G av u := by
  cases r with
  | pu _ _ h => cases h with | fn _ _ cs h1 h2 => exact ⟨cs, rfl, h1, fun i av u a b => .pu _ _ (h2 i av u a b)⟩
  | fn _ _ cs h1 h2 => exact ⟨cs, rfl, h1, h2⟩
theorem R.pt_of {G : Gh} {k i j : Nat} {u : Value} (r : R G (.pt k i j) u) : ∃ p : Addr, u = .pointer (some p) ∧ p.block = G.b k ∧ p.off = i * G.n k + j ∧ p.spot = none := by
  cases r with
  | pu _ _ h => cases h
  | pt _ _ _ p a b c => exact ⟨p, rfl, a, b, c⟩
theorem R.sl_of {G : Gh} {k : Nat} {u : Value} (r : R G (.sl k) u) : u = G.h k ∧ u.oneCell' = true := by
  cases r with
  | pu _ _ h => cases h
  | sl _ h => exact ⟨rfl, h⟩
theorem RP.ls_of {F : View} {n : Nat} {rows : List (List AV)} {v : Value} (r : RP F (.ls n rows) v) : ∃ A cap ad, ∃ u : Nat → Nat → Value, v = .slice A rows.length cap ∧ (∀ r ∈ rows, r.length = n) ∧ (0 < rows.length → A = some ad) ∧
    (∀ (i : Nat) r (j : Nat) av, rows[i]? = some r → r[j]? = some av → F (ad.add (i * n + j)) = some (u i j) ∧ (u i j).oneCell' = true) ∧ (∀ (i : Nat) r (j : Nat) av, rows[i]? = some r → r[j]? = some av → RP F av (u i j)) ∧ rows.length ≤ cap := by
  cases r with | ls _ _ A cap ad u h0 h1 h2 h3 h4 => exact ⟨A, cap, ad, u, rfl, h1, h2, h3, h4, h0⟩
theorem RP.pr_of {F : View} {cells : List AV} {v : Value} (r : RP F (.pr cells) v) : ∃ p : Addr, ∃ u : Nat → Value, v = .pointer (some p) ∧ (∀ (j : Nat) av, cells[j]? = some av → F (p.add j) = some (u j) ∧ (u j).oneCell' = true) ∧
      (∀ (j : Nat) av, cells[j]? = some av → RP F av (u j)) := by
  cases r with | pr _ p u h1 h2 => exact ⟨p, u, rfl, h1, h2⟩
inductive OW (F : View) (w : World) : AV → Value → (Nat → Prop) → Prop
  | pu (av : AV) (v : Value) (φ : Nat → Prop) : RP F av v → OW F w av v φ
  | ow (T n : Nat) (rows : List (List AV)) (v : Value) (φ : Nat → Prop) (vs : List (List Value)) (Φ : Nat → Nat → Nat → Prop) : (∀ r ∈ rows, r.length = n) → w.ownsRow 0 T n v vs.length vs.flatten → vs.length = rows.length → (∀ r ∈ vs, ∀ u ∈ r, u.oneCell' = true) →
      (∀ g, v.ownBlock = some g → φ g) → (∀ i j x, Φ i j x → φ x ∧ v.ownBlock ≠ some x) → (∀ i j i' j' x, Φ i j x → Φ i' j' x → i = i' ∧ j = j') →
      (∀ (i : Nat) r r', rows[i]? = some r → vs[i]? = some r' → r'.length = r.length) →
      (∀ (i : Nat) r r' (j : Nat) av u, rows[i]? = some r → vs[i]? = some r' → r[j]? = some av → r'[j]? = some u → OW F w av u (Φ i j)) → OW F w (.ow T n rows) v φ
def CR (G : Gh) (w : World) (φ : Nat → Prop) (av : AV) (u : Value) : Prop := R G av u ∨ OW G.F w av u φ
def RowIs (w : World) (T n : Nat) (rows : List (List AV)) (v : Value) (φ : Nat → Prop) (X : Nat → Nat → (Nat → Prop) → AV → Value → Prop) : Prop :=
  (∀ r ∈ rows, r.length = n) ∧ ∃ (vs : List (List Value)) (Φ : Nat → Nat → Nat → Prop), w.ownsRow 0 T n v vs.length vs.flatten ∧ vs.length = rows.length ∧ (∀ r ∈ vs, ∀ u ∈ r, u.oneCell' = true) ∧
      (∀ g, v.ownBlock = some g → φ g) ∧ (∀ i j x, Φ i j x → φ x ∧ v.ownBlock ≠ some x) ∧ (∀ i j i' j' x, Φ i j x → Φ i' j' x → i = i' ∧ j = j') ∧
      (∀ (i : Nat) r r', rows[i]? = some r → vs[i]? = some r' → r'.length = r.length) ∧
      (∀ (i : Nat) r r' (j : Nat) av u, rows[i]? = some r → vs[i]? = some r' → r[j]? = some av → r'[j]? = some u → X i j (Φ i j) av u)
def XP (F : View) : Nat → Nat → (Nat → Prop) → AV → Value → Prop := fun _ _ _ av u => RP F av u
def XO (F : View) (w : World) : Nat → Nat → (Nat → Prop) → AV → Value → Prop := fun _ _ φ av u => OW F w av u φ
def XH (G : Gh) (w : World) (hi hj : Nat) : Nat → Nat → (Nat → Prop) → AV → Value → Prop := fun i j φ av u => if i = hi ∧ j = hj then R G av u else OW G.F w av u φ
theorem ownsRow_keep {w w' : World} {B e size n : Nat} {v : Value} {xs : List Value} (h : w.ownsRow B e size v n xs) (hk : ∀ g, v.ownBlock = some g → w'.heap[g]? = w.heap[g]?) : w'.ownsRow B e size v n xs := by
  refine ⟨h.1, ?_⟩
  rcases h.2 with x | ⟨g, cap, cur, e, hb, hh, hr⟩
  · exact .inl x
  · exact .inr ⟨g, cap, cur, e, hb, (hk g (by rw [e]; rfl)).trans hh, hr⟩
theorem OW.keep {F F' : View} {w w' : World} {av : AV} {v : Value} {φ : Nat → Prop} (hF : F.le F') (h : OW F w av v φ) : (∀ x, φ x → w'.heap[x]? = w.heap[x]?) → OW F' w' av v φ := by
  induction h with
  | pu av v φ r => exact fun _ => .pu av v φ (r.mono hF)
  | ow T n rows v φ vs Φ h1 h2 h3 h4 h5 h6 h7 h8 _ ih =>
    intro hw
    exact .ow T n rows v φ vs Φ h1 (ownsRow_keep h2 fun g hg => hw g (h5 g hg)) h3 h4 h5 h6 h7 h8 fun i r r' j av u a b c d => ih i r r' j av u a b c d fun x hx => hw x (h6 i j x hx).1
theorem OW.wide {F : View} {w : World} {av : AV} {v : Value} {φ φ' : Nat → Prop} (h : OW F w av v φ) (hp : ∀ x, φ x → φ' x) : OW F w av v φ' := by
  cases h with
  | pu _ _ _ r => exact .pu av v φ' r
  | ow T n rows _ _ vs Φ h1 h2 h3 h4 h5 h6 h7 h8 h9 => exact .ow T n rows v φ' vs Φ h1 h2 h3 h4 (fun g hg => hp g (h5 g hg)) (fun i j x hx => ⟨hp x (h6 i j x hx).1, (h6 i j x hx).2⟩) h7 h8 h9
theorem CR.keep {G G' : Gh} {w w' : World} {nk : Nat} {φ : Nat → Prop} {av : AV} {v : Value} (h : CR G w φ av v) (hle : G.le G' nk) (hb : Bd nk av) (hw : ∀ x, φ x → w'.heap[x]? = w.heap[x]?) : CR G' w' φ av v :=
  h.elim (fun r => .inl (r.mono hle hb)) fun o => .inr (o.keep hle.F hw)
def AV.own : AV → Bool
  | .ow _ _ _ => true
  | _ => false
theorem CR.r {G : Gh} {w : World} {φ : Nat → Prop} {av : AV} {v : Value} (h : CR G w φ av v) (ho : av.own = false) : R G av v := by
  rcases h with r | o
  · exact r
  · cases o with
    | pu _ _ _ r => exact .pu _ _ r
    | ow => cases ho
theorem OW.p {F : View} {w : World} {φ : Nat → Prop} {av : AV} {v : Value} (h : OW F w av v φ) (ho : av.own = false) : RP F av v := by
  cases h with
  | pu _ _ _ r => exact r
  | ow => cases ho
theorem CR.wide {G : Gh} {w : World} {φ φ' : Nat → Prop} {av : AV} {v : Value} (h : CR G w φ av v) (hp : ∀ x, φ x → φ' x) : CR G w φ' av v := h.elim .inl fun o => .inr (o.wide hp)
def BldIs (w : World) (T e b : Nat) (φ : Nat → Prop) (l : List UInt8) : Prop :=
  ∃ p v, (p = .pointer none ∨ p = .pointer (some ⟨b, 0, none⟩)) ∧ w.heap[b]? = some (.cells #[p, v] T (0, 0)) ∧ w.ownsRowF 0 e 1 v l.length (Lib.byteCells l) ∧ ∀ g, v.ownBlock = some g → φ g ∧ g ≠ b
structure Opq where
  Q : World → Nat → Value → (Nat → Prop) → Prop
  st : ∀ w w' b v φ, (∀ x, φ x → w'.heap[x]? = w.heap[x]?) → Q w b v φ → Q w' b v φ
inductive AO where
  | box (T : TypeId) (cells : List AV)
  | row (T : TypeId) (n : Nat) (rows : List (List AV))
  | rwn (T : TypeId) (n : Nat) (rows : List (List AV))
  | rof (T : TypeId) (n : Nat) (rows : List (List AV)) (hi hj : Nat)
  | bld (T e : TypeId) (l : List UInt8)
  | opq (q : Opq)
def RL (F : View) (l : List AV) (vs : List Value) : Prop := vs.length = l.length ∧ ∀ (i : Nat) av u, l[i]? = some av → vs[i]? = some u → RP F av u
def BoxIs (w : World) (T b : Nat) (φ : Nat → Prop) (cells : List AV) (X : (Nat → Prop) → AV → Value → Prop) : Prop :=
  ∃ (cs : Array Value) (Φ : Nat → Nat → Prop), Blk w b T cs ∧ cs.size = cells.length ∧ (∀ i x, Φ i x → φ x ∧ x ≠ b) ∧ (∀ i i' x, Φ i x → Φ i' x → i = i') ∧ ∀ (i : Nat) av u, cells[i]? = some av → cs[i]? = some u → X (Φ i) av u
def ObAt (G : Gh) (w : World) (k : Nat) : AO → Prop
  | .box T cells => G.fp k (G.b k) ∧ BoxIs w T (G.b k) (G.fp k) cells (CR G w)
  | .row T n rows => G.n k = n ∧ (∀ g, (G.h k).ownBlock = some g → g = G.b k) ∧ RowIs w T n rows (G.h k) (G.fp k) (XP G.F)
  | .rwn T n rows => G.n k = n ∧ (∀ g, (G.h k).ownBlock = some g → g = G.b k) ∧ RowIs w T n rows (G.h k) (G.fp k) (XO G.F w)
  | .rof T n rows hi hj => G.n k = n ∧ (∀ g, (G.h k).ownBlock = some g → g = G.b k) ∧ RowIs w T n rows (G.h k) (G.fp k) (XH G w hi hj)
  | .bld T e l => G.fp k (G.b k) ∧ BldIs w T e (G.b k) (G.fp k) l
  | .opq q => q.Q w (G.b k) (G.h k) (G.fp k)
def AO.bd (nk : Nat) : AO → Prop
  | .box _ cells => ∀ (i : Nat) av, cells[i]? = some av → Bd nk av
  | .row _ _ _ => True
  | .rwn _ _ _ => True
  | .rof _ _ rows hi hj => ∀ r av, rows[hi]? = some r → r[hj]? = some av → Bd nk av
  | .bld _ _ _ => True
  | .opq _ => True
def look {α : Type} (i : Nat) : List (Nat × α) → Option α
  | [] => none
  | x :: r => bif Nat.beq i x.1 then some x.2 else look i r
structure Kept (S : Nat → Prop) (w w' : World) : Prop where
  os : w'.os = w.os
  tape : w'.tape = w.tape
  output : w'.output = w.output
  size : w.heap.size ≤ w'.heap.size
  block : ∀ k, k < w.heap.size → ¬ S k → w'.heap[k]? = w.heap[k]?
theorem Kept.refl (S : Nat → Prop) (w : World) : Kept S w w := ⟨rfl, rfl, rfl, Nat.le_refl _, fun _ _ _ => rfl⟩
theorem Kept.below {S : Nat → Prop} {w w' : World} (h : Below w.heap.size w w') : Kept S w w' := ⟨h.os, h.tape, h.output, h.size, fun i hi _ => h.block i hi⟩
theorem Kept.to_below {S : Nat → Prop} {w w' : World} (h : Kept S w w') (hs : ∀ x, ¬ S x) : Below w.heap.size w w' := ⟨h.os, h.tape, h.output, h.size, fun i hi => h.block i hi (hs i)⟩
theorem Kept.on {S S' : Nat → Prop} {a b c : World} (h : Kept S a b) (k : Kept S' b c) (hs : ∀ x, S' x → a.heap.size ≤ x ∨ S x) : Kept S a c :=
  ⟨k.os.trans h.os, k.tape.trans h.tape, k.output.trans h.output, Nat.le_trans h.size k.size, fun i hi hn => (k.block i (Nat.lt_of_lt_of_le hi h.size) fun x => (hs i x).elim (fun y => by omega) hn).trans (h.block i hi hn)⟩
structure Cx where
  w0 : World
  F0 : View
  N : Nat
  fp : Nat → Prop
  np : Nat
  pg : Gh
def Cx.may (C : Cx) (x : Nat) : Prop := C.w0.heap.size ≤ x ∨ C.fp x
structure St where
  t : List (Nat × AV)
  M : List (Nat × AO)
  nk : Nat
structure Ok (C : Cx) (σ : St) (G : Gh) (a : Act) (w : World) : Prop where
  sz : a.tmps.size = C.N
  df : a.defers = [] ∧ C.np ≤ σ.nk ∧ ∀ k, k < C.np → G.b k = C.pg.b k ∧ G.n k = C.pg.n k ∧ G.h k = C.pg.h k
  tm : ∀ i av, look i σ.t = some av → i < C.N ∧ Bd σ.nk av ∧ R G av (a.tmps.getD i undef)
  bel : Kept C.fp C.w0 w
  fw : ∀ p u, G.F p = some u → w.cell? p = some u
  f0 : C.F0.le G.F
  f1 : ∀ p u, G.F p = some u → C.F0 p = some u ∨ C.may p.block
  ob : ∀ k o, look k σ.M = some o → k < σ.nk ∧ o.bd σ.nk ∧ ObAt G w k o
  my : ∀ k o x, look k σ.M = some o → G.fp k x → C.may x ∧ x < w.heap.size
  dj : ∀ k o k' o' x, look k σ.M = some o → look k' σ.M = some o' → G.fp k x → G.fp k' x → k = k'
  dF : ∀ k o x p u, look k σ.M = some o → G.fp k x → G.F p = some u → p.block ≠ x
theorem cell_block {w : World} {p : Addr} {u : Value} (h : w.cell? p = some u) : p.block < w.heap.size := by
  rcases Nat.lt_or_ge p.block w.heap.size with hlt | hge
  · exact hlt
  · simp [World.cell?, Array.getElem?_eq_none hge] at h
theorem look_set_same {α : Type} {i : Nat} {x : α} {r : List (Nat × α)} : look i ((i, x) :: r) = some x := by
  simp [look]
theorem look_set_other {α : Type} {i j : Nat} {x : α} {r : List (Nat × α)} (h : i ≠ j) : look i ((j, x) :: r) = look i r := by
  have : Nat.beq i j = false := by cases hb : Nat.beq i j with
    | false => rfl
    | true => exact absurd (Nat.eq_of_beq_eq_true hb) h
  simp [look, this]
end Go.Proofs.YtkgnmddakiagbaaGreatDoor
namespace Go.Proofs.YtkgnmddakiagbaaGreatDoor
open Go.RowKit
set_option maxHeartbeats 1600000
set_option maxRecDepth 100000
theorem highest_any (A1 A2 : Option Addr) (cs : List (Int × Int × Bool)) (st : List Int) (n1 n2 c1 c2 B : Nat) (p f : Int) (o : Bool) (w : World) (hI : InsAt w B A1 A2 cs st) (hB : B ≤ w.heap.size)
    (hn2 : n2 = st.length) (hp : 0 ≤ p ∧ p ≤ 127) (hf : 0 ≤ f ∧ f ≤ st.length) (hl : st.length ≤ 18) (hst : ∀ k (h : k < st.length), 1 ≤ st[k] ∧ st[k] ≤ 127) :
    Calls Tryz.prog 173 #[.agg #[.slice A1 n1 c1, .slice A2 n2 c2], .agg #[.int .i64 p, .int .i64 f, .bool o]] w (Ret (.int .i64 (topOf st (p, f, o))) w) := by
  by_cases hz : 0 < f
  · obtain ⟨k, rfl⟩ : ∃ k : Nat, f = (k : Int) + 1 := ⟨f.toNat - 1, by omega⟩
    have hk : k < st.length := by omega
    obtain ⟨ad, rfl, hb, hc⟩ := hI.step hk
    have hbd := hst k hk
    obtain ⟨x, hx⟩ : ∃ x, st[k] = x := ⟨_, rfl⟩
    rw [hx] at hc hbd
    have hc2 : ∀ o o' : Obj, ((w.alloc o).alloc o').cell? (ad.add k) = some (.int .i64 x) := fun o o' => by
      rw [World.cell?_alloc_lt _ _ _ (by rw [block_of_add]; simp; omega), World.cell?_alloc_lt _ _ _ (by rw [block_of_add]; omega), hc]
    clear hc
    have e : topOf st (p, (k : Int) + 1, o) = p + x + if o then 12 else 0 := by
      unfold topOf
      simp only [if_pos hz]
      have : ((k : Int) + 1).toNat - 1 = k := by omega
      rw [this, List.getD_eq_getElem?_getD, List.getElem?_eq_getElem hk, hx]; rfl
    rw [e]
    have hk2 : k < n2 := by omega
    clear e hx hst hI hn2 hf
    cases o
    all_goals
      go_enter Tryz.func173, Tryz.ntmps173
      go_wp2
      go_ret
      exact Ret.mk' (by simp) (by repeat (first | exact Below.refl _ _ | assumption | refine bel_drewN ?_ _ | refine Below.drew ?_ | refine bel_alloc ?_ _ | refine Below.setCell ?_ (by first | omega | (simp; done) | (simp; omega)) _ | refine bel_step ?_ (by assumption)))
  · obtain rfl : f = 0 := by omega
    have e : topOf st (p, 0, o) = p + if o then 12 else 0 := by unfold topOf; simp
    rw [e]
    clear e hst hI hn2 hf
    cases o
    all_goals
      go_enter Tryz.func173, Tryz.ntmps173
      go_wp2
      go_ret
      exact Ret.mk' (by simp) (by repeat (first | exact Below.refl _ _ | assumption | refine bel_drewN ?_ _ | refine Below.drew ?_ | refine bel_alloc ?_ _ | refine Below.setCell ?_ (by first | omega | (simp; done) | (simp; omega)) _ | refine bel_step ?_ (by assumption)))
theorem insE_many {cs : List (Int × Int × Bool)} {st : List Int} (h : 14 < cs.length ∨ 18 < st.length) : insE cs st = 2 := if_pos h
theorem insE_none {cs : List (Int × Int × Bool)} {st : List Int} (h : ¬ (14 < cs.length ∨ 18 < st.length)) (h1 : cs.length = 0) : insE cs st = 11 := by unfold insE; rw [if_neg h, if_pos h1]
theorem insE_steps {cs : List (Int × Int × Bool)} {st : List Int} (h : ¬ (14 < cs.length ∨ 18 < st.length)) (h1 : stepsBad 0 st = true) : insE cs st = 11 := by unfold insE; rw [if_neg h, h1]; simp
theorem insE_crs {cs : List (Int × Int × Bool)} {st : List Int} (h : ¬ (14 < cs.length ∨ 18 < st.length)) (h1 : ¬ cs.length = 0) (h2 : stepsBad 0 st = false) : insE cs st = crsE st cs := by unfold insE; rw [if_neg h, if_neg h1, h2]; simp
theorem insCheck (A1 A2 : Option Addr) (cs : List (Int × Int × Bool)) (st : List Int) (n1 n2 c1 c2 : Nat) (w : World) (hI : InsAt w w.heap.size A1 A2 cs st) (hn1 : n1 = cs.length) (hn2 : n2 = st.length) :
    Calls Tryz.prog 116 #[.agg #[.slice A1 n1 c1, .slice A2 n2 c2]] w (Ret (.int .i64 (insE cs st)) w) := by
  by_cases hm1 : 14 < n1
  · rw [insE_many (.inl (by omega))]
    clear hn1 hn2 hI
    go_enter Tryz.func116, Tryz.ntmps116
    go_wp2
    go_ret
    exact Ret.mk' rfl (by repeat (first | exact Below.refl _ _ | assumption | refine bel_drewN ?_ _ | refine Below.drew ?_ | refine bel_alloc ?_ _ | refine Below.setCell ?_ (by first | omega | (simp; done) | (simp; omega)) _ | refine bel_step ?_ (by assumption)))
  · by_cases hm2 : 18 < n2
    · rw [insE_many (.inr (by omega))]
      clear hn1 hn2 hI
      go_enter Tryz.func116, Tryz.ntmps116
      go_wp2
      go_ret
      exact Ret.mk' rfl (by repeat (first | exact Below.refl _ _ | assumption | refine bel_drewN ?_ _ | refine Below.drew ?_ | refine bel_alloc ?_ _ | refine Below.setCell ?_ (by first | omega | (simp; done) | (simp; omega)) _ | refine bel_step ?_ (by assumption)))
    · by_cases hz : n1 = 0
      · rw [insE_none (by omega) (by omega)]
        subst hz
        clear hn1 hn2 hI
        go_enter Tryz.func116, Tryz.ntmps116
        go_wp2
        go_ret
        exact Ret.mk' rfl (by repeat (first | exact Below.refl _ _ | assumption | refine bel_drewN ?_ _ | refine Below.drew ?_ | refine bel_alloc ?_ _ | refine Below.setCell ?_ (by first | omega | (simp; done) | (simp; omega)) _ | refine bel_step ?_ (by assumption)))
      · have hnz : 0 < n1 := by omega
        have HI := Lib.hid hI
        have HN1 := Lib.hid hn1
        have HN2 := Lib.hid hn2
        have HE1 := Lib.hid (fun h => insE_steps (cs := cs) (st := st) (by omega) h)
        have HE2 := Lib.hid (fun h => insE_crs (cs := cs) (st := st) (by omega) (by omega) h)
        have h18 : st.length ≤ 18 := by omega
        have hi1 : n2 ≤ 18 := by omega
        have hi2 : n1 ≤ 14 := by omega
        clear hI hn1 hn2 hz hm1 hm2
        go_enter Tryz.func116, Tryz.ntmps116
        go_wp2
        go_loop [3, 25] (fun last i => ∃ (k : Nat) (x : Int), k ≤ n2 ∧ i = .int .i64 k ∧ last = .int .i64 x ∧ stepsBad 0 st = stepsBad x (st.drop k)) (fun _ i => n2 - (intOf i).toNat)
        case atStart => exact ⟨0, 0, Nat.zero_le _, rfl, rfl, rfl⟩
        case round =>
          obtain ⟨k, x, hk, rfl, rfl, hs⟩ := hrel
          have HS := Lib.hid hs
          clear hs
          by_cases hlt : k < n2
          · have hk2 : k < st.length := by have := HN2.out; omega
            obtain ⟨ad, hA, hb, hc⟩ := HI.out.step hk2
            subst hA
            have hs2 := HS.out.trans (stepsBad_at hk2)
            obtain ⟨y, hy⟩ : ∃ y, st[k] = y := ⟨_, rfl⟩
            rw [hy] at hc hs2
            have hc2 : ∀ o : Obj, (w.alloc o).cell? (ad.add k) = some (.int .i64 y) := fun o => by
              rw [World.cell?_alloc_lt _ _ _ (by rw [block_of_add]; omega), hc]
            clear hc hy
            by_cases hb1 : y ≤ x
            · have HE := Lib.hid (HE1.out (hs2.trans (by simp [hb1])))
              clear hs2
              go_wp2
              go_ret
              exact Ret.mk' (by rw [HE.out]; rfl) (by repeat (first | exact Below.refl _ _ | assumption | refine bel_drewN ?_ _ | refine Below.drew ?_ | refine bel_alloc ?_ _ | refine Below.setCell ?_ (by first | omega | (simp; done) | (simp; omega)) _ | refine bel_step ?_ (by assumption)))
            · by_cases hb2 : 127 < y
              · have HE := Lib.hid (HE1.out (hs2.trans (by simp [hb2])))
                clear hs2
                go_wp2
                go_ret
                exact Ret.mk' (by rw [HE.out]; rfl) (by repeat (first | exact Below.refl _ _ | assumption | refine bel_drewN ?_ _ | refine Below.drew ?_ | refine bel_alloc ?_ _ | refine Below.setCell ?_ (by first | omega | (simp; done) | (simp; omega)) _ | refine bel_step ?_ (by assumption)))
              · have HS3 := Lib.hid (hs2.trans (show _ = stepsBad y (st.drop (k + 1)) by simp [hb1, hb2]))
                clear hs2
                go_wp2
                go_round
                case rel => exact ⟨k + 1, y, by omega, by go_num, rfl, HS3.out⟩
                case measure => simp [intOf]; omega
          · have hsF : stepsBad 0 st = false := by
              have h := HS.out
              rw [h, List.drop_eq_nil_of_le (by have := HN2.out; omega)]; rfl
            have HE := Lib.hid (HE2.out hsF)
            have HBD := Lib.hid (stepsBad_bd (by omega) hsF)
            clear hsF
            go_wp2
            go_loopw [41] (fun i wr => ∃ k : Nat, k ≤ n1 ∧ i = .int .i64 k ∧ crsE st cs = crsE st (cs.drop k) ∧ Below w.heap.size w wr ∧ Blk wr w.heap.size 26 #[.slice A1 n1 c1, .slice A2 n2 c2]) (fun i _ => n1 - (intOf i).toNat)
            case atStart => exact ⟨0, Nat.zero_le _, rfl, rfl, (by repeat (first | exact Below.refl _ _ | assumption | refine bel_drewN ?_ _ | refine Below.drew ?_ | refine bel_alloc ?_ _ | refine Below.setCell ?_ (by first | omega | (simp; done) | (simp; omega)) _ | refine bel_step ?_ (by assumption))), Blk.new _ _ _⟩
            case round =>
              obtain ⟨j, hj, rfl, hs, hbel, hblk⟩ := hrel
              have HC := Lib.hid hs
              have HB := Lib.hid hblk
              have hlt3 : w.heap.size < wr.heap.size := hblk.lt
              have q0 : wr.cell? ⟨w.heap.size, 0, none⟩ = some (.slice A1 n1 c1) := hblk.cell 0
              have q1 : wr.cell? ⟨w.heap.size, 1, none⟩ = some (.slice A2 n2 c2) := hblk.cell 1
              clear hs hblk
              by_cases hlt2 : j < n1
              · have hj2 : j < cs.length := by have := HN1.out; omega
                have HI2 := Lib.hid (HI.out.below hbel)
                obtain ⟨ad, hA, hb, hc0, hc1, hc2⟩ := HI2.out.crs hj2
                subst hA
                have hs2 := HC.out.trans (crsE_at hj2)
                obtain ⟨⟨p, f, o⟩, hx⟩ : ∃ x, cs[j] = x := ⟨_, rfl⟩
                rw [hx] at hc0 hc1 hc2 hs2
                simp only at hc0 hc1 hc2 hs2
                have HI3 := Lib.hid (fun o => HI2.out.alloc (hbel.size) o)
                have hbel4 : ∀ o : Obj, Below w.heap.size w (wr.alloc o) := fun o => hbel.alloc hbel.size o
                have HB4 := Lib.hid (fun o => HB.out.alloc o)
                have hn3 : (st.length : Int) = n2 := by have := HN2.out; omega
                by_cases b1 : f < 0
                · have HE3 := Lib.hid (HE.out.trans (hs2.trans (if_pos (.inl b1))))
                  clear hs2
                  go_wp2
                  go_ret
                  exact Ret.mk' (by rw [HE3.out]; rfl) (by repeat (first | exact Below.refl _ _ | assumption | refine bel_drewN ?_ _ | refine Below.drew ?_ | refine bel_alloc ?_ _ | refine Below.setCell ?_ (by first | omega | (simp; done) | (simp; omega)) _ | refine bel_step ?_ (by assumption)))
                · by_cases b2 : (n2 : Int) < f
                  · have HE3 := Lib.hid (HE.out.trans (hs2.trans (if_pos (.inr (by omega)))))
                    clear hs2 hn3
                    go_wp2
                    go_ret
                    exact Ret.mk' (by rw [HE3.out]; rfl) (by repeat (first | exact Below.refl _ _ | assumption | refine bel_drewN ?_ _ | refine Below.drew ?_ | refine bel_alloc ?_ _ | refine Below.setCell ?_ (by first | omega | (simp; done) | (simp; omega)) _ | refine bel_step ?_ (by assumption)))
                  · rw [if_neg (by omega)] at hs2
                    by_cases b3 : p < 0
                    · have HE3 := Lib.hid (HE.out.trans (hs2.trans (if_pos (.inl (.inl b3)))))
                      clear hs2 hn3
                      go_wp2
                      go_ret
                      exact Ret.mk' (by rw [HE3.out]; rfl) (by repeat (first | exact Below.refl _ _ | assumption | refine bel_drewN ?_ _ | refine Below.drew ?_ | refine bel_alloc ?_ _ | refine Below.setCell ?_ (by first | omega | (simp; done) | (simp; omega)) _ | refine bel_step ?_ (by assumption)))
                    · by_cases b4 : 127 < p
                      · have HE3 := Lib.hid (HE.out.trans (hs2.trans (if_pos (.inl (.inr b4)))))
                        clear hs2 hn3
                        go_wp2
                        go_ret
                        exact Ret.mk' (by rw [HE3.out]; rfl) (by repeat (first | exact Below.refl _ _ | assumption | refine bel_drewN ?_ _ | refine Below.drew ?_ | refine bel_alloc ?_ _ | refine Below.setCell ?_ (by first | omega | (simp; done) | (simp; omega)) _ | refine bel_step ?_ (by assumption)))
                      · have HT := fun (w' : World) (hI : InsAt w' w.heap.size (some ad) A2 cs st) (hB : w.heap.size ≤ w'.heap.size) => highest_any (some ad) A2 cs st n1 n2 c1 c2 w.heap.size p f o w' hI hB HN2.out (by omega) (by omega) h18 HBD.out
                        have hsz := hbel.size
                        by_cases b5 : 127 < topOf st (p, f, o)
                        · have HE3 := Lib.hid (HE.out.trans (hs2.trans (if_pos (.inr b5))))
                          clear hs2 hn3
                          generalize topOf st (p, f, o) = T at *
                          have HTT := Lib.hid HT
                          clear HT
                          go_wp2_with (go_at_call 173; refine (HTT.out _ (HI3.out _) (by simp; omega)).mono ?_; rintro e w2 ⟨rfl, hb2⟩)
                          go_ret
                          exact Ret.mk' (by rw [HE3.out]; rfl) (by repeat (first | exact Below.refl _ _ | assumption | refine bel_drewN ?_ _ | refine Below.drew ?_ | refine bel_alloc ?_ _ | refine Below.setCell ?_ (by first | omega | (simp; done) | (simp; omega)) _ | refine bel_step ?_ (by assumption)))
                        · rw [if_neg (by omega)] at hs2
                          have HS4 := Lib.hid hs2
                          clear hs2 hn3
                          generalize topOf st (p, f, o) = T at *
                          have HTT := Lib.hid HT
                          clear HT
                          go_wp2_with (go_at_call 173; refine (HTT.out _ (HI3.out _) (by simp; omega)).mono ?_; rintro e w2 ⟨rfl, hb2⟩; have K1 := Lib.hid ((HB4.out _).after hb2))
                          go_roundw
                          case rel => exact ⟨j + 1, by omega, by go_num, HS4.out, (by repeat (first | exact Below.refl _ _ | assumption | refine bel_drewN ?_ _ | refine Below.drew ?_ | refine bel_alloc ?_ _ | refine Below.setCell ?_ (by first | omega | (simp; done) | (simp; omega)) _ | refine bel_step ?_ (by assumption))), K1.out⟩
                          case measure => simp [intOf]; omega
              · have HE3 := Lib.hid (HE.out.trans (HC.out.trans (show crsE st (cs.drop j) = 0 from by rw [List.drop_eq_nil_of_le (by have := HN1.out; omega)]; rfl)))
                go_wp2
                go_ret
                exact Ret.mk' (by rw [HE3.out]; rfl) (by repeat (first | exact Below.refl _ _ | assumption | refine bel_drewN ?_ _ | refine Below.drew ?_ | refine bel_alloc ?_ _ | refine Below.setCell ?_ (by first | omega | (simp; done) | (simp; omega)) _ | refine bel_step ?_ (by assumption)))
end Go.Proofs.YtkgnmddakiagbaaGreatDoor
