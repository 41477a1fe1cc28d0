/- append to a row of the call's own, from a slice that reads as rows of cells. -/
import Derived.Test.YteldgllgagjciaaGreatRd
namespace Go.Proofs.YteldgllgagjciaaGreat
open Go.RowKit
set_option linter.unusedVariables false
theorem flatten_at {size : Nat} : ∀ {l : List (List Value)}, (∀ r ∈ l, r.length = size) → ∀ k r, l[k]? = some r → ∀ j u, r[j]? = some u → l.flatten[k * size + j]? = some u := by
  intro l
  induction l with
  | nil => intro _ k r h; simp at h
  | cons x t ih =>
    intro hl k r hr j u hu
    have hx : x.length = size := hl x (by simp)
    cases k with
    | zero =>
      obtain rfl : x = r := by simpa using hr
      have hj : j < x.length := (List.getElem?_eq_some_iff.1 hu).1
      rw [List.flatten_cons, Nat.zero_mul, Nat.zero_add, List.getElem?_append_left hj]; exact hu
    | succ k =>
      have := ih (fun r h => hl r (by simp [h])) k r (by simpa using hr) j u hu
      rw [List.flatten_cons, List.getElem?_append_right (by rw [hx, Nat.succ_mul]; omega), hx, Nat.succ_mul]
      rw [show k * size + size + j - size = k * size + j from by omega]
      exact this
theorem flatten_len {size : Nat} : ∀ {l : List (List Value)}, (∀ r ∈ l, r.length = size) → l.flatten.length = l.length * size := by
  intro l
  induction l with
  | nil => intro _; simp
  | cons x t ih =>
    intro hl
    rw [List.flatten_cons, List.length_append, hl x (by simp), ih (fun r h => hl r (by simp [h])), List.length_cons, Nat.succ_mul]; omega
theorem flatten_mem {size : Nat} : ∀ {l : List (List Value)}, (∀ r ∈ l, r.length = size) → ∀ i u, l.flatten[i]? = some u → ∃ k r j, l[k]? = some r ∧ r[j]? = some u ∧ i = k * size + j := by
  intro l
  induction l with
  | nil => intro _ i u h; simp at h
  | cons x t ih =>
    intro hl i u h
    have hx : x.length = size := hl x (by simp)
    rw [List.flatten_cons] at h
    by_cases e : i < x.length
    · rw [List.getElem?_append_left e] at h
      exact ⟨0, x, i, by simp, h, by simp⟩
    · rw [List.getElem?_append_right (by omega)] at h
      obtain ⟨k, r, j, a, b, c⟩ := ih (fun r h => hl r (by simp [h])) _ _ h
      exact ⟨k + 1, r, j, by simpa using a, b, by rw [Nat.succ_mul]; omega⟩
section
variable {P : Program} {w w' : World} {B B' size : Nat} {A : Option Addr} {l : List (List Value)}
/-- A row of the call's own reads as its rows of cells. -/
theorem rd_of_own {base : Nat} {e : TypeId} {v : Value} {n : Nat} {xs : List Value} (h : w.ownsRow base e size v n xs) (hl : ∀ r ∈ l, r.length = size) (hxs : xs = l.flatten) (hn : n = l.length) :
    ∃ A c, v = .slice A n c ∧ Rd w w.heap.size size A l ∧ (∀ ad, A = some ad → v.ownBlock = some ad.block ∧ base ≤ ad.block) ∧ n ≤ c := by
  rcases h.2 with ⟨rfl, h0⟩ | ⟨g, cap, cur, rfl, hb, hh, hnc, hcm, hcs, ht⟩
  · subst h0
    have hnil : l = [] := List.eq_nil_of_length_eq_zero hn.symm
    subst hnil
    exact ⟨none, 0, rfl, Rd.none_, (fun ad h => by cases h), Nat.le_refl _⟩
  · refine ⟨some ⟨g, 0, none⟩, cap, rfl, fun hpos => ⟨⟨g, 0, none⟩, rfl, ?_, fun k r hr j u hu => ?_⟩, (fun ad h => by injection h with h; subst h; exact ⟨rfl, hb⟩), hnc⟩
    · show g < w.heap.size
      rcases Nat.lt_or_ge g w.heap.size with hlt | hge
      · exact hlt
      · rw [Array.getElem?_eq_none hge] at hh; cases hh
    · have h1 := flatten_at hl k r hr j u hu
      rw [← hxs, ← ht] at h1
      rw [add_zero_addr, cell_of_row w g _ cur e (0, 0) hh]
      rw [List.getElem?_take] at h1
      split at h1
      · simpa using h1
      · cases h1
theorem Rd.far (h : Rd w B size A l) (hk : ∀ ad, A = some ad → w'.heap[ad.block]? = w.heap[ad.block]?) (hB : B ≤ B') : Rd w' B' size A l := fun hn => by
  obtain ⟨ad, e, hb, hc⟩ := h hn
  exact ⟨ad, e, by omega, fun k r hr j u hu => (World.cell?_of_block (by rw [block_of_add]; exact hk ad e)).trans (hc k r hr j u hu)⟩
/-- append(own, xs...): the source nil, empty or not. -/
theorem run_append_rd (base : Nat) (t ty e : TypeId) (i : TypeInfo) (z : Value) (size bytes : Nat) (ht : P.underlying t = some (.slice e)) (hi : P.info? e = some i) (hz : i.zero = some z)
    (hsize : i.size = size) (hby : i.bytes = bytes) (hzs : z.cells.size = size) (hsz : 0 < size)
    (v : Value) (n : Nat) (xs : List Value) (hown : w.ownsRow base e size v n xs)
    (c : Nat) (hr : Rd w B size A l) (hl : ∀ r ∈ l, r.length = size) (h1 : ∀ r ∈ l, ∀ u ∈ r, u.oneCell' = true)
    (h63 : n + l.length ≤ maxLen) (hbytes : (n + l.length) * bytes ≤ 140737488355328) (hbase : base ≤ w.heap.size) :
    ∃ v' w', (Builtin.append_ #[t, t] ty #[v, .slice A l.length c]).run P w = .ok v' w' ∧ w'.ownsRow base e size v' (n + l.length) (xs ++ l.flatten) ∧ w.grownBy w' v.ownBlock ∧
      (v'.ownBlock = v.ownBlock ∨ v'.ownBlock = some w.heap.size) := by
  rcases A with _ | ad
  · have hm : l = [] := by
      rcases Nat.eq_zero_or_pos l.length with h0 | h0
      · exact List.eq_nil_of_length_eq_zero h0
      · obtain ⟨ad, h, _⟩ := hr h0
        cases h
    subst hm
    refine ⟨v, w, ?_, by simpa using hown, World.grownBy.refl w _, .inl rfl⟩
    rcases hown.2 with ⟨rfl, rfl⟩ | ⟨g, cap, cur, rfl, _, _, hnc, _⟩
    · simp [Builtin.append_, run_underlying ht, sizeOf, typeInfo, hi, Builtin.lenOf, Builtin.firstCells]
    · simp [Builtin.append_, run_underlying ht, sizeOf, typeInfo, hi, Builtin.lenOf, Builtin.firstCells, hnc, storeCells]
  · have hcells : ∀ j u, l.flatten[j]? = some u → w.cell? (ad.add j) = some u := by
      intro j u hu
      obtain ⟨k, r, q, hk, hq, rfl⟩ := flatten_mem hl j u hu
      have hpos : 0 < l.length := by have := (List.getElem?_eq_some_iff.1 hk).1; omega
      obtain ⟨ad', h, _, hc⟩ := hr hpos
      injection h with h
      subst h
      exact hc k r hk q u hq
    obtain ⟨v', w', hrun, h2, h3, _, h5⟩ := run_append_own_at (P := P) w base t ty e i z size bytes ht hi hz hsize hby hzs hsz v n xs hown ad l.length c l.flatten (flatten_len hl) hcells
      (fun u hu => by obtain ⟨r, hr1, hr2⟩ := List.mem_flatten.1 hu; exact h1 r hr1 u hr2) h63 hbytes hbase
    exact ⟨v', w', hrun, h2, h3, h5⟩
/-- append to an empty row: []T{}. -/
theorem wp_append_new {o : Oper} {a : Act} {K : Act → World → Prop} {Q : Exit → Act → World → Prop} (s x : Operand) (t : TypeId)
    (ho : o.op = .call { callee := .builtin .append, args := #[s, x], argTypes := #[t, t] })
    (e : TypeId) (i : TypeInfo) (z : Value) (size bytes : Nat) (ht : P.underlying t = some (.slice e)) (hi : P.info? e = some i) (hz : i.zero = some z)
    (hsize : i.size = size) (hby : i.bytes = bytes) (hzs : z.cells.size = size) (hsz : 0 < size)
    (g : Nat) (hs : a.eval s = .slice (some ⟨g, 0, none⟩) 0 0) (hown : Blk w g e #[])
    (B : Nat) (A : Option Addr) (l : List (List Value)) (m c : Nat) (hx : a.eval x = .slice A m c) (hm : m = l.length) (hr : Rd w B size A l) (hl : ∀ r ∈ l, r.length = size) (h1 : ∀ r ∈ l, ∀ u ∈ r, u.oneCell' = true)
    (h63 : l.length ≤ maxLen) (hbytes : l.length * bytes ≤ 140737488355328)
    (h : ∀ A' c' w', Rd w' w'.heap.size size A' l → w.grownBy w' (some g) → ((∀ ad, A' = some ad → (ad.block = g ∨ ad.block = w.heap.size) ∧ ad.block < w'.heap.size) ∧ m ≤ c') → K (a.put o.dst (.slice A' m c')) w') : o.wp P a w K Q := by
  subst hm
  have hO : w.ownsRow g e size (.slice (some ⟨g, 0, none⟩) 0 0) 0 [] := ⟨by simp, .inr ⟨g, 0, #[], rfl, Nat.le_refl _, hown, Nat.le_refl _, by simp, by simp, by simp⟩⟩
  obtain ⟨v', w', hrun, h2, h3, h4⟩ := run_append_rd (P := P) (A := A) (l := l) g t o.type e i z size bytes ht hi hz hsize hby hzs hsz _ 0 [] hO c hr hl h1 (by omega) (by simpa using hbytes) (Nat.le_of_lt hown.lt)
  obtain ⟨A', c', hv, hrd, hat, hcap⟩ := rd_of_own h2 hl (by simp) (by omega)
  rw [Nat.zero_add] at hv
  subst hv
  unfold Oper.wp execOp
  simp only [ho, resolve, invoke, builtin, Sem.run_bind, Sem.run_pure, Result.andThen_ok, List.map_toArray, List.map_cons, List.map_nil, hs, hx, hrun]
  refine h A' c' w' hrd h3 ⟨fun ad had => ?_, by omega⟩
  have := (hat ad had).1
  have hlt : ad.block < w'.heap.size := by
    rcases h2.2 with ⟨h, _⟩ | ⟨g', cap, cur, h, _, hh, _⟩
    · rw [h] at this; simp [Value.ownBlock] at this
    · rw [h] at this
      obtain rfl : g' = ad.block := by simpa [Value.ownBlock] using this
      rcases Nat.lt_or_ge ad.block w'.heap.size with hlt | hge
      · exact hlt
      · rw [Array.getElem?_eq_none hge] at hh; cases hh
  rw [this] at h4
  exact ⟨by simpa [Value.ownBlock] using h4, hlt⟩
theorem wpList_append_new {ops : Array Oper} {rest : List Oper} {o : Oper} {a : Act} {Q : Exit → Act → World → Prop} (hgd : o.guard = none) (s x : Operand) (t : TypeId)
    (ho : o.op = .call { callee := .builtin .append, args := #[s, x], argTypes := #[t, t] })
    (e : TypeId) (i : TypeInfo) (z : Value) (size bytes : Nat) (ht : P.underlying t = some (.slice e)) (hi : P.info? e = some i) (hz : i.zero = some z)
    (hsize : i.size = size) (hby : i.bytes = bytes) (hzs : z.cells.size = size) (hsz : 0 < size)
    (g : Nat) (hs : a.eval s = .slice (some ⟨g, 0, none⟩) 0 0) (hown : Blk w g e #[])
    (B : Nat) (A : Option Addr) (l : List (List Value)) (m c : Nat) (hx : a.eval x = .slice A m c) (hm : m = l.length) (hr : Rd w B size A l) (hl : ∀ r ∈ l, r.length = size) (h1 : ∀ r ∈ l, ∀ u ∈ r, u.oneCell' = true)
    (h63 : l.length ≤ maxLen) (hbytes : l.length * bytes ≤ 140737488355328)
    (h : ∀ A' c' w', Rd w' w'.heap.size size A' l → w.grownBy w' (some g) → ((∀ ad, A' = some ad → (ad.block = g ∨ ad.block = w.heap.size) ∧ ad.block < w'.heap.size) ∧ m ≤ c') → wpList P ops Q rest (a.put o.dst (.slice A' m c')) w') : wpList P ops Q (o :: rest) a w :=
  wpList_plain hgd fun _ hK => wp_append_new s x t ho e i z size bytes ht hi hz hsize hby hzs hsz g hs hown B A l m c hx hm hr hl h1 h63 hbytes fun A' c' w' h2 h3 h4 => hK _ _ (h A' c' w' h2 h3 h4)
theorem step_append_new {ops : Array Oper} {o : Oper} {a : Act} {K : Act → World → Prop} {Q : Exit → Act → World → Prop} {E : Prop} (hgd : o.guard = none) (s x : Operand) (t : TypeId)
    (ho : o.op = .call { callee := .builtin .append, args := #[s, x], argTypes := #[t, t] })
    (e : TypeId) (i : TypeInfo) (z : Value) (size bytes : Nat) (ht : P.underlying t = some (.slice e)) (hi : P.info? e = some i) (hz : i.zero = some z)
    (hsize : i.size = size) (hby : i.bytes = bytes) (hzs : z.cells.size = size) (hsz : 0 < size)
    (g : Nat) (hs : a.eval s = .slice (some ⟨g, 0, none⟩) 0 0) (hown : Blk w g e #[])
    (B : Nat) (A : Option Addr) (l : List (List Value)) (m c : Nat) (hx : a.eval x = .slice A m c) (hm : m = l.length) (hr : Rd w B size A l) (hl : ∀ r ∈ l, r.length = size) (h1 : ∀ r ∈ l, ∀ u ∈ r, u.oneCell' = true)
    (h63 : l.length ≤ maxLen) (hbytes : l.length * bytes ≤ 140737488355328)
    (h : ∀ A' c' w', Rd w' w'.heap.size size A' l → w.grownBy w' (some g) → ((∀ ad, A' = some ad → (ad.block = g ∨ ad.block = w.heap.size) ∧ ad.block < w'.heap.size) ∧ m ≤ c') → K (a.put o.dst (.slice A' m c')) w') :
    if Region.wanted o (yielded ops a.tmps) = true then Oper.wp P o a w K Q else E := by
  have hw : Region.wanted o (yielded ops a.tmps) = true := by simp [Region.wanted, hgd]
  rw [if_pos hw]
  exact wp_append_new s x t ho e i z size bytes ht hi hz hsize hby hzs hsz g hs hown B A l m c hx hm hr hl h1 h63 hbytes h
end
theorem blk_new' {w : World} {g : Nat} {t : TypeId} {cs : Array Value} (h : g = w.heap.size) : Blk (w.alloc (.cells cs t)) g t cs := by subst h; exact Blk.new _ _ _
theorem blk_grown {w w' : World} {g : Nat} {t : TypeId} {cs : Array Value} {row : Option Nat} (h : Blk w g t cs) (hb : w.grownBy w' row) (hg : some g ≠ row) : Blk w' g t cs := (hb.block g h.lt hg).trans h
end Go.Proofs.YteldgllgagjciaaGreat
