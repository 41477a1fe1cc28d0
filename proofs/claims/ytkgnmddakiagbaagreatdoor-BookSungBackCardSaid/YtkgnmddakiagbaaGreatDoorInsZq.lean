/- Check of an instrument: the program. -/
import Derived.Test.YtkgnmddakiagbaaGreatDoorRefZq
import Derived.Deep.Draws
import Derived.OwnWalk
import Derived.Maps.AppendAt
import Derived.Deep.AppendLies
import Derived.Laws.OwnMore
import Derived.WalkKit
import Derived.Handy
import Derived.WalkLawsBesides
import Derived.Deep.MidRow
import Derived.Lib.Hide
import Derived.Lib.FrozenHead
import Derived.Test.YtkgnmddakiagbaaGreatDoorProg
set_option linter.unusedVariables false
set_option linter.unusedSimpArgs false
namespace Go.Proofs.YtkgnmddakiagbaaGreatDoor
open Go.RowKit
theorem flatten_at {size : Nat} : ∀ {l : List (List Value)}, (∀ r ∈ l, r.length = size) → ∀ k r, l[k]? = some r → ∀ j u, r[j]? = some u → l.flatten[k * size + j]? = some u := by
  intro l
  induction l with
  | nil => intro _ k r h; simp at h
  | cons x t ih =>
    intro hl k r hr j u hu
    have hx : x.length = size := hl x (by simp)
    cases k with
    | zero =>
      obtain rfl : x = r := by simpa using hr
      have hj : j < x.length := (List.getElem?_eq_some_iff.1 hu).1
      rw [List.flatten_cons, Nat.zero_mul, Nat.zero_add, List.getElem?_append_left hj]; exact hu
    | succ k =>
      have := ih (fun r h => hl r (by simp [h])) k r (by simpa using hr) j u hu
      rw [List.flatten_cons, List.getElem?_append_right (by rw [hx, Nat.succ_mul]; omega), hx, Nat.succ_mul]
      rw [show k * size + size + j - size = k * size + j from by omega]
      exact this
theorem flatten_len {size : Nat} : ∀ {l : List (List Value)}, (∀ r ∈ l, r.length = size) → l.flatten.length = l.length * size := by
  intro l
  induction l with
  | nil => intro _; simp
  | cons x t ih =>
    intro hl
    rw [List.flatten_cons, List.length_append, hl x (by simp), ih (fun r h => hl r (by simp [h])), List.length_cons, Nat.succ_mul]; omega
theorem flatten_mem {size : Nat} : ∀ {l : List (List Value)}, (∀ r ∈ l, r.length = size) → ∀ i u, l.flatten[i]? = some u → ∃ k r j, l[k]? = some r ∧ r[j]? = some u ∧ i = k * size + j := by
  intro l
  induction l with
  | nil => intro _ i u h; simp at h
  | cons x t ih =>
    intro hl i u h
    have hx : x.length = size := hl x (by simp)
    rw [List.flatten_cons] at h
    by_cases e : i < x.length
    · rw [List.getElem?_append_left e] at h
      exact ⟨0, x, i, by simp, h, by simp⟩
    · rw [List.getElem?_append_right (by omega)] at h
      obtain ⟨k, r, j, a, b, c⟩ := ih (fun r h => hl r (by simp [h])) _ _ h
      exact ⟨k + 1, r, j, by simpa using a, b, by rw [Nat.succ_mul]; omega⟩
section
variable {P : Program} {w w' : World} {B B' size : Nat} {A : Option Addr} {l : List (List Value)}
theorem rd_of_own {base : Nat} {e : TypeId} {v : Value} {n : Nat} {xs : List Value} (h : w.ownsRow base e size v n xs) (hl : ∀ r ∈ l, r.length = size) (hxs : xs = l.flatten) (hn : n = l.length) :
    ∃ A c, v = .slice A n c ∧ Rd w w.heap.size size A l ∧ (∀ ad, A = some ad → v.ownBlock = some ad.block ∧ base ≤ ad.block) ∧ n ≤ c := by
  rcases h.2 with ⟨rfl, h0⟩ | ⟨g, cap, cur, rfl, hb, hh, hnc, hcm, hcs, ht⟩
  · subst h0
    have hnil : l = [] := List.eq_nil_of_length_eq_zero hn.symm
    subst hnil
    exact ⟨none, 0, rfl, Rd.none_, (fun ad h => by cases h), Nat.le_refl _⟩
  · refine ⟨some ⟨g, 0, none⟩, cap, rfl, fun hpos => ⟨⟨g, 0, none⟩, rfl, ?_, fun k r hr j u hu => ?_⟩, (fun ad h => by injection h with h; subst h; exact ⟨rfl, hb⟩), hnc⟩
    · show g < w.heap.size
      rcases Nat.lt_or_ge g w.heap.size with hlt | hge
      · exact hlt
      · rw [Array.getElem?_eq_none hge] at hh; cases hh
    · have h1 := flatten_at hl k r hr j u hu
      rw [← hxs, ← ht] at h1
      rw [add_zero_addr, cell_of_row w g _ cur e (0, 0) hh]
      rw [List.getElem?_take] at h1
      split at h1
      · simpa using h1
      · cases h1
theorem run_append_rd (base : Nat) (t ty e : TypeId) (i : TypeInfo) (z : Value) (size bytes : Nat) (ht : P.underlying t = some (.slice e)) (hi : P.info? e = some i) (hz : i.zero = some z)
    (hsize : i.size = size) (hby : i.bytes = bytes) (hzs : z.cells.size = size) (hsz : 0 < size)
    (v : Value) (n : Nat) (xs : List Value) (hown : w.ownsRow base e size v n xs)
    (c : Nat) (hr : Rd w B size A l) (hl : ∀ r ∈ l, r.length = size) (h1 : ∀ r ∈ l, ∀ u ∈ r, u.oneCell' = true)
    (h63 : n + l.length ≤ maxLen) (hbytes : (n + l.length) * bytes ≤ 140737488355328) (hbase : base ≤ w.heap.size) :
    ∃ v' w', (Builtin.append_ #[t, t] ty #[v, .slice A l.length c]).run P w = .ok v' w' ∧ w'.ownsRow base e size v' (n + l.length) (xs ++ l.flatten) ∧ w.grownBy w' v.ownBlock ∧
      (v'.ownBlock = v.ownBlock ∨ v'.ownBlock = some w.heap.size) := by
  rcases A with _ | ad
  · have hm : l = [] := by
      rcases Nat.eq_zero_or_pos l.length with h0 | h0
      · exact List.eq_nil_of_length_eq_zero h0
      · obtain ⟨ad, h, _⟩ := hr h0
        cases h
    subst hm
    refine ⟨v, w, ?_, by simpa using hown, World.grownBy.refl w _, .inl rfl⟩
    rcases hown.2 with ⟨rfl, rfl⟩ | ⟨g, cap, cur, rfl, _, _, hnc, _⟩
    · simp [Builtin.append_, run_underlying ht, sizeOf, typeInfo, hi, Builtin.lenOf, Builtin.firstCells]
    · simp [Builtin.append_, run_underlying ht, sizeOf, typeInfo, hi, Builtin.lenOf, Builtin.firstCells, hnc, storeCells]
  · have hcells : ∀ j u, l.flatten[j]? = some u → w.cell? (ad.add j) = some u := by
      intro j u hu
      obtain ⟨k, r, q, hk, hq, rfl⟩ := flatten_mem hl j u hu
      have hpos : 0 < l.length := by have := (List.getElem?_eq_some_iff.1 hk).1; omega
      obtain ⟨ad', h, _, hc⟩ := hr hpos
      injection h with h
      subst h
      exact hc k r hk q u hq
    obtain ⟨v', w', hrun, h2, h3, _, h5⟩ := run_append_own_at (P := P) w base t ty e i z size bytes ht hi hz hsize hby hzs hsz v n xs hown ad l.length c l.flatten (flatten_len hl) hcells
      (fun u hu => by obtain ⟨r, hr1, hr2⟩ := List.mem_flatten.1 hu; exact h1 r hr1 u hr2) h63 hbytes hbase
    exact ⟨v', w', hrun, h2, h3, h5⟩
end
theorem blk_new' {w : World} {g : Nat} {t : TypeId} {cs : Array Value} (h : g = w.heap.size) : Blk (w.alloc (.cells cs t)) g t cs := by subst h; exact Blk.new _ _ _
theorem blk_grown {w w' : World} {g : Nat} {t : TypeId} {cs : Array Value} {row : Option Nat} (h : Blk w g t cs) (hb : w.grownBy w' row) (hg : some g ≠ row) : Blk w' g t cs := (hb.block g h.lt hg).trans h
end Go.Proofs.YtkgnmddakiagbaaGreatDoor
namespace Go.Proofs.YtkgnmddakiagbaaGreatDoor
open Go.RowKit
theorem rd_block {w : World} {g : Nat} {t : TypeId} {cs : List Value} {size : Nat} (h : Blk w g t cs.toArray) (hs : cs.length = size) : Rd w w.heap.size size (some ⟨g, 0, none⟩) [cs] := fun _ => by
  refine ⟨⟨g, 0, none⟩, rfl, h.lt, fun k r hr j u hu => ?_⟩
  match k with
  | 0 =>
    obtain rfl : cs = r := by simpa using hr
    rw [Nat.zero_mul, Nat.zero_add, add_zero_addr, h.cell]
    simpa using hu
  | k + 1 => simp at hr
theorem wpList_append_rd {P : Program} {w : World} {ops : Array Oper} {rest : List Oper} {o : Oper} {a : Act} {Q : Exit → Act → World → Prop} (hgd : o.guard = none) (s x : Operand) (t : TypeId)
    (ho : o.op = .call { callee := .builtin .append, args := #[s, x], argTypes := #[t, t] })
    (base : Nat) (e : TypeId) (i : TypeInfo) (z : Value) (size bytes : Nat) (ht : P.underlying t = some (.slice e)) (hi : P.info? e = some i) (hz : i.zero = some z)
    (hsize : i.size = size) (hby : i.bytes = bytes) (hzs : z.cells.size = size) (hsz : 0 < size)
    (v : Value) (n : Nat) (L : List (List Value)) (hs : a.eval s = v) (hown : w.ownsRow base e size v n L.flatten) (hL : ∀ r ∈ L, r.length = size) (hn : n = L.length)
    (B : Nat) (A : Option Addr) (l : List (List Value)) (m c : Nat) (hx : a.eval x = .slice A m c) (hm : m = l.length) (hr : Rd w B size A l) (hl : ∀ r ∈ l, r.length = size) (h1 : ∀ r ∈ l, ∀ u ∈ r, u.oneCell' = true)
    (h63 : n + l.length ≤ maxLen) (hbytes : (n + l.length) * bytes ≤ 140737488355328) (hbase : base ≤ w.heap.size)
    (h : ∀ A' c' w', w'.ownsRow base e size (.slice A' (n + m) c') (n + m) (L ++ l).flatten → w.grownBy w' v.ownBlock → ((Value.slice A' (n + m) c').ownBlock = v.ownBlock ∨ (Value.slice A' (n + m) c').ownBlock = some w.heap.size) → wpList P ops Q rest (a.put o.dst (.slice A' (n + m) c')) w') :
    wpList P ops Q (o :: rest) a w :=
  wpList_plain hgd fun _ hK => by
    subst hm
    obtain ⟨v', w', hrun, h2, h3, h4⟩ := run_append_rd (P := P) (A := A) (l := l) base t o.type e i z size bytes ht hi hz hsize hby hzs hsz v n L.flatten hown c hr hl h1 h63 hbytes hbase
    rw [← List.flatten_append] at h2
    obtain ⟨A', c', hv, hrd, hat, hcap⟩ := rd_of_own (l := L ++ l) h2 (fun r hr => by rcases List.mem_append.1 hr with h | h; exact hL r h; exact hl r h) rfl (by simp [hn])
    subst hv
    unfold Oper.wp execOp
    simp only [ho, resolve, invoke, builtin, Sem.run_bind, Sem.run_pure, Result.andThen_ok, List.map_toArray, List.map_cons, List.map_nil, hs, hx, hrun]
    exact hK _ _ (h A' c' w' h2 h3 h4)
theorem own_keep {w w' : World} {base : Nat} {e : TypeId} {size n : Nat} {v : Value} {xs : List Value} (h : w.ownsRow base e size v n xs) (hk : ∀ g, v.ownBlock = some g → g < w.heap.size → w'.heap[g]? = w.heap[g]?) : w'.ownsRow base e size v n xs := by
  rcases h with ⟨h1, ⟨rfl, h2⟩ | ⟨g, cap, cur, rfl, hbg, hh, h3⟩⟩
  · exact ⟨h1, .inl ⟨rfl, h2⟩⟩
  · have hlt : g < w.heap.size := by
      rcases Nat.lt_or_ge g w.heap.size with hlt | hge
      · exact hlt
      · rw [Array.getElem?_eq_none hge] at hh; cases hh
    exact ⟨h1, .inr ⟨g, cap, cur, rfl, hbg, (hk g rfl hlt).trans hh, h3⟩⟩
theorem own_lt {w : World} {base : Nat} {e : TypeId} {size n : Nat} {v : Value} {xs : List Value} (h : w.ownsRow base e size v n xs) : ∀ g, v.ownBlock = some g → base ≤ g ∧ g < w.heap.size := by
  intro g hg
  rcases h.2 with ⟨rfl, _⟩ | ⟨g', cap, cur, rfl, hb, hh, _⟩
  · simp [Value.ownBlock] at hg
  · obtain rfl : g' = g := by simpa [Value.ownBlock] using hg
    refine ⟨hb, ?_⟩
    rcases Nat.lt_or_ge g' w.heap.size with hlt | hge
    · exact hlt
    · rw [Array.getElem?_eq_none hge] at hh; cases hh
end Go.Proofs.YtkgnmddakiagbaaGreatDoor
namespace Go.Proofs.YtkgnmddakiagbaaGreatDoor
open Go.RowKit
inductive AV where
  | sc (v : Value)
  | ag (l : List AV)
  | tu (l : List AV)
  | ls (n : Nat) (rows : List (List AV))
  | ow (T : TypeId) (n : Nat) (rows : List (List AV))
  | pr (cells : List AV)
  | pt (k i j : Nat)
  | sl (k : Nat)
  | fn (f : FuncId) (caps : List AV)
abbrev View := Addr → Option Value
inductive RP (F : View) : AV → Value → Prop
  | sc (v : Value) : RP F (.sc v) v
  | ag (l : List AV) (cs : Array Value) : cs.size = l.length → (∀ (i : Nat) av u, l[i]? = some av → cs[i]? = some u → RP F av u) → RP F (.ag l) (.agg cs)
  | tu (l : List AV) (cs : Array Value) : cs.size = l.length → (∀ (i : Nat) av u, l[i]? = some av → cs[i]? = some u → RP F av u) → RP F (.tu l) (.tuple cs)
  | ls (n : Nat) (rows : List (List AV)) (A : Option Addr) (cap : Nat) (ad : Addr) (u : Nat → Nat → Value) : rows.length ≤ cap → (∀ r ∈ rows, r.length = n) → (0 < rows.length → A = some ad) →
      (∀ (i : Nat) r (j : Nat) av, rows[i]? = some r → r[j]? = some av → F (ad.add (i * n + j)) = some (u i j) ∧ (u i j).oneCell' = true) →
      (∀ (i : Nat) r (j : Nat) av, rows[i]? = some r → r[j]? = some av → RP F av (u i j)) → RP F (.ls n rows) (.slice A rows.length cap)
  | pr (cells : List AV) (p : Addr) (u : Nat → Value) : (∀ (j : Nat) av, cells[j]? = some av → F (p.add j) = some (u j) ∧ (u j).oneCell' = true) →
      (∀ (j : Nat) av, cells[j]? = some av → RP F av (u j)) → RP F (.pr cells) (.pointer (some p))
  | fn (f : FuncId) (l : List AV) (cs : Array Value) : cs.size = l.length → (∀ (i : Nat) av u, l[i]? = some av → cs[i]? = some u → RP F av u) → RP F (.fn f l) (.func (.func f) #[] cs)
def View.le (F F' : View) : Prop := ∀ p u, F p = some u → F' p = some u
theorem RP.mono {F F' : View} (h : F.le F') {av : AV} {v : Value} (r : RP F av v) : RP F' av v := by
  induction r with
  | sc v => exact .sc v
  | ag l cs h1 _ ih => exact .ag l cs h1 ih
  | tu l cs h1 _ ih => exact .tu l cs h1 ih
  | ls n rows A cap ad u h0 h1 h2 h3 _ ih => exact .ls n rows A cap ad u h0 h1 h2 (fun i r j av a b => ⟨h _ _ (h3 i r j av a b).1, (h3 i r j av a b).2⟩) ih
  | pr cells p u h1 _ ih => exact .pr cells p u (fun j av a => ⟨h _ _ (h1 j av a).1, (h1 j av a).2⟩) ih
  | fn f l cs h1 _ ih => exact .fn f l cs h1 ih
structure Gh where
  F : View
  b : Nat → Nat
  n : Nat → Nat
  h : Nat → Value
  fp : Nat → Nat → Prop
inductive R (G : Gh) : AV → Value → Prop
  | pu (av : AV) (v : Value) : RP G.F av v → R G av v
  | pt (k i j : Nat) (p : Addr) : p.block = G.b k → p.off = i * G.n k + j → p.spot = none → R G (.pt k i j) (.pointer (some p))
  | sl (k : Nat) : (G.h k).oneCell' = true → R G (.sl k) (G.h k)
  | ag (l : List AV) (cs : Array Value) : cs.size = l.length → (∀ (i : Nat) av u, l[i]? = some av → cs[i]? = some u → R G av u) → R G (.ag l) (.agg cs)
  | tu (l : List AV) (cs : Array Value) : cs.size = l.length → (∀ (i : Nat) av u, l[i]? = some av → cs[i]? = some u → R G av u) → R G (.tu l) (.tuple cs)
  | fn (f : FuncId) (l : List AV) (cs : Array Value) : cs.size = l.length → (∀ (i : Nat) av u, l[i]? = some av → cs[i]? = some u → R G av u) → R G (.fn f l) (.func (.func f) #[] cs)
inductive Bd (nk : Nat) : AV → Prop
  | sc (v : Value) : Bd nk (.sc v)
  | ls (n : Nat) (rows : List (List AV)) : Bd nk (.ls n rows)
  | ow (T : TypeId) (n : Nat) (rows : List (List AV)) : Bd nk (.ow T n rows)
  | pr (cells : List AV) : Bd nk (.pr cells)
  | pt (k i j : Nat) : k < nk → Bd nk (.pt k i j)
  | sl (k : Nat) : k < nk → Bd nk (.sl k)
  | ag (l : List AV) : (∀ (i : Nat) x, l[i]? = some x → Bd nk x) → Bd nk (.ag l)
  | tu (l : List AV) : (∀ (i : Nat) x, l[i]? = some x → Bd nk x) → Bd nk (.tu l)
  | fn (f : FuncId) (l : List AV) : (∀ (i : Nat) x, l[i]? = some x → Bd nk x) → Bd nk (.fn f l)
theorem Bd.mono {nk nk' : Nat} (h : nk ≤ nk') {av : AV} (b : Bd nk av) : Bd nk' av := by
  induction b with
  | sc v => exact .sc v
  | ls n rows => exact .ls n rows
  | ow T n rows => exact .ow T n rows
  | pr cells => exact .pr cells
  | pt k i j hk => exact .pt k i j (by omega)
  | sl k hk => exact .sl k (by omega)
  | ag l _ ih => exact .ag l ih
  | tu l _ ih => exact .tu l ih
  | fn f l _ ih => exact .fn f l ih
structure Gh.le (G G' : Gh) (nk : Nat) : Prop where
  F : G.F.le G'.F
  b : ∀ k, k < nk → G'.b k = G.b k
  n : ∀ k, k < nk → G'.n k = G.n k
  h : ∀ k, k < nk → G'.h k = G.h k
theorem Gh.le.refl (G : Gh) (nk : Nat) : G.le G nk := ⟨fun _ _ h => h, fun _ _ => rfl, fun _ _ => rfl, fun _ _ => rfl⟩
theorem R.mono {G G' : Gh} {nk : Nat} (h : G.le G' nk) {av : AV} {v : Value} (r : R G av v) (b : Bd nk av) : R G' av v := by
  induction r with
  | pu av v hp => exact .pu _ _ (hp.mono h.F)
  | pt k i j p h1 h2 h3 =>
    cases b with
    | pt _ _ _ hk => exact .pt k i j p (by rw [h.b k hk]; exact h1) (by rw [h.n k hk]; exact h2) h3
  | sl k h1 =>
    cases b with
    | sl _ hk => rw [← h.h k hk]; exact .sl k (by rw [h.h k hk]; exact h1)
  | ag l cs h1 _ ih =>
    cases b with
    | ag _ hb => exact .ag l cs h1 fun i av u a c => ih i av u a c (hb i av a)
  | tu l cs h1 _ ih =>
    cases b with
    | tu _ hb => exact .tu l cs h1 fun i av u a c => ih i av u a c (hb i av a)
  | fn f l cs h1 _ ih =>
    cases b with
    | fn _ _ hb => exact .fn f l cs h1 fun i av u a c => ih i av u a c (hb i av a)
theorem RP.sc_eq {F : View} {v u : Value} (r : RP F (.sc v) u) : u = v := by cases r; rfl
theorem R.sc_eq {G : Gh} {v u : Value} (r : R G (.sc v) u) : u = v := by cases r with | pu _ _ h => exact h.sc_eq
theorem R.pu_of {G : Gh} {n : Nat} {rows : List (List AV)} {u : Value} (r : R G (.ls n rows) u) : RP G.F (.ls n rows) u := by cases r with | pu _ _ h => exact h
theorem R.pr_of {G : Gh} {cells : List AV} {u : Value} (r : R G (.pr cells) u) : RP G.F (.pr cells) u := by cases r with | pu _ _ h => exact h
theorem RP.no_ow {F : View} {T n : Nat} {rows : List (List AV)} {u : Value} (r : RP F (.ow T n rows) u) : False := by cases r
theorem R.no_ow {G : Gh} {T n : Nat} {rows : List (List AV)} {u : Value} (r : R G (.ow T n rows) u) : False := by cases r with | pu _ _ h => exact h.no_ow
theorem R.ag_of {G : Gh} {l : List AV} {u : Value} (r : R G (.ag l) u) : ∃ cs : Array Value, u = .agg cs ∧ cs.size = l.length ∧ ∀ (i : Nat) av u, l[i]? = some av → cs[i]? = some u → R G av u := by
  cases r with
  | pu _ _ h => cases h with | ag _ cs h1 h2 => exact ⟨cs, rfl, h1, fun i av u a b => .pu _ _ (h2 i av u a b)⟩
  | ag _ cs h1 h2 => exact ⟨cs, rfl, h1, h2⟩
theorem R.tu_of {G : Gh} {l : List AV} {u : Value} (r : R G (.tu l) u) : ∃ cs : Array Value, u = .tuple cs ∧ cs.size = l.length ∧ ∀ (i : Nat) av u, l[i]? = some av → cs[i]? = some u → R G av u := by
  cases r with
  | pu _ _ h => cases h with | tu _ cs h1 h2 => exact ⟨cs, rfl, h1, fun i av u a b => .pu _ _ (h2 i av u a b)⟩
  | tu _ cs h1 h2 => exact ⟨cs, rfl, h1, h2⟩
theorem R.fn_of {G : Gh} {f : FuncId} {l : List AV} {u : Value} (r : R G (.fn f l) u) : ∃ cs : Array Value, u = .func (.func f) #[] cs ∧ cs.size = l.length ∧ ∀ (i : Nat) av u, l[i]? = some av → cs[i]? = some u → R G av u := by
  cases r with
  | pu _ _ h => cases h with | fn _ _ cs h1 h2 => exact ⟨cs, rfl, h1, fun i av u a b => .pu _ _ (h2 i av u a b)⟩
  | fn _ _ cs h1 h2 => exact ⟨cs, rfl, h1, h2⟩
theorem R.pt_of {G : Gh} {k i j : Nat} {u : Value} (r : R G (.pt k i j) u) : ∃ p : Addr, u = .pointer (some p) ∧ p.block = G.b k ∧ p.off = i * G.n k + j ∧ p.spot = none := by
  cases r with
  | pu _ _ h => cases h
  | pt _ _ _ p a b c => exact ⟨p, rfl, a, b, c⟩
theorem R.sl_of {G : Gh} {k : Nat} {u : Value} (r : R G (.sl k) u) : u = G.h k ∧ u.oneCell' = true := by
  cases r with
  | pu _ _ h => cases h
  | sl _ h => exact ⟨rfl, h⟩
theorem RP.ls_of {F : View} {n : Nat} {rows : List (List AV)} {v : Value} (r : RP F (.ls n rows) v) : ∃ A cap ad, ∃ u : Nat → Nat → Value, v = .slice A rows.length cap ∧ (∀ r ∈ rows, r.length = n) ∧ (0 < rows.length → A = some ad) ∧
    (∀ (i : Nat) r (j : Nat) av, rows[i]? = some r → r[j]? = some av → F (ad.add (i * n + j)) = some (u i j) ∧ (u i j).oneCell' = true) ∧ (∀ (i : Nat) r (j : Nat) av, rows[i]? = some r → r[j]? = some av → RP F av (u i j)) ∧ rows.length ≤ cap := by
  cases r with | ls _ _ A cap ad u h0 h1 h2 h3 h4 => exact ⟨A, cap, ad, u, rfl, h1, h2, h3, h4, h0⟩
theorem RP.pr_of {F : View} {cells : List AV} {v : Value} (r : RP F (.pr cells) v) : ∃ p : Addr, ∃ u : Nat → Value, v = .pointer (some p) ∧ (∀ (j : Nat) av, cells[j]? = some av → F (p.add j) = some (u j) ∧ (u j).oneCell' = true) ∧
      (∀ (j : Nat) av, cells[j]? = some av → RP F av (u j)) := by
  cases r with | pr _ p u h1 h2 => exact ⟨p, u, rfl, h1, h2⟩
inductive OW (F : View) (w : World) : AV → Value → (Nat → Prop) → Prop
  | pu (av : AV) (v : Value) (φ : Nat → Prop) : RP F av v → OW F w av v φ
  | ow (T n : Nat) (rows : List (List AV)) (v : Value) (φ : Nat → Prop) (vs : List (List Value)) (Φ : Nat → Nat → Nat → Prop) : (∀ r ∈ rows, r.length = n) → w.ownsRow 0 T n v vs.length vs.flatten → vs.length = rows.length → (∀ r ∈ vs, ∀ u ∈ r, u.oneCell' = true) →
      (∀ g, v.ownBlock = some g → φ g) → (∀ i j x, Φ i j x → φ x ∧ v.ownBlock ≠ some x) → (∀ i j i' j' x, Φ i j x → Φ i' j' x → i = i' ∧ j = j') →
      (∀ (i : Nat) r r', rows[i]? = some r → vs[i]? = some r' → r'.length = r.length) →
      (∀ (i : Nat) r r' (j : Nat) av u, rows[i]? = some r → vs[i]? = some r' → r[j]? = some av → r'[j]? = some u → OW F w av u (Φ i j)) → OW F w (.ow T n rows) v φ
def CR (G : Gh) (w : World) (φ : Nat → Prop) (av : AV) (u : Value) : Prop := R G av u ∨ OW G.F w av u φ
def RowIs (w : World) (T n : Nat) (rows : List (List AV)) (v : Value) (φ : Nat → Prop) (X : Nat → Nat → (Nat → Prop) → AV → Value → Prop) : Prop :=
  (∀ r ∈ rows, r.length = n) ∧ ∃ (vs : List (List Value)) (Φ : Nat → Nat → Nat → Prop), w.ownsRow 0 T n v vs.length vs.flatten ∧ vs.length = rows.length ∧ (∀ r ∈ vs, ∀ u ∈ r, u.oneCell' = true) ∧
      (∀ g, v.ownBlock = some g → φ g) ∧ (∀ i j x, Φ i j x → φ x ∧ v.ownBlock ≠ some x) ∧ (∀ i j i' j' x, Φ i j x → Φ i' j' x → i = i' ∧ j = j') ∧
      (∀ (i : Nat) r r', rows[i]? = some r → vs[i]? = some r' → r'.length = r.length) ∧
      (∀ (i : Nat) r r' (j : Nat) av u, rows[i]? = some r → vs[i]? = some r' → r[j]? = some av → r'[j]? = some u → X i j (Φ i j) av u)
def XP (F : View) : Nat → Nat → (Nat → Prop) → AV → Value → Prop := fun _ _ _ av u => RP F av u
def XO (F : View) (w : World) : Nat → Nat → (Nat → Prop) → AV → Value → Prop := fun _ _ φ av u => OW F w av u φ
def XH (G : Gh) (w : World) (hi hj : Nat) : Nat → Nat → (Nat → Prop) → AV → Value → Prop := fun i j φ av u => if i = hi ∧ j = hj then R G av u else OW G.F w av u φ
theorem ownsRow_keep {w w' : World} {B e size n : Nat} {v : Value} {xs : List Value} (h : w.ownsRow B e size v n xs) (hk : ∀ g, v.ownBlock = some g → w'.heap[g]? = w.heap[g]?) : w'.ownsRow B e size v n xs := by
  refine ⟨h.1, ?_⟩
  rcases h.2 with x | ⟨g, cap, cur, e, hb, hh, hr⟩
  · exact .inl x
  · exact .inr ⟨g, cap, cur, e, hb, (hk g (by rw [e]; rfl)).trans hh, hr⟩
theorem OW.keep {F F' : View} {w w' : World} {av : AV} {v : Value} {φ : Nat → Prop} (hF : F.le F') (h : OW F w av v φ) : (∀ x, φ x → w'.heap[x]? = w.heap[x]?) → OW F' w' av v φ := by
  induction h with
  | pu av v φ r => exact fun _ => .pu av v φ (r.mono hF)
  | ow T n rows v φ vs Φ h1 h2 h3 h4 h5 h6 h7 h8 _ ih =>
    intro hw
    exact .ow T n rows v φ vs Φ h1 (ownsRow_keep h2 fun g hg => hw g (h5 g hg)) h3 h4 h5 h6 h7 h8 fun i r r' j av u a b c d => ih i r r' j av u a b c d fun x hx => hw x (h6 i j x hx).1
theorem OW.wide {F : View} {w : World} {av : AV} {v : Value} {φ φ' : Nat → Prop} (h : OW F w av v φ) (hp : ∀ x, φ x → φ' x) : OW F w av v φ' := by
  cases h with
  | pu _ _ _ r => exact .pu av v φ' r
  | ow T n rows _ _ vs Φ h1 h2 h3 h4 h5 h6 h7 h8 h9 => exact .ow T n rows v φ' vs Φ h1 h2 h3 h4 (fun g hg => hp g (h5 g hg)) (fun i j x hx => ⟨hp x (h6 i j x hx).1, (h6 i j x hx).2⟩) h7 h8 h9
theorem CR.keep {G G' : Gh} {w w' : World} {nk : Nat} {φ : Nat → Prop} {av : AV} {v : Value} (h : CR G w φ av v) (hle : G.le G' nk) (hb : Bd nk av) (hw : ∀ x, φ x → w'.heap[x]? = w.heap[x]?) : CR G' w' φ av v :=
  h.elim (fun r => .inl (r.mono hle hb)) fun o => .inr (o.keep hle.F hw)
def AV.own : AV → Bool
  | .ow _ _ _ => true
  | _ => false
theorem CR.r {G : Gh} {w : World} {φ : Nat → Prop} {av : AV} {v : Value} (h : CR G w φ av v) (ho : av.own = false) : R G av v := by
  rcases h with r | o
  · exact r
  · cases o with
    | pu _ _ _ r => exact .pu _ _ r
    | ow => cases ho
theorem OW.p {F : View} {w : World} {φ : Nat → Prop} {av : AV} {v : Value} (h : OW F w av v φ) (ho : av.own = false) : RP F av v := by
  cases h with
  | pu _ _ _ r => exact r
  | ow => cases ho
theorem CR.wide {G : Gh} {w : World} {φ φ' : Nat → Prop} {av : AV} {v : Value} (h : CR G w φ av v) (hp : ∀ x, φ x → φ' x) : CR G w φ' av v := h.elim .inl fun o => .inr (o.wide hp)
def BldIs (w : World) (T e b : Nat) (φ : Nat → Prop) (l : List UInt8) : Prop :=
  ∃ p v, (p = .pointer none ∨ p = .pointer (some ⟨b, 0, none⟩)) ∧ w.heap[b]? = some (.cells #[p, v] T (0, 0)) ∧ w.ownsRowF 0 e 1 v l.length (Lib.byteCells l) ∧ ∀ g, v.ownBlock = some g → φ g ∧ g ≠ b
structure Opq where
  Q : World → Nat → Value → (Nat → Prop) → Prop
  st : ∀ w w' b v φ, (∀ x, φ x → w'.heap[x]? = w.heap[x]?) → Q w b v φ → Q w' b v φ
inductive AO where
  | box (T : TypeId) (cells : List AV)
  | row (T : TypeId) (n : Nat) (rows : List (List AV))
  | rwn (T : TypeId) (n : Nat) (rows : List (List AV))
  | rof (T : TypeId) (n : Nat) (rows : List (List AV)) (hi hj : Nat)
  | bld (T e : TypeId) (l : List UInt8)
  | opq (q : Opq)
def RL (F : View) (l : List AV) (vs : List Value) : Prop := vs.length = l.length ∧ ∀ (i : Nat) av u, l[i]? = some av → vs[i]? = some u → RP F av u
def BoxIs (w : World) (T b : Nat) (φ : Nat → Prop) (cells : List AV) (X : (Nat → Prop) → AV → Value → Prop) : Prop :=
  ∃ (cs : Array Value) (Φ : Nat → Nat → Prop), Blk w b T cs ∧ cs.size = cells.length ∧ (∀ i x, Φ i x → φ x ∧ x ≠ b) ∧ (∀ i i' x, Φ i x → Φ i' x → i = i') ∧ ∀ (i : Nat) av u, cells[i]? = some av → cs[i]? = some u → X (Φ i) av u
def ObAt (G : Gh) (w : World) (k : Nat) : AO → Prop
  | .box T cells => G.fp k (G.b k) ∧ BoxIs w T (G.b k) (G.fp k) cells (CR G w)
  | .row T n rows => G.n k = n ∧ (∀ g, (G.h k).ownBlock = some g → g = G.b k) ∧ RowIs w T n rows (G.h k) (G.fp k) (XP G.F)
  | .rwn T n rows => G.n k = n ∧ (∀ g, (G.h k).ownBlock = some g → g = G.b k) ∧ RowIs w T n rows (G.h k) (G.fp k) (XO G.F w)
  | .rof T n rows hi hj => G.n k = n ∧ (∀ g, (G.h k).ownBlock = some g → g = G.b k) ∧ RowIs w T n rows (G.h k) (G.fp k) (XH G w hi hj)
  | .bld T e l => G.fp k (G.b k) ∧ BldIs w T e (G.b k) (G.fp k) l
  | .opq q => q.Q w (G.b k) (G.h k) (G.fp k)
def AO.bd (nk : Nat) : AO → Prop
  | .box _ cells => ∀ (i : Nat) av, cells[i]? = some av → Bd nk av
  | .row _ _ _ => True
  | .rwn _ _ _ => True
  | .rof _ _ rows hi hj => ∀ r av, rows[hi]? = some r → r[hj]? = some av → Bd nk av
  | .bld _ _ _ => True
  | .opq _ => True
def look {α : Type} (i : Nat) : List (Nat × α) → Option α
  | [] => none
  | x :: r => bif Nat.beq i x.1 then some x.2 else look i r
structure Kept (S : Nat → Prop) (w w' : World) : Prop where
  os : w'.os = w.os
  tape : w'.tape = w.tape
  output : w'.output = w.output
  size : w.heap.size ≤ w'.heap.size
  block : ∀ k, k < w.heap.size → ¬ S k → w'.heap[k]? = w.heap[k]?
theorem Kept.refl (S : Nat → Prop) (w : World) : Kept S w w := ⟨rfl, rfl, rfl, Nat.le_refl _, fun _ _ _ => rfl⟩
theorem Kept.below {S : Nat → Prop} {w w' : World} (h : Below w.heap.size w w') : Kept S w w' := ⟨h.os, h.tape, h.output, h.size, fun i hi _ => h.block i hi⟩
theorem Kept.to_below {S : Nat → Prop} {w w' : World} (h : Kept S w w') (hs : ∀ x, ¬ S x) : Below w.heap.size w w' := ⟨h.os, h.tape, h.output, h.size, fun i hi => h.block i hi (hs i)⟩
theorem Kept.on {S S' : Nat → Prop} {a b c : World} (h : Kept S a b) (k : Kept S' b c) (hs : ∀ x, S' x → a.heap.size ≤ x ∨ S x) : Kept S a c :=
  ⟨k.os.trans h.os, k.tape.trans h.tape, k.output.trans h.output, Nat.le_trans h.size k.size, fun i hi hn => (k.block i (Nat.lt_of_lt_of_le hi h.size) fun x => (hs i x).elim (fun y => by omega) hn).trans (h.block i hi hn)⟩
structure Cx where
  w0 : World
  F0 : View
  N : Nat
  fp : Nat → Prop
  np : Nat
  pg : Gh
def Cx.may (C : Cx) (x : Nat) : Prop := C.w0.heap.size ≤ x ∨ C.fp x
structure St where
  t : List (Nat × AV)
  M : List (Nat × AO)
  nk : Nat
structure Ok (C : Cx) (σ : St) (G : Gh) (a : Act) (w : World) : Prop where
  sz : a.tmps.size = C.N
  df : a.defers = [] ∧ C.np ≤ σ.nk ∧ ∀ k, k < C.np → G.b k = C.pg.b k ∧ G.n k = C.pg.n k ∧ G.h k = C.pg.h k
  tm : ∀ i av, look i σ.t = some av → i < C.N ∧ Bd σ.nk av ∧ R G av (a.tmps.getD i undef)
  bel : Kept C.fp C.w0 w
  fw : ∀ p u, G.F p = some u → w.cell? p = some u
  f0 : C.F0.le G.F
  f1 : ∀ p u, G.F p = some u → C.F0 p = some u ∨ C.may p.block
  ob : ∀ k o, look k σ.M = some o → k < σ.nk ∧ o.bd σ.nk ∧ ObAt G w k o
  my : ∀ k o x, look k σ.M = some o → G.fp k x → C.may x ∧ x < w.heap.size
  dj : ∀ k o k' o' x, look k σ.M = some o → look k' σ.M = some o' → G.fp k x → G.fp k' x → k = k'
  dF : ∀ k o x p u, look k σ.M = some o → G.fp k x → G.F p = some u → p.block ≠ x
theorem cell_block {w : World} {p : Addr} {u : Value} (h : w.cell? p = some u) : p.block < w.heap.size := by
  rcases Nat.lt_or_ge p.block w.heap.size with hlt | hge
  · exact hlt
  · simp [World.cell?, Array.getElem?_eq_none hge] at h
theorem look_set_same {α : Type} {i : Nat} {x : α} {r : List (Nat × α)} : look i ((i, x) :: r) = some x := by
  simp [look]
theorem look_set_other {α : Type} {i j : Nat} {x : α} {r : List (Nat × α)} (h : i ≠ j) : look i ((j, x) :: r) = look i r := by
  have : Nat.beq i j = false := by cases hb : Nat.beq i j with
    | false => rfl
    | true => exact absurd (Nat.eq_of_beq_eq_true hb) h
  simp [look, this]
end Go.Proofs.YtkgnmddakiagbaaGreatDoor
namespace Go.Proofs.YtkgnmddakiagbaaGreatDoor
open Go.RowKit
def St.ev (σ : St) : Operand → Option AV
  | .tmp t => look t σ.t
  | .const v => some (.sc v)
  | .func f => some (.sc (.func (.func f) #[] #[]))
  | .global g => some (.sc (.pointer (some ⟨g, 0, none⟩)))
def St.set (σ : St) (d : Option Tmp) (av : AV) : St :=
  match d with
  | none => σ
  | some d => { σ with t := (d, av) :: σ.t }
def St.put (σ : St) (d : Tmp) (av : AV) : St := { σ with t := (d, av) :: σ.t }
section
variable {P : Program} {C : Cx} {σ σ' : St} {G G' : Gh} {a : Act} {w w' : World}
theorem Ok.evr (h : Ok C σ G a w) {x : Operand} {av : AV} (hx : σ.ev x = some av) : Bd σ.nk av ∧ R G av (a.eval x) := by
  cases x with
  | tmp t => exact ⟨(h.tm t av hx).2.1, (h.tm t av hx).2.2⟩
  | const v => cases hx; exact ⟨.sc _, .pu _ _ (.sc _)⟩
  | func f => cases hx; exact ⟨.sc _, .pu _ _ (.sc _)⟩
  | global g => cases hx; exact ⟨.sc _, .pu _ _ (.sc _)⟩
theorem Ok.evs (h : Ok C σ G a w) {x : Operand} {v : Value} (hx : σ.ev x = some (.sc v)) : a.eval x = v := (h.evr hx).2.sc_eq
theorem getD_set_ (ts : Array Value) (d i : Nat) (v : Value) (hd : d < ts.size) : (ts.setIfInBounds d v).getD i undef = if d = i then v else ts.getD i undef := by
  by_cases e : d = i
  · subst e; simp [Array.getD, hd]
  · simp only [if_neg e, Array.getD_eq_getD_getElem?, Array.getElem?_setIfInBounds_ne e]
theorem Ok.set (h : Ok C σ G a w) {d : Option Tmp} {av : AV} {v : Value} (hR : R G av v) (hb : Bd σ.nk av) (hd : ∀ x, d = some x → x < C.N) : Ok C (σ.set d av) G (a.put d v) w := by
  cases d with
  | none => exact h
  | some d =>
    have hd := hd d rfl
    refine ⟨?_, h.df, ?_, h.bel, h.fw, h.f0, h.f1, h.ob, h.my, h.dj, h.dF⟩
    · show (a.tmps.setIfInBounds d v).size = C.N
      rw [Array.size_setIfInBounds]; exact h.sz
    · intro i x hx
      show i < C.N ∧ Bd σ.nk x ∧ R G x ((a.tmps.setIfInBounds d v).getD i undef)
      rw [getD_set_ _ _ _ _ (by rw [h.sz]; exact hd)]
      by_cases e : d = i
      · subst e
        rw [show look d (St.set σ (some d) av).t = some av from look_set_same] at hx
        cases hx
        rw [if_pos rfl]
        exact ⟨hd, hb, hR⟩
      · rw [show look i (St.set σ (some d) av).t = look i σ.t from look_set_other (fun x => e x.symm)] at hx
        rw [if_neg e]
        exact h.tm i x hx
theorem ownsRowF_keep {w w' : World} {B e size n : Nat} {v : Value} {xs : List Value} (h : w.ownsRowF B e size v n xs) (hk : ∀ g, v.ownBlock = some g → w'.heap[g]? = w.heap[g]?) : w'.ownsRowF B e size v n xs := by
  refine ⟨h.1, ?_⟩
  rcases h.2 with x | ⟨g, cap, cur, fz, e, hb, hh, hr⟩
  · exact .inl x
  · exact .inr ⟨g, cap, cur, fz, e, hb, (hk g (by rw [e]; rfl)).trans hh, hr⟩
theorem RowIs.keep {T n : Nat} {rows : List (List AV)} {v : Value} {φ : Nat → Prop} {X X' : Nat → Nat → (Nat → Prop) → AV → Value → Prop} (h : RowIs w T n rows v φ X) (hw : ∀ x, φ x → w'.heap[x]? = w.heap[x]?)
    (hX : ∀ (i : Nat) r (j : Nat) av ψ u, rows[i]? = some r → r[j]? = some av → (∀ x, ψ x → w'.heap[x]? = w.heap[x]?) → X i j ψ av u → X' i j ψ av u) : RowIs w' T n rows v φ X' := by
  obtain ⟨h1, vs, Φ, h2, h3, h4, h5, h6, h7, h8, h9⟩ := h
  exact ⟨h1, vs, Φ, ownsRow_keep h2 fun g hg => hw g (h5 g hg), h3, h4, h5, h6, h7, h8, fun i r r' j av u a b c d => hX i r j av _ u a c (fun x hx => hw x (h6 i j x hx).1) (h9 i r r' j av u a b c d)⟩
theorem ObAt.keep {nk k : Nat} {o : AO} (h : ObAt G w k o) (hle : G.le G' nk) (hk : k < nk) (hb : o.bd nk) (hf : G'.fp k = G.fp k) (hw : ∀ x, G.fp k x → w'.heap[x]? = w.heap[x]?) : ObAt G' w' k o := by
  cases o with
  | box T cells =>
    obtain ⟨h1, cs, Φ, h2, h3, h4, h5, h6⟩ := h
    refine ⟨by rw [hf, hle.b k hk]; exact h1, cs, Φ, ?_, h3, by rw [hf, hle.b k hk]; exact h4, h5, fun i av u x y => (h6 i av u x y).keep hle (hb i av x) fun z hz => hw z (h4 i z hz).1⟩
    rw [hle.b k hk]
    exact (hw _ h1).trans h2
  | row T n rows =>
    obtain ⟨h1, h2, h3⟩ := h
    refine ⟨by rw [hle.n k hk]; exact h1, by rw [hle.h k hk, hle.b k hk]; exact h2, ?_⟩
    rw [hf, hle.h k hk]
    exact h3.keep hw fun i r j av ψ u _ _ hψ x => RP.mono hle.F x
  | rwn T n rows =>
    obtain ⟨h1, h2, h3⟩ := h
    refine ⟨by rw [hle.n k hk]; exact h1, by rw [hle.h k hk, hle.b k hk]; exact h2, ?_⟩
    rw [hf, hle.h k hk]
    exact h3.keep hw fun i r j av ψ u _ _ hψ x => OW.keep hle.F x hψ
  | rof T n rows hi hj =>
    obtain ⟨h1, h2, h3⟩ := h
    refine ⟨by rw [hle.n k hk]; exact h1, by rw [hle.h k hk, hle.b k hk]; exact h2, ?_⟩
    rw [hf, hle.h k hk]
    refine h3.keep hw fun i r j av ψ u hr hav hψ x => ?_
    unfold XH at x ⊢
    by_cases e : i = hi ∧ j = hj
    · rw [if_pos e] at x ⊢
      obtain ⟨rfl, rfl⟩ := e
      exact R.mono hle x (hb r av hr hav)
    · rw [if_neg e] at x ⊢
      exact OW.keep hle.F x hψ
  | bld T e l =>
    obtain ⟨h1, p, v, h2, h3, h4, h5⟩ := h
    refine ⟨by rw [hf, hle.b k hk]; exact h1, p, v, by rw [hle.b k hk]; exact h2, ?_, ownsRowF_keep h4 fun g hg => hw g (h5 g hg).1, by rw [hf, hle.b k hk]; exact h5⟩
    rw [hle.b k hk]
    exact (hw _ h1).trans h3
  | opq q =>
    show q.Q w' (G'.b k) (G'.h k) (G'.fp k)
    rw [hle.b k hk, hle.h k hk, hf]
    exact q.st _ _ _ _ _ hw h
theorem Ok.world {S : Nat → Prop} (h : Ok C σ G a w) (hle : G.le G' σ.nk) (hfp : ∀ k, k < σ.nk → G'.fp k = G.fp k) (hb : Kept S w w') (hS : ∀ x, S x → C.may x) (hw : ∀ k o x, look k σ.M = some o → G.fp k x → w'.heap[x]? = w.heap[x]?)
    (hfw : ∀ p u, G'.F p = some u → w'.cell? p = some u) (hn : ∀ p u, G'.F p = some u → G.F p = some u ∨ w.heap.size ≤ p.block) : Ok C σ G' a w' := by
  refine ⟨h.sz, ⟨h.df.1, h.df.2.1, fun k hk => by
    have hk2 := Nat.lt_of_lt_of_le hk h.df.2.1
    rw [hle.b k hk2, hle.n k hk2, hle.h k hk2]; exact h.df.2.2 k hk⟩, fun i av x => ⟨(h.tm i av x).1, (h.tm i av x).2.1, (h.tm i av x).2.2.mono hle (h.tm i av x).2.1⟩, h.bel.on hb hS, hfw, fun p u x => hle.F _ _ (h.f0 p u x), ?_, ?_, ?_, ?_, ?_⟩
  · intro p u x
    rcases hn p u x with y | y
    · exact h.f1 p u y
    · exact .inr (.inl (Nat.le_trans h.bel.size y))
  · intro k o x
    obtain ⟨a1, a2, a3⟩ := h.ob k o x
    exact ⟨a1, a2, a3.keep hle a1 a2 (hfp k a1) (fun y hy => hw k o y x hy)⟩
  · intro k o x h1 h2
    rw [hfp k (h.ob k o h1).1] at h2
    exact ⟨(h.my k o x h1 h2).1, Nat.lt_of_lt_of_le (h.my k o x h1 h2).2 hb.size⟩
  · intro k o k' o' x h1 h2 h3 h4
    rw [hfp k (h.ob k o h1).1] at h3
    rw [hfp k' (h.ob k' o' h2).1] at h4
    exact h.dj k o k' o' x h1 h2 h3 h4
  · intro k o x p u h1 h2 h3
    rw [hfp k (h.ob k o h1).1] at h2
    rcases hn p u h3 with y | y
    · exact h.dF k o x p u h1 h2 y
    · have := (h.my k o x h1 h2).2
      omega
theorem Ok.drew (h : Ok C σ G a w) : Ok C σ G a w.drew :=
  h.world (S := fun _ => False) (Gh.le.refl _ _) (fun _ _ => rfl) ⟨rfl, rfl, rfl, Nat.le_refl _, fun _ _ _ => rfl⟩ (fun _ x => x.elim) (fun _ _ _ _ _ => rfl) h.fw (fun _ _ x => .inl x)
end
def Tr (C : Cx) (σ σ' : St) : Prop := ∀ G a w, Ok C σ G a w → ∃ G', Ok C σ' G' a w
def Post (C : Cx) (Q : Exit → St → Prop) : Exit → Act → World → Prop := fun e a w => ∃ σ G, Q e σ ∧ Ok C σ G a w
def W (P : Program) (C : Cx) (c : Code) (σ : St) (Q : Exit → St → Prop) : Prop := ∀ G a w, Ok C σ G a w → c.wp P (Post C Q) a w
def WL (P : Program) (C : Cx) (ops : Array Oper) (l : List Oper) (σ : St) (Q : Exit → St → Prop) : Prop := ∀ G a w, Ok C σ G a w → wpList P ops (Post C Q) l a w
def WO (P : Program) (C : Cx) (o : Oper) (σ σ' : St) : Prop :=
  ∀ G a w, Ok C σ G a w → ∀ (N : Act → World → Prop) (Q' : Exit → Act → World → Prop), (∀ G' a' w', Ok C σ' G' a' w' → N a' w') → o.wp P a w N Q'
section
variable {P : Program} {C : Cx} {σ σ' : St} {Q Q' : Exit → St → Prop}
theorem W.tr {c : Code} (h : Tr C σ σ') (k : W P C c σ' Q) : W P C c σ Q := fun G a w x => by
  obtain ⟨G', y⟩ := h G a w x
  exact k G' a w y
theorem WL.tr {ops : Array Oper} {l : List Oper} (h : Tr C σ σ') (k : WL P C ops l σ' Q) : WL P C ops l σ Q := fun G a w x => by
  obtain ⟨G', y⟩ := h G a w x
  exact k G' a w y
theorem W.mono {c : Code} (h : W P C c σ Q) (hq : ∀ e s, Q e s → Q' e s) : W P C c σ Q' := fun G a w x =>
  wp_mono (h G a w x) fun e a w ⟨s, g, q, o⟩ => ⟨s, g, hq e s q, o⟩
theorem W.skip (h : Q .normal σ) : W P C .skip σ Q := fun G a w x => wp_skip ⟨σ, G, h, x⟩
theorem W.exit {id : Nat} (h : Q (.exit id) σ) : W P C (.exit id) σ Q := fun G a w x => wp_exit ⟨σ, G, h, x⟩
theorem W.ret (h : Q .ret σ) : W P C .ret σ Q := fun G a w x => wp_ret ⟨σ, G, h, x⟩
def QThen (N : St → Prop) (Q : Exit → St → Prop) : Exit → St → Prop
  | .normal, s => N s
  | e, s => Q e s
def QBlock (id : Nat) (Q : Exit → St → Prop) : Exit → St → Prop
  | .exit id', s => if id' = id then Q .normal s else Q (.exit id') s
  | e, s => Q e s
theorem W.seq {x y : Code} (h : W P C x σ (QThen (fun s => W P C y s Q) Q)) : W P C (.seq x y) σ Q := fun G a w ok =>
  wp_seq (wp_mono (h G a w ok) fun e a w ⟨s, g, q, o⟩ => by
    cases e with
    | normal => exact q g a w o
    | exit id => exact ⟨s, g, q, o⟩
    | goto l => exact ⟨s, g, q, o⟩
    | ret => exact ⟨s, g, q, o⟩
    | panic c => exact ⟨s, g, q, o⟩
    | outgrown => exact ⟨s, g, q, o⟩)
theorem W.seqM {x y : Code} (σm : St) (h : W P C x σ (QThen (fun s => Tr C s σm) Q)) (k : W P C y σm Q) : W P C (.seq x y) σ Q :=
  W.seq (W.mono h fun e s q => by
    cases e with
    | normal => exact W.tr q k
    | _ => exact q)
theorem W.block {id : Nat} {c : Code} (h : W P C c σ (QBlock id Q)) : W P C (.block id c) σ Q := fun G a w ok =>
  wp_block (wp_mono (h G a w ok) fun e a w ⟨s, g, q, o⟩ => by
    cases e with
    | exit id' =>
      show if id' = id then _ else _
      by_cases e : id' = id
      · rw [if_pos e]; exact ⟨s, g, by simpa [QBlock, e] using q, o⟩
      · rw [if_neg e]; exact ⟨s, g, by simpa [QBlock, e] using q, o⟩
    | normal => exact ⟨s, g, q, o⟩
    | goto l => exact ⟨s, g, q, o⟩
    | ret => exact ⟨s, g, q, o⟩
    | panic c => exact ⟨s, g, q, o⟩
    | outgrown => exact ⟨s, g, q, o⟩)
theorem W.cond {c : Operand} {x y : Code} {t : Bool} (hc : σ.ev c = some (.sc (.bool t))) (h1 : t = true → W P C x σ Q) (h2 : t = false → W P C y σ Q) : W P C (.cond c x y) σ Q := fun G a w ok => by
  refine wp_cond (ok.evs hc) ?_
  cases t
  · exact h2 rfl G a w ok
  · exact h1 rfl G a w ok
theorem W.loop {c : Code} {X : Type} (I : X → Prop) (S : X → St) (μ : X → Nat) (x0 : X) (h0 : I x0) (hi : Tr C σ (S x0))
    (round : ∀ x, I x → W P C c (S x) (QThen (fun s => ∃ x', I x' ∧ μ x' < μ x ∧ Tr C s (S x')) Q)) : W P C (.loop c) σ Q := by
  intro G a w ok b k cs
  have key : ∀ n x G a w, μ x = n → I x → Ok C (S x) G a w → ∃ e a' w', Post C Q e a' w' ∧ Arrives P (lone (b.at a (.code c :: .inLoop c :: k)) cs w) b k cs e a' w' := by
    intro n
    induction n using Nat.strongRecOn with
    | _ n ih =>
      intro x G a w hn hI ok
      obtain ⟨e, a1, w1, ⟨s, g, hq, o1⟩, harr⟩ := round x hI G a w ok b (.inLoop c :: k) cs
      cases e with
      | normal =>
        obtain ⟨x', hI', hlt, ht⟩ := hq
        obtain ⟨g', o2⟩ := ht g a1 w1 o1
        obtain ⟨e2, a2, w2, hq2, harr2⟩ := ih (μ x') (hn ▸ hlt) x' g' a1 w1 rfl hI' o2
        exact ⟨e2, a2, w2, hq2, .of_steps (Steps.trans harr (.one step_inLoop)) harr2⟩
      | exit id => exact ⟨_, a1, w1, ⟨s, g, hq, o1⟩, .pass (x := .inLoop c) rfl (fun _ _ => .inl (by simp)) harr⟩
      | goto l => exact ⟨_, a1, w1, ⟨s, g, hq, o1⟩, .pass (x := .inLoop c) rfl (fun _ _ => .inl (by simp)) harr⟩
      | ret => exact ⟨_, a1, w1, ⟨s, g, hq, o1⟩, .pass (x := .inLoop c) rfl (fun _ _ => .inl (by simp)) harr⟩
      | panic ch => exact ⟨_, a1, w1, ⟨s, g, hq, o1⟩, .pass (x := .inLoop c) rfl (fun _ _ => .inl (by simp)) harr⟩
      | outgrown => exact ⟨_, a1, w1, ⟨s, g, hq, o1⟩, .pass (x := .inLoop c) rfl (fun _ _ => .inl (by simp)) harr⟩
  obtain ⟨g0, ok0⟩ := hi G a w ok
  obtain ⟨e, a', w', hq, harr⟩ := key _ x0 g0 a w rfl h0 ok0
  exact ⟨e, a', w', hq, .of_steps (.one step_loop) harr⟩
theorem WL.nil {ops : Array Oper} (h : Q .normal σ) : WL P C ops [] σ Q := fun G a w ok => wpList_nil ⟨σ, G, h, ok⟩
theorem WL.op {ops : Array Oper} {o : Oper} {rest : List Oper} (hg : o.guard = none) (h : WO P C o σ σ') (k : WL P C ops rest σ' Q) : WL P C ops (o :: rest) σ Q := fun G a w ok =>
  wpList_plain hg fun K hK => h G a w ok K _ fun G' a' w' ok' => hK _ _ (k G' a' w' ok')
theorem of_blt {a b : Nat} (h : Nat.blt a b = true) : a < b := Nat.lt_of_succ_le (by simpa [Nat.blt] using h)
def vb : Value → Option Bool
  | .bool b => some b
  | _ => none
theorem yielded_of {ops : Array Oper} {G : Gh} {a : Act} {w : World} (ok : Ok C σ G a w) {j : Nat} {oj : Oper} {d : Tmp} {v : Value} (hj : ops[j]? = some oj) (hd : oj.dst = some d) (hv : look d σ.t = some (.sc v)) :
    yielded ops a.tmps j = vb v := by
  have h1 := ok.tm d _ hv
  have h2 := h1.2.2.sc_eq
  have h3 : a.tmps[d]? = some v := by
    have hlt : d < a.tmps.size := by rw [ok.sz]; exact h1.1
    rw [Array.getElem?_eq_getElem hlt]
    simpa [Array.getD, hlt] using h2
  simp only [yielded, hj, Option.bind_some, hd, h3]
  cases v <;> rfl
theorem WL.opn {ops : Array Oper} {o oj : Oper} {rest : List Oper} {j : Nat} {b : Bool} {d d' : Tmp} {v : Value} (hg : o.guard = some (j, b)) (hj : ops[j]? = some oj) (hd : oj.dst = some d) (hv : look d σ.t = some (.sc v))
    (hb : vb v ≠ some b) (hds : o.dst = some d') (hdn : Nat.blt d' C.N = true) (h : WL P C ops rest (σ.put d' (.sc undef)) Q) : WL P C ops (o :: rest) σ Q := fun G a w ok =>
  wpList_step fun K hK => by
    have hy := yielded_of (ops := ops) ok hj hd hv
    rw [if_neg (by simp only [Region.wanted, hg, hy]; simpa using hb)]
    rw [hds]
    exact hK _ _ (h G _ w (ok.set (d := some d') (.pu _ _ (.sc _)) (.sc _) fun x hx => by cases hx; exact of_blt hdn))
theorem WL.part {ops : Array Oper} {l : List Oper} {d : Tmp} {b : Bool} (hv : look d σ.t = some (.sc (.bool b))) (h1 : b = true → WL P C ops l (σ.set (some d) (.sc (.bool true))) Q) (h2 : b = false → WL P C ops l (σ.set (some d) (.sc (.bool false))) Q) : WL P C ops l σ Q := fun G a w ok => by
  have key : ∀ c, b = c → Ok C (σ.set (some d) (.sc (.bool c))) G a w := fun c e => by
    subst e
    refine ⟨ok.sz, ok.df, fun i x hx => ?_, ok.bel, ok.fw, ok.f0, ok.f1, ok.ob, ok.my, ok.dj, ok.dF⟩
    by_cases hi : i = d
    · subst hi
      rw [show look i (St.set σ (some i) (.sc (.bool b))).t = _ from look_set_same] at hx
      cases hx
      exact ok.tm i _ hv
    · rw [show look i (St.set σ (some d) (.sc (.bool b))).t = _ from look_set_other hi] at hx
      exact ok.tm i x hx
  cases b
  · exact h2 rfl G a w (key _ rfl)
  · exact h1 rfl G a w (key _ rfl)
end
def Ctr (P : Program) (f : FuncId) (args : List AV) (res : AV) : Prop :=
  ∀ (w : World) (F : View) (vs : List Value), (∀ p u, F p = some u → w.cell? p = some u) → RL F args vs →
    Calls P f vs.toArray w fun e w' => ∃ v F', e = .returned v ∧ Below w.heap.size w w' ∧ View.le F F' ∧ (∀ p u, F' p = some u → w'.cell? p = some u) ∧ (∀ p u, F' p = some u → F p = some u ∨ w.heap.size ≤ p.block) ∧ RP F' res v
def number {α : Type} : Nat → List α → List (Nat × α)
  | _, [] => []
  | n, x :: r => (n, x) :: number (n + 1) r
theorem look_number {α : Type} : ∀ (l : List α) (n i : Nat) (x : α), look i (number n l) = some x → n ≤ i ∧ l[i - n]? = some x
  | [], n, i, x, h => by cases h
  | y :: r, n, i, x, h => by
    by_cases e : i = n
    · subst e
      rw [show look i (number i (y :: r)) = some y from look_set_same] at h
      cases h
      simp
    · rw [show look i (number n (y :: r)) = look i (number (n + 1) r) from look_set_other e] at h
      obtain ⟨h1, h2⟩ := look_number r (n + 1) i x h
      refine ⟨by omega, ?_⟩
      rw [show i - n = (i - (n + 1)) + 1 by omega]
      simpa using h2
def St.init (args : List AV) : St := ⟨number 0 args, [], 0⟩
def G0 : Gh := ⟨fun _ => none, fun _ => 0, fun _ => 0, fun _ => undef, fun _ _ => False⟩
def Fin (P : Program) (fn : Func) (C : Cx) (σ : St) (res : AV) : Prop :=
  ∀ G a w, Ok C σ G a w → ∃ v F', (results fn a.tmps).run P w = .ok v w ∧ View.le G.F F' ∧ (∀ p u, F' p = some u → w.cell? p = some u) ∧ (∀ p u, F' p = some u → G.F p = some u ∨ C.may p.block) ∧ RP F' res v
def QFin (P : Program) (fn : Func) (C : Cx) (res : AV) : Exit → St → Prop := fun e σ => (e = .normal ∨ e = .ret) ∧ Fin P fn C σ res
theorem Ctr.intro {P : Program} {f : FuncId} {fn : Func} {c : Code} {args : List AV} {res : AV} (hf : P.funcs[f]? = some fn) (hb : fn.body = some c) {N : Nat} (hN : fn.ntmps = N) (hn : args.length ≤ N) (hp : ∀ (i : Nat) av, args[i]? = some av → Bd 0 av)
    (h : ∀ w0 F0, W P ⟨w0, F0, N, fun _ => False, 0, G0⟩ c (St.init args) (QFin P fn ⟨w0, F0, N, fun _ => False, 0, G0⟩ res)) : Ctr P f args res := by
  intro w F vs hF hR
  subst hN
  refine calls_of_wp hf hb ?_
  have hsz : vs.toArray.size = args.length := by simpa using hR.1
  have h1 := h w F ⟨F, fun _ => 0, fun _ => 0, fun _ => undef, fun _ _ => False⟩ { tmps := vs.toArray ++ Array.replicate (fn.ntmps - vs.toArray.size) undef, defers := [] } w
    ⟨by simp; have := hR.1; omega, ⟨rfl, Nat.le_refl _, fun k hk => absurd hk (Nat.not_lt_zero k)⟩, fun i av hx => by
      obtain ⟨_, h2⟩ := look_number args 0 i av hx
      simp only [Nat.sub_zero] at h2
      have hi : i < args.length := (List.getElem?_eq_some_iff.1 h2).1
      have hv : i < vs.length := by rw [hR.1]; exact hi
      refine ⟨by show i < fn.ntmps; omega, hp i av h2, .pu _ _ (hR.2 i av _ h2 ?_)⟩
      simp [Array.getD_eq_getD_getElem?, Array.getElem?_append_left, hv],
     Kept.refl _ _, hF, fun _ _ h => h, fun _ _ h => .inl h, (fun k o h => by cases h), (fun k o x h => by cases h), (fun k o k' o' x h => by cases h), (fun k o x p u h => by cases h)⟩
  refine wp_mono h1 fun e a w' ⟨σ, G, ⟨he, hfin⟩, ok⟩ => ?_
  obtain ⟨v, F', hr, hle, hfw, hnew, hres⟩ := hfin G a w' ok
  rcases he with rfl | rfl
  · exact ⟨ok.df.1, v, hr, v, F', rfl, ok.bel.to_below (fun _ h => h), fun p u x => hle p u (ok.f0 p u x), hfw, fun p u x => (hnew p u x).elim (fun y => (ok.f1 p u y).elim .inl fun z => .inr (z.elim id fun h => h.elim)) fun z => .inr (z.elim id fun h => h.elim), hres⟩
  · exact ⟨ok.df.1, v, hr, v, F', rfl, ok.bel.to_below (fun _ h => h), fun p u x => hle p u (ok.f0 p u x), hfw, fun p u x => (hnew p u x).elim (fun y => (ok.f1 p u y).elim .inl fun z => .inr (z.elim id fun h => h.elim)) fun z => .inr (z.elim id fun h => h.elim), hres⟩
theorem Bd.rp {G : Gh} {av : AV} {v : Value} (b : Bd 0 av) (r : R G av v) : RP G.F av v := by
  induction r with
  | pu _ _ h => exact h
  | pt k i j p => cases b with | pt _ _ _ h => exact absurd h (by omega)
  | sl k => cases b with | sl _ h => exact absurd h (by omega)
  | ag l cs h1 _ ih => cases b with | ag _ hb => exact .ag l cs h1 fun i av u x y => ih i av u x y (hb i av x)
  | tu l cs h1 _ ih => cases b with | tu _ hb => exact .tu l cs h1 fun i av u x y => ih i av u x y (hb i av x)
  | fn f l cs h1 _ ih => cases b with | fn _ _ hb => exact .fn f l cs h1 fun i av u x y => ih i av u x y (hb i av x)
theorem Fin.one {P : Program} {fn : Func} {C : Cx} {σ : St} {t : Tmp} {res : AV} (h : fn.results = #[.tmp t]) (ht : look t σ.t = some res) (hb : Bd 0 res) : Fin P fn C σ res := fun G a w ok =>
  ⟨a.tmps.getD t undef, G.F, results_tmp h _ _ _, fun _ _ h => h, ok.fw, fun _ _ h => .inl h, hb.rp (ok.tm t _ ht).2.2⟩
theorem Fin.two {P : Program} {fn : Func} {C : Cx} {σ : St} {t u : Tmp} {r1 r2 : AV} (h : fn.results = #[.tmp t, .tmp u]) (h1 : look t σ.t = some r1) (h2 : look u σ.t = some r2) (b1 : Bd 0 r1) (b2 : Bd 0 r2) : Fin P fn C σ (.tu [r1, r2]) := fun G a w ok =>
  ⟨.tuple #[a.tmps.getD t undef, a.tmps.getD u undef], G.F, results_tmp2 h _ _ _, fun _ _ h => h, ok.fw, fun _ _ h => .inl h, .tu _ _ rfl fun i av x ha hx => by
    match i with
    | 0 => cases ha; cases hx; exact b1.rp (ok.tm t _ h1).2.2
    | 1 => cases ha; cases hx; exact b2.rp (ok.tm u _ h2).2.2
    | n + 2 => simp at ha⟩
end Go.Proofs.YtkgnmddakiagbaaGreatDoor
namespace Go.Proofs.YtkgnmddakiagbaaGreatDoor
open Go.RowKit
section
variable {P : Program} {C : Cx} {σ σ' : St} {o : Oper} {d : Tmp}
def WV (P : Program) (C : Cx) (o : Oper) (σ : St) (av : AV) : Prop :=
  ∀ G a w, Ok C σ G a w → ∀ (N : Act → World → Prop) (Q' : Exit → Act → World → Prop),
    (∀ v G' w', (∀ σ'' a'', Ok C σ'' G a'' w → Ok C σ'' G' a'' w') → R G' av v → Bd σ.nk av → N (a.put o.dst v) w') → o.wp P a w N Q'
theorem WO.of_wv {av : AV} (hds : o.dst = some d) (hd : Nat.blt d C.N = true) (h : WV P C o σ av) : WO P C o σ (σ.put d av) := fun G a w ok N Q' hN =>
  h G a w ok N Q' fun v G' w' hk hr hb => by
    rw [hds]
    exact hN G' _ w' ((hk σ a ok).set (d := some d) hr hb fun x hx => by cases hx; exact of_blt hd)
theorem WL.opv {ops : Array Oper} {rest : List Oper} {Q : Exit → St → Prop} {av : AV} (hg : o.guard = none) (hds : o.dst = some d) (hd : Nat.blt d C.N = true) (h : WV P C o σ av) (k : WL P C ops rest (σ.put d av) Q) : WL P C ops (o :: rest) σ Q :=
  WL.op hg (WO.of_wv hds hd h) k
theorem WV.val {av : AV} (hb : ∀ G a w, Ok C σ G a w → Bd σ.nk av) (h : ∀ G a w, Ok C σ G a w → ∃ v, (execOp a.eval o).run P w = .ok (.value v) w ∧ R G av v) : WV P C o σ av := by
  intro G a w ok N Q' hN
  obtain ⟨v, h1, h2⟩ := h G a w ok
  unfold Oper.wp
  rw [h1]
  exact hN v G w (fun _ _ h => h) h2 (hb G a w ok)
theorem WV.sc {v : Value} (h : ∀ G a w, Ok C σ G a w → (execOp a.eval o).run P w = .ok (.value v) w) : WV P C o σ (.sc v) :=
  WV.val (fun _ _ _ _ => .sc v) fun G a w ok => ⟨v, h G a w ok, .pu _ _ (.sc v)⟩
theorem WV.move {x : Operand} {av : AV} (ho : o.op = .move x) (hx : σ.ev x = some av) : WV P C o σ av :=
  WV.val (fun G a w ok => (ok.evr hx).1) fun G a w ok => ⟨a.eval x, by unfold execOp; simp only [ho]; rfl, (ok.evr hx).2⟩
theorem WV.assign {x : Operand} {av : AV} (ho : o.op = .assign x) (hx : σ.ev x = some av) : WV P C o σ av :=
  WV.val (fun G a w ok => (ok.evr hx).1) fun G a w ok => ⟨a.eval x, by unfold execOp; simp only [ho]; rfl, (ok.evr hx).2⟩
theorem WV.pickT {c x y : Operand} {av : AV} (ho : o.op = .pick c x y) (hc : σ.ev c = some (.sc (.bool true))) (hx : σ.ev x = some av) : WV P C o σ av :=
  WV.val (fun G a w ok => (ok.evr hx).1) fun G a w ok => ⟨a.eval x, by unfold execOp; simp [ho, ok.evs hc, asBool], (ok.evr hx).2⟩
theorem WV.pickF {c x y : Operand} {av : AV} (ho : o.op = .pick c x y) (hc : σ.ev c = some (.sc (.bool false))) (hy : σ.ev y = some av) : WV P C o σ av :=
  WV.val (fun G a w ok => (ok.evr hy).1) fun G a w ok => ⟨a.eval y, by unfold execOp; simp [ho, ok.evs hc, asBool], (ok.evr hy).2⟩
theorem WV.pickS {c x y : Operand} {b : Bool} {u v : Value} (ho : o.op = .pick c x y) (hc : σ.ev c = some (.sc (.bool b))) (hx : σ.ev x = some (.sc u)) (hy : σ.ev y = some (.sc v)) : WV P C o σ (.sc (if b = true then u else v)) :=
  WV.sc fun G a w ok => by unfold execOp; cases b <;> simp [ho, ok.evs hc, ok.evs hx, ok.evs hy, asBool]
/-! Integers. -/
def I64 (z : Int) : Prop := -9223372036854775808 ≤ z ∧ z < 9223372036854775808
theorem I64.wrap {z : Int} (h : I64 z) : IntKind.i64.wrap z = z := Go.IntWalk.i64_in z ⟨h.1, by have := h.2; omega⟩
theorem WV.add {T Ty : TypeId} {x y : Operand} {m n : Int} (ho : o.op = .binOp .add T x y Ty) (hx : σ.ev x = some (.sc (.int .i64 m))) (hy : σ.ev y = some (.sc (.int .i64 n))) (hb : I64 (m + n)) : WV P C o σ (.sc (.int .i64 (m + n))) :=
  WV.sc fun G a w ok => by unfold execOp; simp [ho, ok.evs hx, ok.evs hy, eqGuard, binOp, Op.intArith, hb.wrap]
theorem WV.sub {T Ty : TypeId} {x y : Operand} {m n : Int} (ho : o.op = .binOp .sub T x y Ty) (hx : σ.ev x = some (.sc (.int .i64 m))) (hy : σ.ev y = some (.sc (.int .i64 n))) (hb : I64 (m - n)) : WV P C o σ (.sc (.int .i64 (m - n))) :=
  WV.sc fun G a w ok => by unfold execOp; simp [ho, ok.evs hx, ok.evs hy, eqGuard, binOp, Op.intArith, hb.wrap]
theorem WV.mul {T Ty : TypeId} {x y : Operand} {m n : Int} (ho : o.op = .binOp .mul T x y Ty) (hx : σ.ev x = some (.sc (.int .i64 m))) (hy : σ.ev y = some (.sc (.int .i64 n))) (hb : I64 (m * n)) : WV P C o σ (.sc (.int .i64 (m * n))) :=
  WV.sc fun G a w ok => by unfold execOp; simp [ho, ok.evs hx, ok.evs hy, eqGuard, binOp, Op.intArith, hb.wrap]
theorem WV.lss {T Ty : TypeId} {x y : Operand} {k : IntKind} {m n : Int} (ho : o.op = .binOp .lss T x y Ty) (hx : σ.ev x = some (.sc (.int k m))) (hy : σ.ev y = some (.sc (.int k n))) : WV P C o σ (.sc (.bool (decide (m < n)))) :=
  WV.sc fun G a w ok => by unfold execOp; simp [ho, ok.evs hx, ok.evs hy, eqGuard, binOp, Op.intCmp]
theorem WV.leq {T Ty : TypeId} {x y : Operand} {k : IntKind} {m n : Int} (ho : o.op = .binOp .leq T x y Ty) (hx : σ.ev x = some (.sc (.int k m))) (hy : σ.ev y = some (.sc (.int k n))) : WV P C o σ (.sc (.bool (decide (m ≤ n)))) :=
  WV.sc fun G a w ok => by unfold execOp; simp [ho, ok.evs hx, ok.evs hy, eqGuard, binOp, Op.intCmp]
theorem WV.gtr {T Ty : TypeId} {x y : Operand} {k : IntKind} {m n : Int} (ho : o.op = .binOp .gtr T x y Ty) (hx : σ.ev x = some (.sc (.int k m))) (hy : σ.ev y = some (.sc (.int k n))) : WV P C o σ (.sc (.bool (decide (n < m)))) :=
  WV.sc fun G a w ok => by unfold execOp; simp [ho, ok.evs hx, ok.evs hy, eqGuard, binOp, Op.intCmp]
theorem WV.geq {T Ty : TypeId} {x y : Operand} {k : IntKind} {m n : Int} (ho : o.op = .binOp .geq T x y Ty) (hx : σ.ev x = some (.sc (.int k m))) (hy : σ.ev y = some (.sc (.int k n))) : WV P C o σ (.sc (.bool (decide (n ≤ m)))) :=
  WV.sc fun G a w ok => by unfold execOp; simp [ho, ok.evs hx, ok.evs hy, eqGuard, binOp, Op.intCmp]
theorem WV.eql {T Ty : TypeId} {x y : Operand} {k : IntKind} {m n : Int} (ho : o.op = .binOp .eql T x y Ty) (hx : σ.ev x = some (.sc (.int k m))) (hy : σ.ev y = some (.sc (.int k n))) : WV P C o σ (.sc (.bool (decide (m = n)))) :=
  WV.sc fun G a w ok => by unfold execOp; simp [ho, ok.evs hx, ok.evs hy, eqGuard, binOp, Op.intCmp]; rfl
theorem WV.neq {T Ty : TypeId} {x y : Operand} {k : IntKind} {m n : Int} (ho : o.op = .binOp .neq T x y Ty) (hx : σ.ev x = some (.sc (.int k m))) (hy : σ.ev y = some (.sc (.int k n))) : WV P C o σ (.sc (.bool (!decide (m = n)))) :=
  WV.sc fun G a w ok => by unfold execOp; simp [ho, ok.evs hx, ok.evs hy, eqGuard, binOp, Op.intCmp]; rfl
theorem WV.not {T : TypeId} {x : Operand} {b : Bool} (ho : o.op = .unOp .not T x) (hx : σ.ev x = some (.sc (.bool b))) : WV P C o σ (.sc (.bool (!b))) :=
  WV.sc fun G a w ok => by unfold execOp; simp [ho, ok.evs hx, Op.unary]
theorem WV.beq {T Ty : TypeId} {x y : Operand} {b c : Bool} (ho : o.op = .binOp .eql T x y Ty) (hT : P.underlying T = some .bool) (hx : σ.ev x = some (.sc (.bool b))) (hy : σ.ev y = some (.sc (.bool c))) : WV P C o σ (.sc (.bool (b == c))) :=
  WV.sc fun G a w ok => by unfold execOp; simp [ho, ok.evs hx, ok.evs hy, eqGuard, binOp, run_equal_bool w T b c hT]
theorem WV.bne {T Ty : TypeId} {x y : Operand} {b c : Bool} (ho : o.op = .binOp .neq T x y Ty) (hT : P.underlying T = some .bool) (hx : σ.ev x = some (.sc (.bool b))) (hy : σ.ev y = some (.sc (.bool c))) : WV P C o σ (.sc (.bool (!(b == c)))) :=
  WV.sc fun G a w ok => by unfold execOp; simp [ho, ok.evs hx, ok.evs hy, eqGuard, binOp, run_equal_bool w T b c hT]
def scs : List AV → Option (List Value)
  | [] => some []
  | .sc v :: r => (scs r).map (v :: ·)
  | _ => none
theorem scs_of {G : Gh} : ∀ {l : List AV} {xs : List Value}, scs l = some xs → ∀ {cs : List Value}, cs.length = l.length → (∀ (i : Nat) av u, l[i]? = some av → cs[i]? = some u → R G av u) → cs = xs := by
  intro l
  induction l with
  | nil => intro xs h cs hl _; cases h; exact List.eq_nil_of_length_eq_zero hl
  | cons a r ih =>
    intro xs h cs hl hc
    cases a with
    | sc v =>
      cases hr : scs r with
      | none => simp [scs, hr] at h
      | some ys =>
        simp [scs, hr] at h
        subst h
        cases cs with
        | nil => simp at hl
        | cons u us =>
          have h0 := (hc 0 (.sc v) u rfl rfl).sc_eq
          have := ih hr (cs := us) (by simpa using hl) (fun i av x p q => hc (i + 1) av x (by simpa using p) (by simpa using q))
          rw [h0, this]
    | _ => simp [scs] at h
/-! Strings, as lists of bytes. -/
theorem WV.seq_ {T Ty : TypeId} {x y : Operand} {s t : List UInt8} (ho : o.op = .binOp .eql T x y Ty) (hx : σ.ev x = some (.sc (.string (bs s)))) (hy : σ.ev y = some (.sc (.string (bs t)))) : WV P C o σ (.sc (.bool (s == t))) :=
  WV.sc fun G a w ok => by unfold execOp; simp [ho, ok.evs hx, ok.evs hy, eqGuard, binOp, Op.stringOp, bs_toList]
theorem WV.sne {T Ty : TypeId} {x y : Operand} {s t : List UInt8} (ho : o.op = .binOp .neq T x y Ty) (hx : σ.ev x = some (.sc (.string (bs s)))) (hy : σ.ev y = some (.sc (.string (bs t)))) : WV P C o σ (.sc (.bool (!(s == t)))) :=
  WV.sc fun G a w ok => by unfold execOp; simp [ho, ok.evs hx, ok.evs hy, eqGuard, binOp, Op.stringOp, bs_toList]
theorem WV.cat {T Ty : TypeId} {x y : Operand} {s t : List UInt8} (ho : o.op = .binOp .add T x y Ty) (hx : σ.ev x = some (.sc (.string (bs s)))) (hy : σ.ev y = some (.sc (.string (bs t)))) (hl : s.length + t.length < 9223372036854775808) : WV P C o σ (.sc (.string (bs (s ++ t)))) :=
  WV.sc fun G a w ok => by
    have h1 : ¬ ((((bs s).size + (bs t).size : Nat) : Int) > IntKind.i64.max) := by
      rw [bs_size, bs_size]
      have : IntKind.i64.max = 9223372036854775807 := by decide
      rw [this]; omega
    unfold execOp
    simp only [ho, ok.evs hx, ok.evs hy, eqGuard, binOp, Op.stringOp, if_neg h1]
    simp [bs_append]
/-! Tuples, lengths. -/
theorem WV.extract {x : Operand} {i : Nat} {l : List AV} {av : AV} (ho : o.op = .extract x i) (hx : σ.ev x = some (.tu l)) (hi : l[i]? = some av) : WV P C o σ av :=
  WV.val (fun G a w ok => by cases (ok.evr hx).1 with | tu _ h => exact h i av hi) fun G a w ok => by
    obtain ⟨cs, e, h1, h2⟩ := (ok.evr hx).2.tu_of
    have hlt : i < cs.size := by rw [h1]; exact (List.getElem?_eq_some_iff.1 hi).1
    refine ⟨cs[i], ?_, h2 i av _ hi (Array.getElem?_eq_getElem hlt)⟩
    unfold execOp
    simp [ho, e, Instr.extract, Array.getElem?_eq_getElem hlt]
theorem WV.lenL {x : Operand} {T e : TypeId} {n : Nat} {rows : List (List AV)} (ho : o.op = .call { callee := .builtin .len, args := #[x], argTypes := #[T] }) (hT : P.underlying T = some (.slice e)) (hx : σ.ev x = some (.ls n rows)) {m : Nat} (hm : rows.length = m) : WV P C o σ (.sc (.int .i64 m)) :=
  WV.sc fun G a w ok => by
    obtain ⟨A, cap, ad, u, e, _⟩ := (ok.evr hx).2.pu_of.ls_of
    subst hm
    unfold execOp
    simp [ho, resolve, invoke, builtin, e, Builtin.len_, run_underlying hT, goInt]
theorem RowIs.len {w : World} {T n : Nat} {rows : List (List AV)} {v : Value} {φ : Nat → Prop} {X : Nat → Nat → (Nat → Prop) → AV → Value → Prop} (h : RowIs w T n rows v φ X) : ∃ A c, v = .slice A rows.length c := by
  obtain ⟨_, vs, Φ, h4, h5, _⟩ := h
  rcases h4.2 with ⟨e, e2⟩ | ⟨g, cap, cur, e, _⟩
  · exact ⟨none, 0, by rw [e, ← h5, e2]⟩
  · exact ⟨_, cap, by rw [e, h5]⟩
def AO.rows? : AO → Option (List (List AV))
  | .row _ _ rows => some rows
  | .rwn _ _ rows => some rows
  | .rof _ _ rows _ _ => some rows
  | _ => none
theorem ObAt.len {G : Gh} {w : World} {k : Nat} {ob : AO} {rows : List (List AV)} (h : ObAt G w k ob) (hr : ob.rows? = some rows) : ∃ A c, G.h k = .slice A rows.length c := by
  cases ob with
  | row T n rs => cases hr; exact h.2.2.len
  | rwn T n rs => cases hr; exact h.2.2.len
  | rof T n rs hi hj => cases hr; exact h.2.2.len
  | _ => cases hr
theorem WV.lenS {x : Operand} {T e : TypeId} {k : Nat} {ob : AO} {rows : List (List AV)} (ho : o.op = .call { callee := .builtin .len, args := #[x], argTypes := #[T] }) (hT : P.underlying T = some (.slice e)) (hx : σ.ev x = some (.sl k)) (hk : look k σ.M = some ob) (hr : ob.rows? = some rows) {m : Nat} (hm : rows.length = m) : WV P C o σ (.sc (.int .i64 m)) :=
  WV.sc fun G a w ok => by
    have e := (ok.evr hx).2.sl_of.1
    obtain ⟨A, c, e2⟩ := (ok.ob k _ hk).2.2.len hr
    rw [e2] at e
    subst hm
    unfold execOp
    simp [ho, resolve, invoke, builtin, e, Builtin.len_, run_underlying hT, goInt]
theorem WV.lenN {x : Operand} {T e : TypeId} {A : Option Addr} {m c : Nat} (ho : o.op = .call { callee := .builtin .len, args := #[x], argTypes := #[T] }) (hT : P.underlying T = some (.slice e)) (hx : σ.ev x = some (.sc (.slice A m c))) : WV P C o σ (.sc (.int .i64 m)) :=
  WV.sc fun G a w ok => by
    unfold execOp
    simp [ho, resolve, invoke, builtin, ok.evs hx, Builtin.len_, run_underlying hT, goInt]
theorem WV.lenB {x : Operand} {T : TypeId} {s : List UInt8} (ho : o.op = .call { callee := .builtin .len, args := #[x], argTypes := #[T] }) (hT : P.underlying T = some .string) (hx : σ.ev x = some (.sc (.string (bs s)))) : WV P C o σ (.sc (.int .i64 s.length)) :=
  WV.sc fun G a w ok => by
    unfold execOp
    simp [ho, resolve, invoke, builtin, ok.evs hx, Builtin.len_, run_underlying hT, goInt, bs_size]
/-! Pointers. -/
theorem add_ptr {b j : Nat} (p : Addr) (h1 : p.block = b) (h3 : p.spot = none) : (p.add j).block = b ∧ (p.add j).off = p.off + j ∧ (p.add j).spot = none := by
  unfold Addr.add
  by_cases e : j = 0
  · subst e; simp [h1, h3]
  · simp [e, h1]
end
end Go.Proofs.YtkgnmddakiagbaaGreatDoor
namespace Go.Proofs.YtkgnmddakiagbaaGreatDoor
open Go.RowKit
def fldB (P : Program) (T i : Nat) : Option Nat :=
  match P.underlying T with
  | some (.struct fs) =>
    match fs[i]? with
    | some f => if P.cellsOf f.type = 0 then none else some f.offset
    | none => none
  | _ => none
def aggB (P : Program) (T : TypeId) : Option Bool :=
  match P.underlying T with
  | some (.struct _) | some (.array _ _) => some true
  | some _ => some false
  | none => none
def sizeB (P : Program) (T : TypeId) : Option Nat := (P.info? T).map (·.size)
section
variable {P : Program} {C : Cx} {σ σ' : St} {o : Oper} {d : Tmp}
theorem run_sizeB {T n : Nat} (h : sizeB P T = some n) (w : World) : (sizeOf T).run P w = .ok n w := by
  unfold sizeB at h
  cases hi : P.info? T with
  | none => simp [hi] at h
  | some i =>
    simp [hi] at h
    simp [sizeOf, typeInfo, hi, h]
theorem run_aggB {T : Nat} {b : Bool} (h : aggB P T = some b) (w : World) : (isAgg T).run P w = .ok b w := by
  unfold aggB at h
  cases hu : P.underlying T with
  | none => simp [hu] at h
  | some u =>
    unfold isAgg
    rw [Sem.run_bind, run_underlying hu w]
    cases u <;> simp_all
theorem run_fld {T i off : Nat} (h : fldB P T i = some off) (p : Addr) (w : World) : (Instr.fieldAt T (.pointer (some p)) i).run P w = .ok (.pointer (some (p.add off))) w := by
  unfold fldB at h
  cases hu : P.underlying T with
  | none => simp [hu] at h
  | some u =>
    cases u with
    | struct fs =>
      simp only [hu] at h
      cases hf : fs[i]? with
      | none => simp [hf] at h
      | some f =>
        simp only [hf] at h
        by_cases h0 : P.cellsOf f.type = 0
        · rw [if_pos h0] at h; cases h
        · rw [if_neg h0] at h
          cases h
          cases hq : P.info? f.type with
          | none => exact absurd (by unfold Program.cellsOf; rw [hq]; rfl) h0
          | some q =>
            have hne : q.size ≠ 0 := by
              intro e; apply h0; unfold Program.cellsOf; rw [hq]; exact e
            simp [Instr.fieldAt, Instr.sureAddr, fieldPlace, run_underlying hu, hf, sizeOf, typeInfo, hq, hne]
    | _ => simp [hu] at h
theorem WV.fieldP {T : TypeId} {x : Operand} {i off k r j : Nat} (ho : o.op = .fieldAddr T x i) (hf : fldB P T i = some off) (hx : σ.ev x = some (.pt k r j)) : WV P C o σ (.pt k r (j + off)) :=
  WV.val (fun G a w ok => by cases (ok.evr hx).1 with | pt _ _ _ h => exact .pt _ _ _ h) fun G a w ok => by
    obtain ⟨p, e, h1, h2, h3⟩ := (ok.evr hx).2.pt_of
    obtain ⟨q1, q2, q3⟩ := add_ptr (j := off) p h1 h3
    exact ⟨_, by unfold execOp; simp [ho, e, run_fld hf], .pt k r (j + off) _ q1 (by omega) q3⟩
theorem WV.fieldR {T : TypeId} {x : Operand} {i off : Nat} {cells : List AV} (ho : o.op = .fieldAddr T x i) (hf : fldB P T i = some off) (hx : σ.ev x = some (.pr cells)) : WV P C o σ (.pr (cells.drop off)) :=
  WV.val (fun _ _ _ _ => .pr _) fun G a w ok => by
    obtain ⟨p, u, e, h1, h2⟩ := (ok.evr hx).2.pr_of.pr_of
    refine ⟨.pointer (some (p.add off)), by unfold execOp; simp [ho, e, run_fld hf], .pu _ _ (.pr _ _ (fun j => u (off + j)) (fun j av h => ?_) fun j av h => ?_)⟩
    · rw [List.getElem?_drop] at h
      rw [add_of_add]
      exact h1 _ av h
    · rw [List.getElem?_drop] at h
      exact h2 _ av h
/-! Indices. -/
theorem run_index {T e n : Nat} (hT : P.underlying T = some (.slice e)) (hn : sizeB P e = some n) (ad : Addr) (len cap : Nat) (k : IntKind) (z : Int) (h0 : 0 ≤ z) (h1 : z < len) (w : World) :
    (Instr.indexAt T (.slice (some ad) len cap) (.int k z)).run P w = .ok (.pointer (some (ad.add (z.toNat * n)))) w := by
  simp [Instr.indexAt, asIntOf, run_underlying hT, h0, h1, run_sizeB hn]
theorem WV.indexL {T e n : Nat} {x y : Operand} {rows : List (List AV)} {k : IntKind} {z : Int} {r : List AV} (ho : o.op = .indexAddr T x y) (hT : P.underlying T = some (.slice e)) (hn : sizeB P e = some n)
    (hx : σ.ev x = some (.ls n rows)) (hy : σ.ev y = some (.sc (.int k z))) (h0 : 0 ≤ z) (hr : rows[z.toNat]? = some r) : WV P C o σ (.pr r) :=
  WV.val (fun _ _ _ _ => .pr _) fun G a w ok => by
    obtain ⟨A, cap, ad, u, e1, h1, h2, h3, h4, _⟩ := (ok.evr hx).2.pu_of.ls_of
    have hlt : z.toNat < rows.length := (List.getElem?_eq_some_iff.1 hr).1
    obtain rfl := h2 (by omega)
    refine ⟨.pointer (some (ad.add (z.toNat * n))), by unfold execOp; simp [ho, e1, ok.evs hy, run_index hT hn ad rows.length cap k z h0 (by omega)], .pu _ _ (.pr _ _ (fun j => u z.toNat j) (fun j av h => ?_) fun j av h => ?_)⟩
    · rw [add_of_add]; exact h3 _ r j av hr h
    · exact h4 _ r j av hr h
theorem RowIs.base {w : World} {T n : Nat} {rows : List (List AV)} {v : Value} {φ : Nat → Prop} {b : Nat} {X : Nat → Nat → (Nat → Prop) → AV → Value → Prop} (h : RowIs w T n rows v φ X) (hg : ∀ g, v.ownBlock = some g → g = b) (hp : 0 < rows.length) : ∃ c, v = .slice (some ⟨b, 0, none⟩) rows.length c := by
  obtain ⟨_, vs, Φ, h4, h5, _⟩ := h
  rcases h4.2 with ⟨e, e2⟩ | ⟨g, cap, cur, e, _⟩
  · omega
  · have := hg g (by rw [e]; rfl)
    exact ⟨cap, by rw [e, h5, this]⟩
def AO.n? : AO → Option Nat
  | .row _ n _ => some n
  | .rwn _ n _ => some n
  | .rof _ n _ _ _ => some n
  | _ => none
theorem ObAt.base {G : Gh} {w : World} {k n : Nat} {ob : AO} {rows : List (List AV)} (h : ObAt G w k ob) (hr : ob.rows? = some rows) (hn : ob.n? = some n) (hp : 0 < rows.length) : G.n k = n ∧ ∃ c, G.h k = .slice (some ⟨G.b k, 0, none⟩) rows.length c := by
  cases ob with
  | row T n rs => cases hr; cases hn; exact ⟨h.1, h.2.2.base h.2.1 hp⟩
  | rwn T n rs => cases hr; cases hn; exact ⟨h.1, h.2.2.base h.2.1 hp⟩
  | rof T n rs hi hj => cases hr; cases hn; exact ⟨h.1, h.2.2.base h.2.1 hp⟩
  | _ => cases hr
theorem WV.indexS {T e n k : Nat} {ob : AO} {x y : Operand} {rows : List (List AV)} {q : IntKind} {z : Int} (ho : o.op = .indexAddr T x y) (hT : P.underlying T = some (.slice e)) (hn : sizeB P e = some n)
    (hx : σ.ev x = some (.sl k)) (hy : σ.ev y = some (.sc (.int q z))) (hk : look k σ.M = some ob) (hr : ob.rows? = some rows) (hn2 : ob.n? = some n) (h0 : 0 ≤ z) (h1 : z < rows.length) : WV P C o σ (.pt k z.toNat 0) :=
  WV.val (fun G a w ok => .pt _ _ _ (ok.ob k _ hk).1) fun G a w ok => by
    have e1 := (ok.evr hx).2.sl_of.1
    obtain ⟨hn3, c, e2⟩ := (ok.ob k _ hk).2.2.base hr hn2 (by omega)
    rw [e2] at e1
    obtain ⟨q1, q2, q3⟩ := add_ptr (j := z.toNat * n) (⟨G.b k, 0, none⟩ : Addr) rfl rfl
    refine ⟨_, by unfold execOp; simp [ho, e1, ok.evs hy, run_index hT hn _ rows.length c q z h0 h1], .pt k z.toNat 0 _ q1 ?_ q3⟩
    rw [q2, hn3]; simp
/-! Loads. -/
theorem RP.bd {F : View} {av : AV} {v : Value} (r : RP F av v) (nk : Nat) : Bd nk av := by
  induction r with
  | sc v => exact .sc v
  | ls n rows A cap ad u _ _ _ _ _ _ => exact .ls n rows
  | pr cells p u _ _ _ => exact .pr cells
  | ag l cs h1 _ ih =>
    refine .ag l fun i x hx => ?_
    have hlt : i < cs.size := by rw [h1]; exact (List.getElem?_eq_some_iff.1 hx).1
    exact ih i x cs[i] hx (Array.getElem?_eq_getElem hlt)
  | tu l cs h1 _ ih =>
    refine .tu l fun i x hx => ?_
    have hlt : i < cs.size := by rw [h1]; exact (List.getElem?_eq_some_iff.1 hx).1
    exact ih i x cs[i] hx (Array.getElem?_eq_getElem hlt)
  | fn f l cs h1 _ ih =>
    refine .fn f l fun i x hx => ?_
    have hlt : i < cs.size := by rw [h1]; exact (List.getElem?_eq_some_iff.1 hx).1
    exact ih i x cs[i] hx (Array.getElem?_eq_getElem hlt)
def AO.from_ : AO → Nat → Nat → Option (List AV)
  | .box _ cells, 0, j => some (cells.drop j)
  | .box _ _, _ + 1, _ => none
  | .row _ _ rows, i, j => (rows[i]?).map (·.drop j)
  | .rwn _ _ rows, i, j => (rows[i]?).map (·.drop j)
  | .rof _ _ rows _ _, i, j => (rows[i]?).map (·.drop j)
  | .bld _ _ _, _, _ => none
  | .opq _, _, _ => none
theorem addr_eq {p : Addr} {b f : Nat} (h1 : p.block = b) (h2 : p.off = f) (h3 : p.spot = none) : p = ⟨b, f, none⟩ := by
  cases p; simp_all
theorem add_flat (b f j : Nat) : (⟨b, f, none⟩ : Addr).add j = ⟨b, f + j, none⟩ := by
  unfold Addr.add
  by_cases e : j = 0 <;> simp [e]
theorem RowIs.cell_at {w : World} {T n : Nat} {rows : List (List AV)} {v : Value} {φ : Nat → Prop} {b : Nat} {X : Nat → Nat → (Nat → Prop) → AV → Value → Prop} (h : RowIs w T n rows v φ X) (hg : ∀ g, v.ownBlock = some g → g = b) {i j : Nat} {r : List AV} {av : AV} (hr : rows[i]? = some r) (hm : r[j]? = some av) :
    ∃ u, w.cell? ⟨b, i * n + j, none⟩ = some u ∧ ∃ ψ, X i j ψ av u := by
  have hb := h.base hg (by have := (List.getElem?_eq_some_iff.1 hr).1; omega)
  obtain ⟨hrl, vs, Φ, h4, h5, h7, _, _, _, h8, h6⟩ := h
  have hi : i < rows.length := (List.getElem?_eq_some_iff.1 hr).1
  have hv : vs[i]? = some vs[i] := List.getElem?_eq_getElem (by omega)
  have e1 := h8 i r _ hr hv
  have hj : j < vs[i].length := by rw [e1]; exact (List.getElem?_eq_some_iff.1 hm).1
  have hvl : ∀ r ∈ vs, r.length = n := by
    intro r' hr'
    obtain ⟨q, hq, rfl⟩ := List.getElem_of_mem hr'
    have := h8 q rows[q] vs[q] (List.getElem?_eq_getElem (by omega)) (List.getElem?_eq_getElem hq)
    rw [this]; exact hrl _ (List.getElem_mem _)
  obtain ⟨A, c, hA, hrd, hat, _⟩ := rd_of_own h4 hvl rfl rfl
  obtain ⟨c2, hb2⟩ := hb
  rw [hb2] at hA
  injection hA with hA _ _
  subst hA
  obtain ⟨ad, had, _, hc⟩ := Rd.at_ (k := i) hrd (by omega)
  injection had with had
  subst had
  refine ⟨_, ?_, Φ i j, h6 i r _ j av _ hr hv hm (List.getElem?_eq_getElem hj)⟩
  have := hc j _ (List.getElem?_eq_getElem hj)
  rw [add_flat, Nat.zero_add] at this
  exact this
theorem Ok.cell {G : Gh} {a : Act} {w : World} (ok : Ok C σ G a w) {k i j m : Nat} {ob : AO} {l : List AV} {av : AV} {p : Addr} (hk : look k σ.M = some ob) (hf : ob.from_ i j = some l) (hm : l[m]? = some av)
    (h1 : p.block = G.b k) (h2 : p.off = i * G.n k + j) (h3 : p.spot = none) (ho : av.own = false) : ∃ u, w.cell? (p.add m) = some u ∧ R G av u ∧ Bd σ.nk av := by
  obtain rfl := addr_eq h1 h2 h3
  have h := ok.ob k ob hk
  cases ob with
  | box T cells =>
    cases i with
    | succ i => simp [AO.from_] at hf
    | zero =>
      simp only [AO.from_, Option.some.injEq] at hf
      subst hf
      rw [List.getElem?_drop] at hm
      obtain ⟨_, cs, Φ, hb, hs, _, _, hc⟩ := h.2.2
      have hlt : j + m < cs.size := by rw [hs]; exact (List.getElem?_eq_some_iff.1 hm).1
      refine ⟨cs[j + m], ?_, (hc _ _ _ hm (Array.getElem?_eq_getElem hlt)).r ho, h.2.1 _ _ hm⟩
      rw [add_flat, Nat.zero_mul, Nat.zero_add, hb.cell]
      exact Array.getElem?_eq_getElem hlt
  | row T n rows =>
    simp only [AO.from_] at hf
    cases hr : rows[i]? with
    | none => simp [hr] at hf
    | some r =>
      simp [hr] at hf
      subst hf
      rw [List.getElem?_drop] at hm
      obtain ⟨hn, hg, hR⟩ := h.2.2
      obtain ⟨u, hu, Ψ, hX⟩ := hR.cell_at hg hr hm
      have hp : RP G.F av u := hX
      refine ⟨u, ?_, .pu _ _ hp, hp.bd _⟩
      rw [add_flat, hn, Nat.add_assoc]; exact hu
  | rwn T n rows =>
    simp only [AO.from_] at hf
    cases hr : rows[i]? with
    | none => simp [hr] at hf
    | some r =>
      simp [hr] at hf
      subst hf
      rw [List.getElem?_drop] at hm
      obtain ⟨hn, hg, hR⟩ := h.2.2
      obtain ⟨u, hu, Ψ, hX⟩ := hR.cell_at hg hr hm
      have hp := OW.p hX ho
      refine ⟨u, ?_, .pu _ _ hp, hp.bd _⟩
      rw [add_flat, hn, Nat.add_assoc]; exact hu
  | rof T n rows hi hj =>
    simp only [AO.from_] at hf
    cases hr : rows[i]? with
    | none => simp [hr] at hf
    | some r =>
      simp [hr] at hf
      subst hf
      rw [List.getElem?_drop] at hm
      obtain ⟨hn, hg, hR⟩ := h.2.2
      obtain ⟨u, hu, Ψ, hX⟩ := hR.cell_at hg hr hm
      have hc : w.cell? ((⟨G.b k, i * G.n k + j, none⟩ : Addr).add m) = some u := by rw [add_flat, hn, Nat.add_assoc]; exact hu
      unfold XH at hX
      by_cases e : i = hi ∧ j + m = hj
      · rw [if_pos e] at hX
        obtain ⟨rfl, rfl⟩ := e
        exact ⟨u, hc, hX, h.2.1 r av hr hm⟩
      · rw [if_neg e] at hX
        have hp := OW.p hX ho
        exact ⟨u, hc, .pu _ _ hp, hp.bd _⟩
  | bld T e l => cases hf
  | opq q => cases hf
theorem run_load1 {T : TypeId} {p : Addr} {u : Value} {w : World} (hT : aggB P T = some false) (h : w.cell? p = some u) : (Instr.loadAt T (.pointer (some p))).run P w = .ok u w := by
  simp [Instr.loadAt, Instr.sureAddr, loadVar, run_aggB hT, h]
theorem run_loadN {T n : Nat} {p : Addr} {cs : List Value} {w : World} (hT : aggB P T = some true) (hn : sizeB P T = some n) (hl : cs.length = n) (h : ∀ j v, cs[j]? = some v → w.cell? (p.add j) = some v) : (Instr.loadAt T (.pointer (some p))).run P w = .ok (.agg cs.toArray) w := by
  have := run_loadCells_list (P := P) w p cs h
  rw [hl] at this
  simp [Instr.loadAt, Instr.sureAddr, loadVar, run_aggB hT, run_sizeB hn, this]
theorem add_zero' (p : Addr) : p.add 0 = p := by simp [Addr.add]
theorem WV.load1 {T : TypeId} {x : Operand} {k i j : Nat} {ob : AO} {l : List AV} {av : AV} (ho : o.op = .load T x) (hT : aggB P T = some false)
    (hx : σ.ev x = some (.pt k i j)) (hk : look k σ.M = some ob) (hf : ob.from_ i j = some l) (hm : l[0]? = some av) (hw : av.own = false) : WV P C o σ av :=
  WV.val (fun G a w ok => by
    obtain ⟨p, e, h1, h2, h3⟩ := (ok.evr hx).2.pt_of
    obtain ⟨u, _, _, hb⟩ := ok.cell hk hf hm h1 h2 h3 hw
    exact hb) fun G a w ok => by
    obtain ⟨p, e, h1, h2, h3⟩ := (ok.evr hx).2.pt_of
    obtain ⟨u, hu, hr, _⟩ := ok.cell hk hf hm h1 h2 h3 hw
    rw [add_zero'] at hu
    exact ⟨u, by unfold execOp; simp [ho, e, run_load1 hT hu], hr⟩
theorem WV.load1R {T : TypeId} {x : Operand} {cells : List AV} {av : AV} (ho : o.op = .load T x) (hT : aggB P T = some false)
    (hx : σ.ev x = some (.pr cells)) (hm : cells[0]? = some av) : WV P C o σ av :=
  WV.val (fun G a w ok => by
    obtain ⟨p, u, e, h1, h2⟩ := (ok.evr hx).2.pr_of.pr_of
    exact (h2 0 av hm).bd _) fun G a w ok => by
    obtain ⟨p, u, e, h1, h2⟩ := (ok.evr hx).2.pr_of.pr_of
    have hu := ok.fw _ _ (h1 0 av hm).1
    rw [add_zero'] at hu
    exact ⟨u 0, by unfold execOp; simp [ho, e, run_load1 hT hu], .pu _ _ (h2 0 av hm)⟩
theorem list_ofT {α : Type} (Q : Nat → α → Prop) : ∀ (n : Nat), (∀ j, j < n → ∃ u, Q j u) → ∃ l : List α, l.length = n ∧ ∀ j u, l[j]? = some u → Q j u := by
  intro n
  induction n with
  | zero => intro _; exact ⟨[], rfl, fun j u h => by simp at h⟩
  | succ n ih =>
    intro h
    obtain ⟨l, hl, hq⟩ := ih fun j hj => h j (by omega)
    obtain ⟨u, hu⟩ := h n (by omega)
    refine ⟨l ++ [u], by simp [hl], fun j v hv => ?_⟩
    by_cases e : j < n
    · rw [List.getElem?_append_left (by omega)] at hv; exact hq j v hv
    · rw [List.getElem?_append_right (by omega)] at hv
      have hj : j - l.length < [u].length := (List.getElem?_eq_some_iff.1 hv).1
      have : j = n := by simp at hj; omega
      subst this
      simp [hl] at hv
      rw [← hv]; exact hu
theorem WV.loadN {T n : Nat} {x : Operand} {k i j : Nat} {ob : AO} {l l' : List AV} (ho : o.op = .load T x) (hT : aggB P T = some true) (hn : sizeB P T = some n)
    (hx : σ.ev x = some (.pt k i j)) (hk : look k σ.M = some ob) (hf : ob.from_ i j = some l) (hl : l.take n = l') (hlen : l'.length = n) (hw : l'.all (fun av => !av.own) = true) : WV P C o σ (.ag l') :=
  have hw' : ∀ (m : Nat) av, l'[m]? = some av → av.own = false := fun m av h => by simpa using List.all_eq_true.1 hw av (List.mem_of_getElem? h)
  have hle : n ≤ l.length := by rw [← hl, List.length_take] at hlen; omega
  have hat : ∀ m av, l'[m]? = some av → l[m]? = some av := fun m av h => by
    have hlt : m < n := by rw [← hlen]; exact (List.getElem?_eq_some_iff.1 h).1
    rw [← hl, List.getElem?_take_of_lt hlt] at h; exact h
  WV.val (fun G a w ok => by
    obtain ⟨p, e, h1, h2, h3⟩ := (ok.evr hx).2.pt_of
    refine .ag _ fun m av hm => ?_
    obtain ⟨u, _, _, hb⟩ := ok.cell hk hf (hat m av hm) h1 h2 h3 (hw' m av hm)
    exact hb) fun G a w ok => by
    obtain ⟨p, e, h1, h2, h3⟩ := (ok.evr hx).2.pt_of
    obtain ⟨cs, hcl, hcq⟩ := list_ofT (fun m u => w.cell? (p.add m) = some u ∧ ∀ av, l'[m]? = some av → R G av u) n fun m hm => by
      have hg : l'[m]? = some l'[m] := List.getElem?_eq_getElem (by omega)
      obtain ⟨u, hu, hr, _⟩ := ok.cell hk hf (hat m _ hg) h1 h2 h3 (hw' m _ hg)
      exact ⟨u, hu, fun av h => by rw [hg] at h; cases h; exact hr⟩
    refine ⟨.agg cs.toArray, by unfold execOp; simp [ho, e, run_loadN hT hn hcl fun j v h => (hcq j v h).1], .ag _ _ (by simp [hcl, hlen]) fun m av u hm hu => (hcq m u (by simpa using hu)).2 av hm⟩
theorem WV.loadNR {T n : Nat} {x : Operand} {l l' : List AV} (ho : o.op = .load T x) (hT : aggB P T = some true) (hn : sizeB P T = some n)
    (hx : σ.ev x = some (.pr l)) (hl : l.take n = l') (hlen : l'.length = n) : WV P C o σ (.ag l') :=
  have hat : ∀ m av, l'[m]? = some av → l[m]? = some av := fun m av h => by
    have hlt : m < n := by rw [← hlen]; exact (List.getElem?_eq_some_iff.1 h).1
    rw [← hl, List.getElem?_take_of_lt hlt] at h; exact h
  WV.val (fun G a w ok => by
    obtain ⟨p, u, e, h1, h2⟩ := (ok.evr hx).2.pr_of.pr_of
    exact .ag _ fun m av hm => (h2 m av (hat m av hm)).bd _) fun G a w ok => by
    obtain ⟨p, u, e, h1, h2⟩ := (ok.evr hx).2.pr_of.pr_of
    have hh : ∀ (j : Nat) v, ((List.range n).map u)[j]? = some v → w.cell? (p.add j) = some v := fun j v h => by
      have hj : j < n := by simpa using (List.getElem?_eq_some_iff.1 h).1
      simp [hj] at h
      have hg : l'[j]? = some l'[j] := List.getElem?_eq_getElem (by omega)
      rw [← h]; exact ok.fw _ _ (h1 j _ (hat j _ hg)).1
    refine ⟨.agg ((List.range n).map u).toArray, by unfold execOp; simp only [ho, e]; rw [Sem.run_bind, run_loadN hT hn (by simp) hh]; rfl, .ag _ _ (by simp [hlen]) fun m av v hm hv => ?_⟩
    have hj : m < n := by rw [← hlen]; exact (List.getElem?_eq_some_iff.1 hm).1
    simp [hj] at hv
    rw [← hv]; exact .pu _ _ (h2 m av (hat m av hm))
end
end Go.Proofs.YtkgnmddakiagbaaGreatDoor
namespace Go.Proofs.YtkgnmddakiagbaaGreatDoor
open Go.RowKit
def St.new (σ : St) (ob : AO) : St := { σ with M := (σ.nk, ob) :: σ.M, nk := σ.nk + 1 }
def St.upd (σ : St) (k : Nat) (ob : AO) : St := { σ with M := (k, ob) :: σ.M }
def AV.cells : AV → List AV
  | .ag l => l
  | av => [av]
def AV.cellB : AV → Bool
  | .sc v => v.oneCell'
  | .tu _ => false
  | .ow _ _ _ => false
  | _ => true
def AV.oneB : AV → Bool
  | .sc v => v.oneCell'
  | .tu _ => false
  | .ag _ => false
  | .ow _ _ _ => false
  | _ => true
section
variable {P : Program} {C : Cx} {σ σ' : St} {G G' : Gh} {a : Act} {w w' : World} {o : Oper} {d : Tmp}
theorem AO.bd_mono {nk nk' : Nat} (h : nk ≤ nk') {ob : AO} (b : ob.bd nk) : ob.bd nk' := by
  cases ob with
  | box T cells => exact fun i av x => (b i av x).mono h
  | row T n rows => trivial
  | rwn T n rows => trivial
  | rof T n rows hi hj => exact fun r av x y => (b r av x y).mono h
  | bld T e l => trivial
  | opq q => trivial
theorem Ok.add (ok : Ok C σ G a w) {ob : AO} (h : ObAt G w σ.nk ob) (hbd : ob.bd (σ.nk + 1))
    (hown : ∀ x, G.fp σ.nk x → C.may x ∧ x < w.heap.size ∧ (∀ k o, look k σ.M = some o → ¬ G.fp k x) ∧ ∀ p u, G.F p = some u → p.block ≠ x) : Ok C (σ.new ob) G a w := by
  have hl : ∀ k o, look k (σ.new ob).M = some o → (k = σ.nk ∧ o = ob) ∨ (k ≠ σ.nk ∧ look k σ.M = some o) := fun k o hx => by
    by_cases e : k = σ.nk
    · subst e
      rw [show look σ.nk (σ.new ob).M = some ob from look_set_same] at hx
      cases hx
      exact .inl ⟨rfl, rfl⟩
    · rw [show look k (σ.new ob).M = look k σ.M from look_set_other e] at hx
      exact .inr ⟨e, hx⟩
  refine ⟨ok.sz, ⟨ok.df.1, Nat.le_succ_of_le ok.df.2.1, ok.df.2.2⟩, fun i av x => ⟨(ok.tm i av x).1, (ok.tm i av x).2.1.mono (Nat.le_succ _), (ok.tm i av x).2.2⟩, ok.bel, ok.fw, ok.f0, ok.f1, ?_, ?_, ?_, ?_⟩
  · intro k o x
    rcases hl k o x with ⟨rfl, rfl⟩ | ⟨e, y⟩
    · exact ⟨Nat.lt_succ_self _, hbd, h⟩
    · exact ⟨Nat.lt_succ_of_lt (ok.ob k o y).1, AO.bd_mono (Nat.le_succ _) (ok.ob k o y).2.1, (ok.ob k o y).2.2⟩
  · intro k o x h1 h2
    rcases hl k o h1 with ⟨rfl, rfl⟩ | ⟨e, y⟩
    · exact ⟨(hown x h2).1, (hown x h2).2.1⟩
    · exact ok.my k o x y h2
  · intro k o k' o' x h1 h2 h3 h4
    rcases hl k o h1 with ⟨rfl, rfl⟩ | ⟨e, y⟩
    · rcases hl k' o' h2 with ⟨rfl, rfl⟩ | ⟨e', y'⟩
      · rfl
      · exact absurd h4 ((hown x h3).2.2.1 k' o' y')
    · rcases hl k' o' h2 with ⟨rfl, rfl⟩ | ⟨e', y'⟩
      · exact absurd h3 ((hown x h4).2.2.1 k o y)
      · exact ok.dj k o k' o' x y y' h3 h4
  · intro k o x p u h1 h2 h3
    rcases hl k o h1 with ⟨rfl, rfl⟩ | ⟨e, y⟩
    · exact (hown x h2).2.2.2 p u h3
    · exact ok.dF k o x p u y h2 h3
def Gh.with (G : Gh) (k : Nat) (b n : Nat) (h : Value) (φ : Nat → Prop) : Gh :=
  ⟨G.F, fun q => if q = k then b else G.b q, fun q => if q = k then n else G.n q, fun q => if q = k then h else G.h q, fun q => if q = k then φ else G.fp q⟩
theorem Gh.with_le (G : Gh) (k : Nat) (b n : Nat) (h : Value) (φ : Nat → Prop) : G.le (G.with k b n h φ) k := ⟨fun _ _ h => h, fun q hq => if_neg (by omega), fun q hq => if_neg (by omega), fun q hq => if_neg (by omega)⟩
theorem Gh.with_fp (G : Gh) (k : Nat) (b n : Nat) (h : Value) (φ : Nat → Prop) : ∀ q, q < k → (G.with k b n h φ).fp q = G.fp q := fun q hq => if_neg (by omega)
theorem Ok.newBox (ok : Ok C σ G a w) {cells : List AV} {cs : Array Value} (T : TypeId) (hs : cs.size = cells.length) (hc : ∀ (i : Nat) av u, cells[i]? = some av → cs[i]? = some u → R G av u) (hb : ∀ (i : Nat) av, cells[i]? = some av → Bd σ.nk av) :
    ∃ G', G.le G' σ.nk ∧ G'.b σ.nk = w.heap.size ∧ Ok C (σ.new (.box T cells)) G' a (w.alloc (.cells cs T)) := by
  have hle := G.with_le σ.nk w.heap.size 0 undef (fun x => x = w.heap.size)
  have hfp := G.with_fp σ.nk w.heap.size 0 undef (fun x => x = w.heap.size)
  have hbl : ∀ x, x < w.heap.size → (w.alloc (.cells cs T)).heap[x]? = w.heap[x]? := fun x hx => Below.heap_alloc w _ x hx
  have ok1 : Ok C σ (G.with σ.nk w.heap.size 0 undef (fun x => x = w.heap.size)) a (w.alloc (.cells cs T)) :=
    ok.world (S := fun _ => False) hle hfp (Kept.below ((Below.refl _ _).alloc (Nat.le_refl _) _)) (fun _ h => h.elim) (fun k o x h1 h2 => hbl x (ok.my k o x h1 h2).2)
      (fun p u h => (World.cell?_of_block (hbl _ (cell_block (ok.fw p u h)))).trans (ok.fw p u h)) (fun _ _ h => .inl h)
  have e1 : (G.with σ.nk w.heap.size 0 undef (fun x => x = w.heap.size)).b σ.nk = w.heap.size := if_pos rfl
  have e2 : (G.with σ.nk w.heap.size 0 undef (fun x => x = w.heap.size)).fp σ.nk = fun x => x = w.heap.size := if_pos rfl
  refine ⟨_, hle, e1, ok1.add ⟨by rw [e1, e2], cs, fun _ _ => False, ?_, hs, fun _ _ h => h.elim, fun _ _ _ h => h.elim, fun i av u x y => .inl ((hc i av u x y).mono hle (hb i av x))⟩ (fun i av x => (hb i av x).mono (Nat.le_succ _)) ?_⟩
  · rw [e1]; exact Blk.new w T cs
  · intro x hx
    rw [e2] at hx
    obtain rfl : x = w.heap.size := hx
    refine ⟨.inl ok.bel.size, by simp, fun k o h1 h2 => ?_, fun p u h => ?_⟩
    · rw [hfp k (ok.ob k o h1).1] at h2
      have := (ok.my k o _ h1 h2).2
      omega
    · have := cell_block (ok.fw p u h)
      omega
theorem cells_of {av : AV} {v : Value} (r : R G av v) (hB : av.cellB = true) : v.cells.size = av.cells.length ∧ ∀ (i : Nat) x u, av.cells[i]? = some x → v.cells[i]? = some u → R G x u := by
  have one : ∀ (av : AV) (v : Value), R G av v → v.oneCell' = true → v.cells.size = [av].length ∧ ∀ (i : Nat) x u, [av][i]? = some x → v.cells[i]? = some u → R G x u := fun av v r h => by
    have hv : v.cells = #[v] := by cases v <;> first | rfl | cases h
    rw [hv]
    refine ⟨rfl, fun i x u a b => ?_⟩
    cases i with
    | zero => cases a; cases b; exact r
    | succ i => simp at a
  cases av with
  | sc x =>
    have := r.sc_eq
    subst this
    exact one _ _ r hB
  | ag l =>
    obtain ⟨cs, rfl, h1, h2⟩ := r.ag_of
    exact ⟨h1, h2⟩
  | tu l => cases hB
  | ls n rows => obtain ⟨A, cap, ad, u, rfl, _⟩ := r.pu_of.ls_of; exact one _ _ r rfl
  | pr cells => obtain ⟨p, u, rfl, _⟩ := r.pr_of.pr_of; exact one _ _ r rfl
  | pt k i j => obtain ⟨p, rfl, _⟩ := r.pt_of; exact one _ _ r rfl
  | sl k => exact one _ _ r r.sl_of.2
  | ow T n rows => cases hB
  | fn f l => obtain ⟨cs, rfl, _⟩ := r.fn_of; exact one _ _ r rfl
theorem cells_bd {nk : Nat} {av : AV} (b : Bd nk av) : ∀ (i : Nat) x, av.cells[i]? = some x → Bd nk x := by
  have one : ∀ av : AV, Bd nk av → ∀ (i : Nat) x, [av][i]? = some x → Bd nk x := fun av b i x h => by
    cases i with
    | zero => cases h; exact b
    | succ i => simp at h
  cases av with
  | ag l => cases b with | ag _ h => exact h
  | _ => exact one _ b
theorem WO.box {T : TypeId} {x : Operand} {av : AV} {l : List AV} {n : Nat} (ho : o.op = .box T x) (hds : o.dst = some d) (hd : Nat.blt d C.N = true) (hx : σ.ev x = some av) (hB : av.cellB = true) (hl : av.cells = l) (hn : σ.nk = n) : WO P C o σ ((σ.new (.box T l)).put d (.pt n 0 0)) := by
  intro G a w ok N Q' hN
  obtain ⟨hb, hr⟩ := ok.evr hx
  obtain ⟨h1, h2⟩ := cells_of hr hB
  obtain ⟨G', hle, hbb, ok'⟩ := ok.newBox T h1 h2 (cells_bd hb)
  unfold Oper.wp execOp
  simp only [ho, Instr.box, newVar, newRow, Sem.run_bind, Sem.run_pure, run_newObj, Result.andThen_ok]
  show N (a.put o.dst _) _
  rw [hds]
  subst hl hn
  exact hN G' _ _ (ok'.set (d := some d) (.pt σ.nk 0 0 _ hbb.symm (by simp) rfl) (.pt _ _ _ (Nat.lt_succ_self _)) fun x hx => by cases hx; exact of_blt hd)
theorem WO.alloc {T : TypeId} {z : Value} {l : List AV} {n : Nat} (ho : o.op = .alloc T) (hz : (P.info? T).bind (·.zero) = some z) (hds : o.dst = some d) (hd : Nat.blt d C.N = true) (hl : z.cells.toList.map .sc = l) (hn : σ.nk = n) : WO P C o σ ((σ.new (.box T l)).put d (.pt n 0 0)) := by
  intro G a w ok N Q' hN
  have hc : ∀ (i : Nat) av u, l[i]? = some av → z.cells[i]? = some u → R G av u := fun i av u x y => by
    rw [← hl, List.getElem?_map] at x
    rw [show z.cells.toList[i]? = z.cells[i]? by simp, y] at x
    cases x
    exact .pu _ _ (.sc _)
  have hb : ∀ (i : Nat) av, l[i]? = some av → Bd σ.nk av := fun i av x => by
    rw [← hl, List.getElem?_map] at x
    cases hq : z.cells.toList[i]? with
    | none => simp [hq] at x
    | some u => simp [hq] at x; rw [← x]; exact .sc _
  obtain ⟨G', hle, hbb, ok'⟩ := ok.newBox (cells := l) (cs := z.cells) T (by rw [← hl]; simp) hc hb
  cases hi : P.info? T with
  | none => simp [hi] at hz
  | some i =>
    simp [hi] at hz
    unfold Oper.wp execOp
    simp only [ho, Instr.alloc, zeroValue, typeInfo, newVar, newRow, Sem.run_bind, Sem.run_pure, run_newObj, Result.andThen_ok, run_program, hi, hz]
    show N (a.put o.dst _) _
    rw [hds]
    subst hn
    exact hN G' _ _ (ok'.set (d := some d) (.pt σ.nk 0 0 _ hbb.symm (by simp) rfl) (.pt _ _ _ (Nat.lt_succ_self _)) fun x hx => by cases hx; exact of_blt hd)
end
end Go.Proofs.YtkgnmddakiagbaaGreatDoor
namespace Go.Proofs.YtkgnmddakiagbaaGreatDoor
open Go.RowKit
set_option maxHeartbeats 1600000
set_option maxRecDepth 100000
theorem highest_any (A1 A2 : Option Addr) (cs : List (Int × Int × Bool)) (st : List Int) (n1 n2 c1 c2 B : Nat) (p f : Int) (o : Bool) (w : World) (hI : InsAt w B A1 A2 cs st) (hB : B ≤ w.heap.size)
    (hn2 : n2 = st.length) (hp : 0 ≤ p ∧ p ≤ 127) (hf : 0 ≤ f ∧ f ≤ st.length) (hl : st.length ≤ 18) (hst : ∀ k (h : k < st.length), 1 ≤ st[k] ∧ st[k] ≤ 127) :
    Calls Tryz.prog 173 #[.agg #[.slice A1 n1 c1, .slice A2 n2 c2], .agg #[.int .i64 p, .int .i64 f, .bool o]] w (Ret (.int .i64 (topOf st (p, f, o))) w) := by
  by_cases hz : 0 < f
  · obtain ⟨k, rfl⟩ : ∃ k : Nat, f = (k : Int) + 1 := ⟨f.toNat - 1, by omega⟩
    have hk : k < st.length := by omega
    obtain ⟨ad, rfl, hb, hc⟩ := hI.step hk
    have hbd := hst k hk
    obtain ⟨x, hx⟩ : ∃ x, st[k] = x := ⟨_, rfl⟩
    rw [hx] at hc hbd
    have hc2 : ∀ o o' : Obj, ((w.alloc o).alloc o').cell? (ad.add k) = some (.int .i64 x) := fun o o' => by
      rw [World.cell?_alloc_lt _ _ _ (by rw [block_of_add]; simp; omega), World.cell?_alloc_lt _ _ _ (by rw [block_of_add]; omega), hc]
    clear hc
    have e : topOf st (p, (k : Int) + 1, o) = p + x + if o then 12 else 0 := by
      unfold topOf
      simp only [if_pos hz]
      have : ((k : Int) + 1).toNat - 1 = k := by omega
      rw [this, List.getD_eq_getElem?_getD, List.getElem?_eq_getElem hk, hx]; rfl
    rw [e]
    have hk2 : k < n2 := by omega
    clear e hx hst hI hn2 hf
    cases o
    all_goals
      go_enter Tryz.func173, Tryz.ntmps173
      go_wp2
      go_ret
      exact Ret.mk' (by simp) (by repeat (first | exact Below.refl _ _ | assumption | refine bel_drewN ?_ _ | refine Below.drew ?_ | refine bel_alloc ?_ _ | refine Below.setCell ?_ (by first | omega | (simp; done) | (simp; omega)) _ | refine bel_step ?_ (by assumption)))
  · obtain rfl : f = 0 := by omega
    have e : topOf st (p, 0, o) = p + if o then 12 else 0 := by unfold topOf; simp
    rw [e]
    clear e hst hI hn2 hf
    cases o
    all_goals
      go_enter Tryz.func173, Tryz.ntmps173
      go_wp2
      go_ret
      exact Ret.mk' (by simp) (by repeat (first | exact Below.refl _ _ | assumption | refine bel_drewN ?_ _ | refine Below.drew ?_ | refine bel_alloc ?_ _ | refine Below.setCell ?_ (by first | omega | (simp; done) | (simp; omega)) _ | refine bel_step ?_ (by assumption)))
theorem insE_many {cs : List (Int × Int × Bool)} {st : List Int} (h : 14 < cs.length ∨ 18 < st.length) : insE cs st = 2 := if_pos h
theorem insE_none {cs : List (Int × Int × Bool)} {st : List Int} (h : ¬ (14 < cs.length ∨ 18 < st.length)) (h1 : cs.length = 0) : insE cs st = 11 := by unfold insE; rw [if_neg h, if_pos h1]
theorem insE_steps {cs : List (Int × Int × Bool)} {st : List Int} (h : ¬ (14 < cs.length ∨ 18 < st.length)) (h1 : stepsBad 0 st = true) : insE cs st = 11 := by unfold insE; rw [if_neg h, h1]; simp
theorem insE_crs {cs : List (Int × Int × Bool)} {st : List Int} (h : ¬ (14 < cs.length ∨ 18 < st.length)) (h1 : ¬ cs.length = 0) (h2 : stepsBad 0 st = false) : insE cs st = crsE st cs := by unfold insE; rw [if_neg h, if_neg h1, h2]; simp
theorem insCheck (A1 A2 : Option Addr) (cs : List (Int × Int × Bool)) (st : List Int) (n1 n2 c1 c2 : Nat) (w : World) (hI : InsAt w w.heap.size A1 A2 cs st) (hn1 : n1 = cs.length) (hn2 : n2 = st.length) :
    Calls Tryz.prog 116 #[.agg #[.slice A1 n1 c1, .slice A2 n2 c2]] w (Ret (.int .i64 (insE cs st)) w) := by
  by_cases hm1 : 14 < n1
  · rw [insE_many (.inl (by omega))]
    clear hn1 hn2 hI
    go_enter Tryz.func116, Tryz.ntmps116
    go_wp2
    go_ret
    exact Ret.mk' rfl (by repeat (first | exact Below.refl _ _ | assumption | refine bel_drewN ?_ _ | refine Below.drew ?_ | refine bel_alloc ?_ _ | refine Below.setCell ?_ (by first | omega | (simp; done) | (simp; omega)) _ | refine bel_step ?_ (by assumption)))
  · by_cases hm2 : 18 < n2
    · rw [insE_many (.inr (by omega))]
      clear hn1 hn2 hI
      go_enter Tryz.func116, Tryz.ntmps116
      go_wp2
      go_ret
      exact Ret.mk' rfl (by repeat (first | exact Below.refl _ _ | assumption | refine bel_drewN ?_ _ | refine Below.drew ?_ | refine bel_alloc ?_ _ | refine Below.setCell ?_ (by first | omega | (simp; done) | (simp; omega)) _ | refine bel_step ?_ (by assumption)))
    · by_cases hz : n1 = 0
      · rw [insE_none (by omega) (by omega)]
        subst hz
        clear hn1 hn2 hI
        go_enter Tryz.func116, Tryz.ntmps116
        go_wp2
        go_ret
        exact Ret.mk' rfl (by repeat (first | exact Below.refl _ _ | assumption | refine bel_drewN ?_ _ | refine Below.drew ?_ | refine bel_alloc ?_ _ | refine Below.setCell ?_ (by first | omega | (simp; done) | (simp; omega)) _ | refine bel_step ?_ (by assumption)))
      · have hnz : 0 < n1 := by omega
        have HI := Lib.hid hI
        have HN1 := Lib.hid hn1
        have HN2 := Lib.hid hn2
        have HE1 := Lib.hid (fun h => insE_steps (cs := cs) (st := st) (by omega) h)
        have HE2 := Lib.hid (fun h => insE_crs (cs := cs) (st := st) (by omega) (by omega) h)
        have h18 : st.length ≤ 18 := by omega
        have hi1 : n2 ≤ 18 := by omega
        have hi2 : n1 ≤ 14 := by omega
        clear hI hn1 hn2 hz hm1 hm2
        go_enter Tryz.func116, Tryz.ntmps116
        go_wp2
        go_loop [3, 25] (fun last i => ∃ (k : Nat) (x : Int), k ≤ n2 ∧ i = .int .i64 k ∧ last = .int .i64 x ∧ stepsBad 0 st = stepsBad x (st.drop k)) (fun _ i => n2 - (intOf i).toNat)
        case atStart => exact ⟨0, 0, Nat.zero_le _, rfl, rfl, rfl⟩
        case round =>
          obtain ⟨k, x, hk, rfl, rfl, hs⟩ := hrel
          have HS := Lib.hid hs
          clear hs
          by_cases hlt : k < n2
          · have hk2 : k < st.length := by have := HN2.out; omega
            obtain ⟨ad, hA, hb, hc⟩ := HI.out.step hk2
            subst hA
            have hs2 := HS.out.trans (stepsBad_at hk2)
            obtain ⟨y, hy⟩ : ∃ y, st[k] = y := ⟨_, rfl⟩
            rw [hy] at hc hs2
            have hc2 : ∀ o : Obj, (w.alloc o).cell? (ad.add k) = some (.int .i64 y) := fun o => by
              rw [World.cell?_alloc_lt _ _ _ (by rw [block_of_add]; omega), hc]
            clear hc hy
            by_cases hb1 : y ≤ x
            · have HE := Lib.hid (HE1.out (hs2.trans (by simp [hb1])))
              clear hs2
              go_wp2
              go_ret
              exact Ret.mk' (by rw [HE.out]; rfl) (by repeat (first | exact Below.refl _ _ | assumption | refine bel_drewN ?_ _ | refine Below.drew ?_ | refine bel_alloc ?_ _ | refine Below.setCell ?_ (by first | omega | (simp; done) | (simp; omega)) _ | refine bel_step ?_ (by assumption)))
            · by_cases hb2 : 127 < y
              · have HE := Lib.hid (HE1.out (hs2.trans (by simp [hb2])))
                clear hs2
                go_wp2
                go_ret
                exact Ret.mk' (by rw [HE.out]; rfl) (by repeat (first | exact Below.refl _ _ | assumption | refine bel_drewN ?_ _ | refine Below.drew ?_ | refine bel_alloc ?_ _ | refine Below.setCell ?_ (by first | omega | (simp; done) | (simp; omega)) _ | refine bel_step ?_ (by assumption)))
              · have HS3 := Lib.hid (hs2.trans (show _ = stepsBad y (st.drop (k + 1)) by simp [hb1, hb2]))
                clear hs2
                go_wp2
                go_round
                case rel => exact ⟨k + 1, y, by omega, by go_num, rfl, HS3.out⟩
                case measure => simp [intOf]; omega
          · have hsF : stepsBad 0 st = false := by
              have h := HS.out
              rw [h, List.drop_eq_nil_of_le (by have := HN2.out; omega)]; rfl
            have HE := Lib.hid (HE2.out hsF)
            have HBD := Lib.hid (stepsBad_bd (by omega) hsF)
            clear hsF
            go_wp2
            go_loopw [41] (fun i wr => ∃ k : Nat, k ≤ n1 ∧ i = .int .i64 k ∧ crsE st cs = crsE st (cs.drop k) ∧ Below w.heap.size w wr ∧ Blk wr w.heap.size 26 #[.slice A1 n1 c1, .slice A2 n2 c2]) (fun i _ => n1 - (intOf i).toNat)
            case atStart => exact ⟨0, Nat.zero_le _, rfl, rfl, (by repeat (first | exact Below.refl _ _ | assumption | refine bel_drewN ?_ _ | refine Below.drew ?_ | refine bel_alloc ?_ _ | refine Below.setCell ?_ (by first | omega | (simp; done) | (simp; omega)) _ | refine bel_step ?_ (by assumption))), Blk.new _ _ _⟩
            case round =>
              obtain ⟨j, hj, rfl, hs, hbel, hblk⟩ := hrel
              have HC := Lib.hid hs
              have HB := Lib.hid hblk
              have hlt3 : w.heap.size < wr.heap.size := hblk.lt
              have q0 : wr.cell? ⟨w.heap.size, 0, none⟩ = some (.slice A1 n1 c1) := hblk.cell 0
              have q1 : wr.cell? ⟨w.heap.size, 1, none⟩ = some (.slice A2 n2 c2) := hblk.cell 1
              clear hs hblk
              by_cases hlt2 : j < n1
              · have hj2 : j < cs.length := by have := HN1.out; omega
                have HI2 := Lib.hid (HI.out.below hbel)
                obtain ⟨ad, hA, hb, hc0, hc1, hc2⟩ := HI2.out.crs hj2
                subst hA
                have hs2 := HC.out.trans (crsE_at hj2)
                obtain ⟨⟨p, f, o⟩, hx⟩ : ∃ x, cs[j] = x := ⟨_, rfl⟩
                rw [hx] at hc0 hc1 hc2 hs2
                simp only at hc0 hc1 hc2 hs2
                have HI3 := Lib.hid (fun o => HI2.out.alloc (hbel.size) o)
                have hbel4 : ∀ o : Obj, Below w.heap.size w (wr.alloc o) := fun o => hbel.alloc hbel.size o
                have HB4 := Lib.hid (fun o => HB.out.alloc o)
                have hn3 : (st.length : Int) = n2 := by have := HN2.out; omega
                by_cases b1 : f < 0
                · have HE3 := Lib.hid (HE.out.trans (hs2.trans (if_pos (.inl b1))))
                  clear hs2
                  go_wp2
                  go_ret
                  exact Ret.mk' (by rw [HE3.out]; rfl) (by repeat (first | exact Below.refl _ _ | assumption | refine bel_drewN ?_ _ | refine Below.drew ?_ | refine bel_alloc ?_ _ | refine Below.setCell ?_ (by first | omega | (simp; done) | (simp; omega)) _ | refine bel_step ?_ (by assumption)))
                · by_cases b2 : (n2 : Int) < f
                  · have HE3 := Lib.hid (HE.out.trans (hs2.trans (if_pos (.inr (by omega)))))
                    clear hs2 hn3
                    go_wp2
                    go_ret
                    exact Ret.mk' (by rw [HE3.out]; rfl) (by repeat (first | exact Below.refl _ _ | assumption | refine bel_drewN ?_ _ | refine Below.drew ?_ | refine bel_alloc ?_ _ | refine Below.setCell ?_ (by first | omega | (simp; done) | (simp; omega)) _ | refine bel_step ?_ (by assumption)))
                  · rw [if_neg (by omega)] at hs2
                    by_cases b3 : p < 0
                    · have HE3 := Lib.hid (HE.out.trans (hs2.trans (if_pos (.inl (.inl b3)))))
                      clear hs2 hn3
                      go_wp2
                      go_ret
                      exact Ret.mk' (by rw [HE3.out]; rfl) (by repeat (first | exact Below.refl _ _ | assumption | refine bel_drewN ?_ _ | refine Below.drew ?_ | refine bel_alloc ?_ _ | refine Below.setCell ?_ (by first | omega | (simp; done) | (simp; omega)) _ | refine bel_step ?_ (by assumption)))
                    · by_cases b4 : 127 < p
                      · have HE3 := Lib.hid (HE.out.trans (hs2.trans (if_pos (.inl (.inr b4)))))
                        clear hs2 hn3
                        go_wp2
                        go_ret
                        exact Ret.mk' (by rw [HE3.out]; rfl) (by repeat (first | exact Below.refl _ _ | assumption | refine bel_drewN ?_ _ | refine Below.drew ?_ | refine bel_alloc ?_ _ | refine Below.setCell ?_ (by first | omega | (simp; done) | (simp; omega)) _ | refine bel_step ?_ (by assumption)))
                      · have HT := fun (w' : World) (hI : InsAt w' w.heap.size (some ad) A2 cs st) (hB : w.heap.size ≤ w'.heap.size) => highest_any (some ad) A2 cs st n1 n2 c1 c2 w.heap.size p f o w' hI hB HN2.out (by omega) (by omega) h18 HBD.out
                        have hsz := hbel.size
                        by_cases b5 : 127 < topOf st (p, f, o)
                        · have HE3 := Lib.hid (HE.out.trans (hs2.trans (if_pos (.inr b5))))
                          clear hs2 hn3
                          generalize topOf st (p, f, o) = T at *
                          have HTT := Lib.hid HT
                          clear HT
                          go_wp2_with (go_at_call 173; refine (HTT.out _ (HI3.out _) (by simp; omega)).mono ?_; rintro e w2 ⟨rfl, hb2⟩)
                          go_ret
                          exact Ret.mk' (by rw [HE3.out]; rfl) (by repeat (first | exact Below.refl _ _ | assumption | refine bel_drewN ?_ _ | refine Below.drew ?_ | refine bel_alloc ?_ _ | refine Below.setCell ?_ (by first | omega | (simp; done) | (simp; omega)) _ | refine bel_step ?_ (by assumption)))
                        · rw [if_neg (by omega)] at hs2
                          have HS4 := Lib.hid hs2
                          clear hs2 hn3
                          generalize topOf st (p, f, o) = T at *
                          have HTT := Lib.hid HT
                          clear HT
                          go_wp2_with (go_at_call 173; refine (HTT.out _ (HI3.out _) (by simp; omega)).mono ?_; rintro e w2 ⟨rfl, hb2⟩; have K1 := Lib.hid ((HB4.out _).after hb2))
                          go_roundw
                          case rel => exact ⟨j + 1, by omega, by go_num, HS4.out, (by repeat (first | exact Below.refl _ _ | assumption | refine bel_drewN ?_ _ | refine Below.drew ?_ | refine bel_alloc ?_ _ | refine Below.setCell ?_ (by first | omega | (simp; done) | (simp; omega)) _ | refine bel_step ?_ (by assumption))), K1.out⟩
                          case measure => simp [intOf]; omega
              · have HE3 := Lib.hid (HE.out.trans (HC.out.trans (show crsE st (cs.drop j) = 0 from by rw [List.drop_eq_nil_of_le (by have := HN1.out; omega)]; rfl)))
                go_wp2
                go_ret
                exact Ret.mk' (by rw [HE3.out]; rfl) (by repeat (first | exact Below.refl _ _ | assumption | refine bel_drewN ?_ _ | refine Below.drew ?_ | refine bel_alloc ?_ _ | refine Below.setCell ?_ (by first | omega | (simp; done) | (simp; omega)) _ | refine bel_step ?_ (by assumption)))
end Go.Proofs.YtkgnmddakiagbaaGreatDoor
