/- A walk that knows values as trees: regions that draw their order and write, by computing; loops and meetings that keep what is not named. -/
import Derived.Test.YteldgllgagjciaaGreatApp2
import Derived.Lib.Hide
import Derived.Still
import Derived.Laws.OwnMore

/- A walk that knows values as trees and its own memory as a list of objects: what is known, and what it means. -/
namespace Go.Proofs.YteldgllgagjciaaGreat
open Go.RowKit
set_option linter.unusedVariables false
/-- What is known of a value: it is v; an aggregate; a tuple; a slice that reads as rows of n cells each and is never written again; a pointer to cells never written again; a pointer into row i, cell j of the own object k; the own slice k. -/
inductive AV where
  | sc (v : Value)
  | ag (l : List AV)
  | tu (l : List AV)
  | ls (n : Nat) (rows : List (List AV))
  | pr (cells : List AV)
  | pt (k i j : Nat)
  | sl (k : Nat)
/-- Cells that are never written again. -/
abbrev View := Addr → Option Value
inductive RP (F : View) : AV → Value → Prop
  | sc (v : Value) : RP F (.sc v) v
  | ag (l : List AV) (cs : Array Value) : cs.size = l.length → (∀ (i : Nat) av u, l[i]? = some av → cs[i]? = some u → RP F av u) → RP F (.ag l) (.agg cs)
  | tu (l : List AV) (cs : Array Value) : cs.size = l.length → (∀ (i : Nat) av u, l[i]? = some av → cs[i]? = some u → RP F av u) → RP F (.tu l) (.tuple cs)
  | ls (n : Nat) (rows : List (List AV)) (A : Option Addr) (cap : Nat) (ad : Addr) (u : Nat → Nat → Value) : rows.length ≤ cap → (∀ r ∈ rows, r.length = n) → (0 < rows.length → A = some ad) →
      (∀ (i : Nat) r (j : Nat) av, rows[i]? = some r → r[j]? = some av → F (ad.add (i * n + j)) = some (u i j) ∧ (u i j).oneCell' = true) →
      (∀ (i : Nat) r (j : Nat) av, rows[i]? = some r → r[j]? = some av → RP F av (u i j)) → RP F (.ls n rows) (.slice A rows.length cap)
  | pr (cells : List AV) (p : Addr) (u : Nat → Value) : (∀ (j : Nat) av, cells[j]? = some av → F (p.add j) = some (u j) ∧ (u j).oneCell' = true) →
      (∀ (j : Nat) av, cells[j]? = some av → RP F av (u j)) → RP F (.pr cells) (.pointer (some p))
def View.le (F F' : View) : Prop := ∀ p u, F p = some u → F' p = some u
theorem RP.mono {F F' : View} (h : F.le F') {av : AV} {v : Value} (r : RP F av v) : RP F' av v := by
  induction r with
  | sc v => exact .sc v
  | ag l cs h1 _ ih => exact .ag l cs h1 ih
  | tu l cs h1 _ ih => exact .tu l cs h1 ih
  | ls n rows A cap ad u h0 h1 h2 h3 _ ih => exact .ls n rows A cap ad u h0 h1 h2 (fun i r j av a b => ⟨h _ _ (h3 i r j av a b).1, (h3 i r j av a b).2⟩) ih
  | pr cells p u h1 _ ih => exact .pr cells p u (fun j av a => ⟨h _ _ (h1 j av a).1, (h1 j av a).2⟩) ih
/-- What stands for the own objects: the block, the cells a row, the slice itself. -/
structure Gh where
  F : View
  b : Nat → Nat
  n : Nat → Nat
  h : Nat → Value
inductive R (G : Gh) : AV → Value → Prop
  | pu (av : AV) (v : Value) : RP G.F av v → R G av v
  | pt (k i j : Nat) (p : Addr) : p.block = G.b k → p.off = i * G.n k + j → p.spot = none → R G (.pt k i j) (.pointer (some p))
  | sl (k : Nat) : (G.h k).oneCell' = true → R G (.sl k) (G.h k)
  | ag (l : List AV) (cs : Array Value) : cs.size = l.length → (∀ (i : Nat) av u, l[i]? = some av → cs[i]? = some u → R G av u) → R G (.ag l) (.agg cs)
  | tu (l : List AV) (cs : Array Value) : cs.size = l.length → (∀ (i : Nat) av u, l[i]? = some av → cs[i]? = some u → R G av u) → R G (.tu l) (.tuple cs)
/-- It speaks of no object from nk on. -/
inductive Bd (nk : Nat) : AV → Prop
  | sc (v : Value) : Bd nk (.sc v)
  | ls (n : Nat) (rows : List (List AV)) : Bd nk (.ls n rows)
  | pr (cells : List AV) : Bd nk (.pr cells)
  | pt (k i j : Nat) : k < nk → Bd nk (.pt k i j)
  | sl (k : Nat) : k < nk → Bd nk (.sl k)
  | ag (l : List AV) : (∀ (i : Nat) x, l[i]? = some x → Bd nk x) → Bd nk (.ag l)
  | tu (l : List AV) : (∀ (i : Nat) x, l[i]? = some x → Bd nk x) → Bd nk (.tu l)
theorem Bd.mono {nk nk' : Nat} (h : nk ≤ nk') {av : AV} (b : Bd nk av) : Bd nk' av := by
  induction b with
  | sc v => exact .sc v
  | ls n rows => exact .ls n rows
  | pr cells => exact .pr cells
  | pt k i j hk => exact .pt k i j (by omega)
  | sl k hk => exact .sl k (by omega)
  | ag l _ ih => exact .ag l ih
  | tu l _ ih => exact .tu l ih
/-- The objects below nk stand as they did. -/
structure Gh.le (G G' : Gh) (nk : Nat) : Prop where
  F : G.F.le G'.F
  b : ∀ k, k < nk → G'.b k = G.b k
  n : ∀ k, k < nk → G'.n k = G.n k
  h : ∀ k, k < nk → G'.h k = G.h k
theorem Gh.le.refl (G : Gh) (nk : Nat) : G.le G nk := ⟨fun _ _ h => h, fun _ _ => rfl, fun _ _ => rfl, fun _ _ => rfl⟩
theorem R.mono {G G' : Gh} {nk : Nat} (h : G.le G' nk) {av : AV} {v : Value} (r : R G av v) (b : Bd nk av) : R G' av v := by
  induction r with
  | pu av v hp => exact .pu _ _ (hp.mono h.F)
  | pt k i j p h1 h2 h3 =>
    cases b with
    | pt _ _ _ hk => exact .pt k i j p (by rw [h.b k hk]; exact h1) (by rw [h.n k hk]; exact h2) h3
  | sl k h1 =>
    cases b with
    | sl _ hk => rw [← h.h k hk]; exact .sl k (by rw [h.h k hk]; exact h1)
  | ag l cs h1 _ ih =>
    cases b with
    | ag _ hb => exact .ag l cs h1 fun i av u a c => ih i av u a c (hb i av a)
  | tu l cs h1 _ ih =>
    cases b with
    | tu _ hb => exact .tu l cs h1 fun i av u a c => ih i av u a c (hb i av a)
theorem RP.sc_eq {F : View} {v u : Value} (r : RP F (.sc v) u) : u = v := by cases r; rfl
theorem R.sc_eq {G : Gh} {v u : Value} (r : R G (.sc v) u) : u = v := by cases r with | pu _ _ h => exact h.sc_eq
theorem R.pu_of {G : Gh} {n : Nat} {rows : List (List AV)} {u : Value} (r : R G (.ls n rows) u) : RP G.F (.ls n rows) u := by cases r with | pu _ _ h => exact h
theorem R.pr_of {G : Gh} {cells : List AV} {u : Value} (r : R G (.pr cells) u) : RP G.F (.pr cells) u := by cases r with | pu _ _ h => exact h
theorem R.ag_of {G : Gh} {l : List AV} {u : Value} (r : R G (.ag l) u) : ∃ cs : Array Value, u = .agg cs ∧ cs.size = l.length ∧ ∀ (i : Nat) av u, l[i]? = some av → cs[i]? = some u → R G av u := by
  cases r with
  | pu _ _ h => cases h with | ag _ cs h1 h2 => exact ⟨cs, rfl, h1, fun i av u a b => .pu _ _ (h2 i av u a b)⟩
  | ag _ cs h1 h2 => exact ⟨cs, rfl, h1, h2⟩
theorem R.tu_of {G : Gh} {l : List AV} {u : Value} (r : R G (.tu l) u) : ∃ cs : Array Value, u = .tuple cs ∧ cs.size = l.length ∧ ∀ (i : Nat) av u, l[i]? = some av → cs[i]? = some u → R G av u := by
  cases r with
  | pu _ _ h => cases h with | tu _ cs h1 h2 => exact ⟨cs, rfl, h1, fun i av u a b => .pu _ _ (h2 i av u a b)⟩
  | tu _ cs h1 h2 => exact ⟨cs, rfl, h1, h2⟩
theorem R.pt_of {G : Gh} {k i j : Nat} {u : Value} (r : R G (.pt k i j) u) : ∃ p : Addr, u = .pointer (some p) ∧ p.block = G.b k ∧ p.off = i * G.n k + j ∧ p.spot = none := by
  cases r with
  | pu _ _ h => cases h
  | pt _ _ _ p a b c => exact ⟨p, rfl, a, b, c⟩
theorem R.sl_of {G : Gh} {k : Nat} {u : Value} (r : R G (.sl k) u) : u = G.h k ∧ u.oneCell' = true := by
  cases r with
  | pu _ _ h => cases h
  | sl _ h => exact ⟨rfl, h⟩
theorem RP.ls_of {F : View} {n : Nat} {rows : List (List AV)} {v : Value} (r : RP F (.ls n rows) v) : ∃ A cap ad, ∃ u : Nat → Nat → Value, v = .slice A rows.length cap ∧ (∀ r ∈ rows, r.length = n) ∧ (0 < rows.length → A = some ad) ∧
    (∀ (i : Nat) r (j : Nat) av, rows[i]? = some r → r[j]? = some av → F (ad.add (i * n + j)) = some (u i j) ∧ (u i j).oneCell' = true) ∧ (∀ (i : Nat) r (j : Nat) av, rows[i]? = some r → r[j]? = some av → RP F av (u i j)) ∧ rows.length ≤ cap := by
  cases r with | ls _ _ A cap ad u h0 h1 h2 h3 h4 => exact ⟨A, cap, ad, u, rfl, h1, h2, h3, h4, h0⟩
theorem RP.pr_of {F : View} {cells : List AV} {v : Value} (r : RP F (.pr cells) v) : ∃ p : Addr, ∃ u : Nat → Value, v = .pointer (some p) ∧ (∀ (j : Nat) av, cells[j]? = some av → F (p.add j) = some (u j) ∧ (u j).oneCell' = true) ∧
      (∀ (j : Nat) av, cells[j]? = some av → RP F av (u j)) := by
  cases r with | pr _ p u h1 h2 => exact ⟨p, u, rfl, h1, h2⟩
/-- An own object: a block of cells; a slice of rows. -/
inductive AO where
  | box (T : TypeId) (cells : List AV)
  | row (T : TypeId) (n : Nat) (rows : List (List AV))
def RL (F : View) (l : List AV) (vs : List Value) : Prop := vs.length = l.length ∧ ∀ (i : Nat) av u, l[i]? = some av → vs[i]? = some u → RP F av u
theorem RL.mono {F F' : View} (h : F.le F') {l : List AV} {vs : List Value} (r : RL F l vs) : RL F' l vs := ⟨r.1, fun i av u a b => (r.2 i av u a b).mono h⟩
def ObAt (B : Nat) (G : Gh) (w : World) (k : Nat) : AO → Prop
  | .box T cells => B ≤ G.b k ∧ ∃ cs : Array Value, Blk w (G.b k) T cs ∧ cs.size = cells.length ∧ ∀ (i : Nat) av u, cells[i]? = some av → cs[i]? = some u → R G av u
  | .row T n rows => G.n k = n ∧ (∀ r ∈ rows, r.length = n) ∧ (∀ g, (G.h k).ownBlock = some g → g = G.b k) ∧
      ∃ vs : List (List Value), w.ownsRow B T n (G.h k) vs.length vs.flatten ∧ vs.length = rows.length ∧ (∀ r ∈ vs, ∀ u ∈ r, u.oneCell' = true) ∧ ∀ (i : Nat) r r', rows[i]? = some r → vs[i]? = some r' → RL G.F r r'
def AO.own (G : Gh) (k : Nat) : AO → Option Nat
  | .box _ _ => some (G.b k)
  | .row _ _ _ => (G.h k).ownBlock
def AO.bd (nk : Nat) : AO → Prop
  | .box _ cells => ∀ (i : Nat) av, cells[i]? = some av → Bd nk av
  | .row _ _ _ => True
def look {α : Type} (i : Nat) : List (Nat × α) → Option α
  | [] => none
  | x :: r => bif Nat.beq i x.1 then some x.2 else look i r
structure Cx where
  w0 : World
  F0 : View
  N : Nat
structure St where
  t : List (Nat × AV)
  M : List (Nat × AO)
  nk : Nat
structure Ok (C : Cx) (σ : St) (G : Gh) (a : Act) (w : World) : Prop where
  sz : a.tmps.size = C.N
  df : a.defers = []
  tm : ∀ i av, look i σ.t = some av → i < C.N ∧ Bd σ.nk av ∧ R G av (a.tmps.getD i undef)
  bel : Below C.w0.heap.size C.w0 w
  fw : ∀ p u, G.F p = some u → w.cell? p = some u
  f0 : C.F0.le G.F
  f1 : ∀ p u, G.F p = some u → C.F0 p = some u ∨ C.w0.heap.size ≤ p.block
  ob : ∀ k o, look k σ.M = some o → k < σ.nk ∧ o.bd σ.nk ∧ ObAt C.w0.heap.size G w k o
  dj : ∀ k o k' o' x, look k σ.M = some o → look k' σ.M = some o' → o.own G k = some x → o'.own G k' = some x → k = k'
  dF : ∀ k o x p u, look k σ.M = some o → o.own G k = some x → G.F p = some u → p.block ≠ x
theorem cell_block {w : World} {p : Addr} {u : Value} (h : w.cell? p = some u) : p.block < w.heap.size := by
  rcases Nat.lt_or_ge p.block w.heap.size with hlt | hge
  · exact hlt
  · simp [World.cell?, Array.getElem?_eq_none hge] at h
theorem look_set_same {α : Type} {i : Nat} {x : α} {r : List (Nat × α)} : look i ((i, x) :: r) = some x := by
  simp [look]
theorem look_set_other {α : Type} {i j : Nat} {x : α} {r : List (Nat × α)} (h : i ≠ j) : look i ((j, x) :: r) = look i r := by
  have : Nat.beq i j = false := by cases hb : Nat.beq i j with
    | false => rfl
    | true => exact absurd (Nat.eq_of_beq_eq_true hb) h
  simp [look, this]
end Go.Proofs.YteldgllgagjciaaGreat

/- A walk that knows values as trees: states, codes, contracts. -/
namespace Go.Proofs.YteldgllgagjciaaGreat
open Go.RowKit
set_option linter.unusedVariables false
def St.ev (σ : St) : Operand → Option AV
  | .tmp t => look t σ.t
  | .const v => some (.sc v)
  | .func f => some (.sc (.func (.func f) #[] #[]))
  | .global g => some (.sc (.pointer (some ⟨g, 0, none⟩)))
def St.set (σ : St) (d : Option Tmp) (av : AV) : St :=
  match d with
  | none => σ
  | some d => { σ with t := (d, av) :: σ.t }
def St.put (σ : St) (d : Tmp) (av : AV) : St := { σ with t := (d, av) :: σ.t }
section
variable {P : Program} {C : Cx} {σ σ' : St} {G G' : Gh} {a : Act} {w w' : World}
theorem Ok.evr (h : Ok C σ G a w) {x : Operand} {av : AV} (hx : σ.ev x = some av) : Bd σ.nk av ∧ R G av (a.eval x) := by
  cases x with
  | tmp t => exact ⟨(h.tm t av hx).2.1, (h.tm t av hx).2.2⟩
  | const v => cases hx; exact ⟨.sc _, .pu _ _ (.sc _)⟩
  | func f => cases hx; exact ⟨.sc _, .pu _ _ (.sc _)⟩
  | global g => cases hx; exact ⟨.sc _, .pu _ _ (.sc _)⟩
theorem Ok.evs (h : Ok C σ G a w) {x : Operand} {v : Value} (hx : σ.ev x = some (.sc v)) : a.eval x = v := (h.evr hx).2.sc_eq
theorem getD_set_ (ts : Array Value) (d i : Nat) (v : Value) (hd : d < ts.size) : (ts.setIfInBounds d v).getD i undef = if d = i then v else ts.getD i undef := by
  by_cases e : d = i
  · subst e; simp [Array.getD, hd]
  · simp only [if_neg e, Array.getD_eq_getD_getElem?, Array.getElem?_setIfInBounds_ne e]
theorem Ok.set (h : Ok C σ G a w) {d : Option Tmp} {av : AV} {v : Value} (hR : R G av v) (hb : Bd σ.nk av) (hd : ∀ x, d = some x → x < C.N) : Ok C (σ.set d av) G (a.put d v) w := by
  cases d with
  | none => exact h
  | some d =>
    have hd := hd d rfl
    refine ⟨?_, h.df, ?_, h.bel, h.fw, h.f0, h.f1, h.ob, h.dj, h.dF⟩
    · show (a.tmps.setIfInBounds d v).size = C.N
      rw [Array.size_setIfInBounds]; exact h.sz
    · intro i x hx
      show i < C.N ∧ Bd σ.nk x ∧ R G x ((a.tmps.setIfInBounds d v).getD i undef)
      rw [getD_set_ _ _ _ _ (by rw [h.sz]; exact hd)]
      by_cases e : d = i
      · subst e
        rw [show look d (St.set σ (some d) av).t = some av from look_set_same] at hx
        cases hx
        rw [if_pos rfl]
        exact ⟨hd, hb, hR⟩
      · rw [show look i (St.set σ (some d) av).t = look i σ.t from look_set_other (fun x => e x.symm)] at hx
        rw [if_neg e]
        exact h.tm i x hx
theorem own_lt' {B : Nat} {k : Nat} {o : AO} {x : Nat} (h : ObAt B G w k o) (hx : o.own G k = some x) : B ≤ x ∧ x < w.heap.size := by
  cases o with
  | box T cells =>
    obtain ⟨h1, cs, h2, _⟩ := h
    cases hx
    exact ⟨h1, h2.lt⟩
  | row T n rows =>
    obtain ⟨_, _, _, vs, h2, _⟩ := h
    rcases h2.2 with ⟨e, _⟩ | ⟨g, cap, cur, e, hb, hh, _⟩
    · simp only [AO.own, e, Value.ownBlock] at hx; cases hx
    · simp only [AO.own, e, Value.ownBlock] at hx
      cases hx
      refine ⟨hb, ?_⟩
      rcases Nat.lt_or_ge x w.heap.size with hlt | hge
      · exact hlt
      · rw [Array.getElem?_eq_none hge] at hh; cases hh
theorem own_le (hle : G.le G' σ.nk) {k : Nat} (hk : k < σ.nk) (o : AO) : o.own G' k = o.own G k := by
  cases o with
  | box T cells => simp only [AO.own, hle.b k hk]
  | row T n rows => simp only [AO.own, hle.h k hk]
/-- An object that has not been written stands as it stood. -/
theorem ObAt.keep {B nk k : Nat} {o : AO} (h : ObAt B G w k o) (hle : G.le G' nk) (hk : k < nk) (hb : o.bd nk) (hw : ∀ x, o.own G k = some x → w'.heap[x]? = w.heap[x]?) : ObAt B G' w' k o := by
  cases o with
  | box T cells =>
    obtain ⟨h1, cs, h2, h3, h4⟩ := h
    refine ⟨by rw [hle.b k hk]; exact h1, cs, ?_, h3, fun i av u x y => (h4 i av u x y).mono hle (hb i av x)⟩
    rw [hle.b k hk]
    exact (hw _ rfl).trans h2
  | row T n rows =>
    obtain ⟨h1, h2, h3, vs, h4, h5, h7, h6⟩ := h
    refine ⟨by rw [hle.n k hk]; exact h1, h2, by rw [hle.h k hk, hle.b k hk]; exact h3, vs, ?_, h5, h7, fun i r r' x y => (h6 i r r' x y).mono hle.F⟩
    rw [hle.h k hk]
    refine ⟨h4.1, ?_⟩
    rcases h4.2 with ⟨e, e2⟩ | ⟨g, cap, cur, e, hb, hh, hr⟩
    · exact .inl ⟨e, e2⟩
    · exact .inr ⟨g, cap, cur, e, hb, (hw g (by simp [AO.own, e, Value.ownBlock])).trans hh, hr⟩
/-- The world has moved on, no own object has been written. -/
theorem Ok.world (h : Ok C σ G a w) (hle : G.le G' σ.nk) (hb : Below C.w0.heap.size w w') (hw : ∀ k o x, look k σ.M = some o → o.own G k = some x → w'.heap[x]? = w.heap[x]?)
    (hfw : ∀ p u, G'.F p = some u → w'.cell? p = some u) (hn : ∀ p u, G'.F p = some u → G.F p = some u ∨ w.heap.size ≤ p.block) : Ok C σ G' a w' := by
  refine ⟨h.sz, h.df, fun i av x => ⟨(h.tm i av x).1, (h.tm i av x).2.1, (h.tm i av x).2.2.mono hle (h.tm i av x).2.1⟩, h.bel.trans hb, hfw, fun p u x => hle.F _ _ (h.f0 p u x), ?_, ?_, ?_, ?_⟩
  · intro p u x
    rcases hn p u x with y | y
    · exact h.f1 p u y
    · exact .inr (Nat.le_trans h.bel.size y)
  · intro k o x
    obtain ⟨a1, a2, a3⟩ := h.ob k o x
    exact ⟨a1, a2, a3.keep hle a1 a2 (fun y hy => hw k o y x hy)⟩
  · intro k o k' o' x h1 h2 h3 h4
    rw [own_le hle (h.ob k o h1).1] at h3
    rw [own_le hle (h.ob k' o' h2).1] at h4
    exact h.dj k o k' o' x h1 h2 h3 h4
  · intro k o x p u h1 h2 h3
    rw [own_le hle (h.ob k o h1).1] at h2
    rcases hn p u h3 with y | y
    · exact h.dF k o x p u h1 h2 y
    · have := (own_lt' (h.ob k o h1).2.2 h2).2
      omega
/-- Draws. -/
theorem Ok.drew (h : Ok C σ G a w) : Ok C σ G a w.drew :=
  h.world (Gh.le.refl _ _) (Below.refl _ _).drew (fun _ _ _ _ _ => rfl) h.fw (fun _ _ x => .inl x)
end
/-- From the one state what is known in the other follows. -/
def Tr (C : Cx) (σ σ' : St) : Prop := ∀ G a w, Ok C σ G a w → ∃ G', Ok C σ' G' a w
theorem Tr.refl (C : Cx) (σ : St) : Tr C σ σ := fun G a w h => ⟨G, h⟩
theorem Tr.trans {C : Cx} {σ σ' σ'' : St} (h : Tr C σ σ') (k : Tr C σ' σ'') : Tr C σ σ'' := fun G a w x => by
  obtain ⟨G', y⟩ := h G a w x
  exact k G' a w y
def Post (C : Cx) (Q : Exit → St → Prop) : Exit → Act → World → Prop := fun e a w => ∃ σ G, Q e σ ∧ Ok C σ G a w
def W (P : Program) (C : Cx) (c : Code) (σ : St) (Q : Exit → St → Prop) : Prop := ∀ G a w, Ok C σ G a w → c.wp P (Post C Q) a w
def WL (P : Program) (C : Cx) (ops : Array Oper) (l : List Oper) (σ : St) (Q : Exit → St → Prop) : Prop := ∀ G a w, Ok C σ G a w → wpList P ops (Post C Q) l a w
/-- One operation. -/
def WO (P : Program) (C : Cx) (o : Oper) (σ σ' : St) : Prop :=
  ∀ G a w, Ok C σ G a w → ∀ (N : Act → World → Prop) (Q' : Exit → Act → World → Prop), (∀ G' a' w', Ok C σ' G' a' w' → N a' w') → o.wp P a w N Q'
section
variable {P : Program} {C : Cx} {σ σ' : St} {Q Q' : Exit → St → Prop}
theorem W.tr {c : Code} (h : Tr C σ σ') (k : W P C c σ' Q) : W P C c σ Q := fun G a w x => by
  obtain ⟨G', y⟩ := h G a w x
  exact k G' a w y
theorem WL.tr {ops : Array Oper} {l : List Oper} (h : Tr C σ σ') (k : WL P C ops l σ' Q) : WL P C ops l σ Q := fun G a w x => by
  obtain ⟨G', y⟩ := h G a w x
  exact k G' a w y
theorem W.mono {c : Code} (h : W P C c σ Q) (hq : ∀ e s, Q e s → Q' e s) : W P C c σ Q' := fun G a w x =>
  wp_mono (h G a w x) fun e a w ⟨s, g, q, o⟩ => ⟨s, g, hq e s q, o⟩
theorem W.skip (h : Q .normal σ) : W P C .skip σ Q := fun G a w x => wp_skip ⟨σ, G, h, x⟩
theorem W.exit {id : Nat} (h : Q (.exit id) σ) : W P C (.exit id) σ Q := fun G a w x => wp_exit ⟨σ, G, h, x⟩
theorem W.ret (h : Q .ret σ) : W P C .ret σ Q := fun G a w x => wp_ret ⟨σ, G, h, x⟩
def QThen (N : St → Prop) (Q : Exit → St → Prop) : Exit → St → Prop
  | .normal, s => N s
  | e, s => Q e s
def QBlock (id : Nat) (Q : Exit → St → Prop) : Exit → St → Prop
  | .exit id', s => if id' = id then Q .normal s else Q (.exit id') s
  | e, s => Q e s
theorem W.seq {x y : Code} (h : W P C x σ (QThen (fun s => W P C y s Q) Q)) : W P C (.seq x y) σ Q := fun G a w ok =>
  wp_seq (wp_mono (h G a w ok) fun e a w ⟨s, g, q, o⟩ => by
    cases e with
    | normal => exact q g a w o
    | exit id => exact ⟨s, g, q, o⟩
    | goto l => exact ⟨s, g, q, o⟩
    | ret => exact ⟨s, g, q, o⟩
    | panic c => exact ⟨s, g, q, o⟩
    | outgrown => exact ⟨s, g, q, o⟩)
/-- The ways meet in one state. -/
theorem W.seqM {x y : Code} (σm : St) (h : W P C x σ (QThen (fun s => Tr C s σm) Q)) (k : W P C y σm Q) : W P C (.seq x y) σ Q :=
  W.seq (W.mono h fun e s q => by
    cases e with
    | normal => exact W.tr q k
    | _ => exact q)
theorem W.block {id : Nat} {c : Code} (h : W P C c σ (QBlock id Q)) : W P C (.block id c) σ Q := fun G a w ok =>
  wp_block (wp_mono (h G a w ok) fun e a w ⟨s, g, q, o⟩ => by
    cases e with
    | exit id' =>
      show if id' = id then _ else _
      by_cases e : id' = id
      · rw [if_pos e]; exact ⟨s, g, by simpa [QBlock, e] using q, o⟩
      · rw [if_neg e]; exact ⟨s, g, by simpa [QBlock, e] using q, o⟩
    | normal => exact ⟨s, g, q, o⟩
    | goto l => exact ⟨s, g, q, o⟩
    | ret => exact ⟨s, g, q, o⟩
    | panic c => exact ⟨s, g, q, o⟩
    | outgrown => exact ⟨s, g, q, o⟩)
theorem W.cond {c : Operand} {x y : Code} {t : Bool} (hc : σ.ev c = some (.sc (.bool t))) (h1 : t = true → W P C x σ Q) (h2 : t = false → W P C y σ Q) : W P C (.cond c x y) σ Q := fun G a w ok => by
  refine wp_cond (ok.evs hc) ?_
  cases t
  · exact h2 rfl G a w ok
  · exact h1 rfl G a w ok
theorem W.loop {c : Code} {X : Type} (I : X → Prop) (S : X → St) (μ : X → Nat) (x0 : X) (h0 : I x0) (hi : Tr C σ (S x0))
    (round : ∀ x, I x → W P C c (S x) (QThen (fun s => ∃ x', I x' ∧ μ x' < μ x ∧ Tr C s (S x')) Q)) : W P C (.loop c) σ Q := by
  intro G a w ok b k cs
  have key : ∀ n x G a w, μ x = n → I x → Ok C (S x) G a w → ∃ e a' w', Post C Q e a' w' ∧ Arrives P (lone (b.at a (.code c :: .inLoop c :: k)) cs w) b k cs e a' w' := by
    intro n
    induction n using Nat.strongRecOn with
    | _ n ih =>
      intro x G a w hn hI ok
      obtain ⟨e, a1, w1, ⟨s, g, hq, o1⟩, harr⟩ := round x hI G a w ok b (.inLoop c :: k) cs
      cases e with
      | normal =>
        obtain ⟨x', hI', hlt, ht⟩ := hq
        obtain ⟨g', o2⟩ := ht g a1 w1 o1
        obtain ⟨e2, a2, w2, hq2, harr2⟩ := ih (μ x') (hn ▸ hlt) x' g' a1 w1 rfl hI' o2
        exact ⟨e2, a2, w2, hq2, .of_steps (Steps.trans harr (.one step_inLoop)) harr2⟩
      | exit id => exact ⟨_, a1, w1, ⟨s, g, hq, o1⟩, .pass (x := .inLoop c) rfl (fun _ _ => .inl (by simp)) harr⟩
      | goto l => exact ⟨_, a1, w1, ⟨s, g, hq, o1⟩, .pass (x := .inLoop c) rfl (fun _ _ => .inl (by simp)) harr⟩
      | ret => exact ⟨_, a1, w1, ⟨s, g, hq, o1⟩, .pass (x := .inLoop c) rfl (fun _ _ => .inl (by simp)) harr⟩
      | panic ch => exact ⟨_, a1, w1, ⟨s, g, hq, o1⟩, .pass (x := .inLoop c) rfl (fun _ _ => .inl (by simp)) harr⟩
      | outgrown => exact ⟨_, a1, w1, ⟨s, g, hq, o1⟩, .pass (x := .inLoop c) rfl (fun _ _ => .inl (by simp)) harr⟩
  obtain ⟨g0, ok0⟩ := hi G a w ok
  obtain ⟨e, a', w', hq, harr⟩ := key _ x0 g0 a w rfl h0 ok0
  exact ⟨e, a', w', hq, .of_steps (.one step_loop) harr⟩
theorem W.region {id : Nat} {l : List Oper} (h : WL P C l.toArray l σ Q) : W P C (.region id l.toArray false) σ Q := fun G a w ok => wp_region_lit (h G a w ok)
theorem WL.nil {ops : Array Oper} (h : Q .normal σ) : WL P C ops [] σ Q := fun G a w ok => wpList_nil ⟨σ, G, h, ok⟩
/-- An operation without a guard. -/
theorem WL.op {ops : Array Oper} {o : Oper} {rest : List Oper} (hg : o.guard = none) (h : WO P C o σ σ') (k : WL P C ops rest σ' Q) : WL P C ops (o :: rest) σ Q := fun G a w ok =>
  wpList_plain hg fun K hK => h G a w ok K _ fun G' a' w' ok' => hK _ _ (k G' a' w' ok')
theorem of_blt {a b : Nat} (h : Nat.blt a b = true) : a < b := Nat.lt_of_succ_le (by simpa [Nat.blt] using h)
def vb : Value → Option Bool
  | .bool b => some b
  | _ => none
theorem yielded_of {ops : Array Oper} {G : Gh} {a : Act} {w : World} (ok : Ok C σ G a w) {j : Nat} {oj : Oper} {d : Tmp} {v : Value} (hj : ops[j]? = some oj) (hd : oj.dst = some d) (hv : look d σ.t = some (.sc v)) :
    yielded ops a.tmps j = vb v := by
  have h1 := ok.tm d _ hv
  have h2 := h1.2.2.sc_eq
  have h3 : a.tmps[d]? = some v := by
    have hlt : d < a.tmps.size := by rw [ok.sz]; exact h1.1
    rw [Array.getElem?_eq_getElem hlt]
    simpa [Array.getD, hlt] using h2
  simp only [yielded, hj, Option.bind_some, hd, h3]
  cases v <;> rfl
/-- One with a guard, which is kept. -/
theorem WL.opg {ops : Array Oper} {o oj : Oper} {rest : List Oper} {j : Nat} {b : Bool} {d : Tmp} (hg : o.guard = some (j, b)) (hj : ops[j]? = some oj) (hd : oj.dst = some d) (hv : look d σ.t = some (.sc (.bool b)))
    (h : WO P C o σ σ') (k : WL P C ops rest σ' Q) : WL P C ops (o :: rest) σ Q := fun G a w ok =>
  wpList_step fun K hK => by
    have hy := yielded_of (ops := ops) ok hj hd hv
    rw [if_pos (by simp [Region.wanted, hg, hy, vb])]
    exact h G a w ok K _ fun G' a' w' ok' => hK _ _ (k G' a' w' ok')
/-- One with a guard, which leaves it out. -/
theorem WL.opn {ops : Array Oper} {o oj : Oper} {rest : List Oper} {j : Nat} {b : Bool} {d d' : Tmp} {v : Value} (hg : o.guard = some (j, b)) (hj : ops[j]? = some oj) (hd : oj.dst = some d) (hv : look d σ.t = some (.sc v))
    (hb : vb v ≠ some b) (hds : o.dst = some d') (hdn : Nat.blt d' C.N = true) (h : WL P C ops rest (σ.put d' (.sc undef)) Q) : WL P C ops (o :: rest) σ Q := fun G a w ok =>
  wpList_step fun K hK => by
    have hy := yielded_of (ops := ops) ok hj hd hv
    rw [if_neg (by simp only [Region.wanted, hg, hy]; simpa using hb)]
    rw [hds]
    exact hK _ _ (h G _ w (ok.set (d := some d') (.pu _ _ (.sc _)) (.sc _) fun x hx => by cases hx; exact of_blt hdn))
/-- A Bool in a slot is parted. -/
theorem WL.part {ops : Array Oper} {l : List Oper} {d : Tmp} {b : Bool} (hv : look d σ.t = some (.sc (.bool b))) (h1 : b = true → WL P C ops l (σ.set (some d) (.sc (.bool true))) Q) (h2 : b = false → WL P C ops l (σ.set (some d) (.sc (.bool false))) Q) : WL P C ops l σ Q := fun G a w ok => by
  have key : ∀ c, b = c → Ok C (σ.set (some d) (.sc (.bool c))) G a w := fun c e => by
    subst e
    refine ⟨ok.sz, ok.df, fun i x hx => ?_, ok.bel, ok.fw, ok.f0, ok.f1, ok.ob, ok.dj, ok.dF⟩
    by_cases hi : i = d
    · subst hi
      rw [show look i (St.set σ (some i) (.sc (.bool b))).t = _ from look_set_same] at hx
      cases hx
      exact ok.tm i _ hv
    · rw [show look i (St.set σ (some d) (.sc (.bool b))).t = _ from look_set_other hi] at hx
      exact ok.tm i x hx
  cases b
  · exact h2 rfl G a w (key _ rfl)
  · exact h1 rfl G a w (key _ rfl)
end
/-- A contract: what is known of the arguments; what is known of the result. What was there is not written. -/
def Ctr (P : Program) (f : FuncId) (args : List AV) (res : AV) : Prop :=
  ∀ (w : World) (F : View) (vs : List Value), (∀ p u, F p = some u → w.cell? p = some u) → RL F args vs →
    Calls P f vs.toArray w fun e w' => ∃ v F', e = .returned v ∧ Below w.heap.size w w' ∧ View.le F F' ∧ (∀ p u, F' p = some u → w'.cell? p = some u) ∧ (∀ p u, F' p = some u → F p = some u ∨ w.heap.size ≤ p.block) ∧ RP F' res v
def number {α : Type} : Nat → List α → List (Nat × α)
  | _, [] => []
  | n, x :: r => (n, x) :: number (n + 1) r
theorem look_number {α : Type} : ∀ (l : List α) (n i : Nat) (x : α), look i (number n l) = some x → n ≤ i ∧ l[i - n]? = some x
  | [], n, i, x, h => by cases h
  | y :: r, n, i, x, h => by
    by_cases e : i = n
    · subst e
      rw [show look i (number i (y :: r)) = some y from look_set_same] at h
      cases h
      simp
    · rw [show look i (number n (y :: r)) = look i (number (n + 1) r) from look_set_other e] at h
      obtain ⟨h1, h2⟩ := look_number r (n + 1) i x h
      refine ⟨by omega, ?_⟩
      rw [show i - n = (i - (n + 1)) + 1 by omega]
      simpa using h2
def St.init (args : List AV) : St := ⟨number 0 args, [], 0⟩
/-- What the function hands back. -/
def Fin (P : Program) (fn : Func) (C : Cx) (σ : St) (res : AV) : Prop :=
  ∀ G a w, Ok C σ G a w → ∃ v F', (results fn a.tmps).run P w = .ok v w ∧ View.le G.F F' ∧ (∀ p u, F' p = some u → w.cell? p = some u) ∧ (∀ p u, F' p = some u → G.F p = some u ∨ C.w0.heap.size ≤ p.block) ∧ RP F' res v
inductive PuL : List AV → Prop
  | nil : PuL []
def Pure (av : AV) : Prop := ∀ nk, Bd nk av
def QFin (P : Program) (fn : Func) (C : Cx) (res : AV) : Exit → St → Prop := fun e σ => (e = .normal ∨ e = .ret) ∧ Fin P fn C σ res
theorem Ctr.intro {P : Program} {f : FuncId} {fn : Func} {c : Code} {args : List AV} {res : AV} (hf : P.funcs[f]? = some fn) (hb : fn.body = some c) {N : Nat} (hN : fn.ntmps = N) (hn : args.length ≤ N) (hp : ∀ (i : Nat) av, args[i]? = some av → Bd 0 av)
    (h : ∀ w0 F0, W P ⟨w0, F0, N⟩ c (St.init args) (QFin P fn ⟨w0, F0, N⟩ res)) : Ctr P f args res := by
  intro w F vs hF hR
  subst hN
  refine calls_of_wp hf hb ?_
  have hsz : vs.toArray.size = args.length := by simpa using hR.1
  have h1 := h w F ⟨F, fun _ => 0, fun _ => 0, fun _ => undef⟩ { tmps := vs.toArray ++ Array.replicate (fn.ntmps - vs.toArray.size) undef, defers := [] } w
    ⟨by simp; have := hR.1; omega, rfl, fun i av hx => by
      obtain ⟨_, h2⟩ := look_number args 0 i av hx
      simp only [Nat.sub_zero] at h2
      have hi : i < args.length := (List.getElem?_eq_some_iff.1 h2).1
      have hv : i < vs.length := by rw [hR.1]; exact hi
      refine ⟨by show i < fn.ntmps; omega, hp i av h2, .pu _ _ (hR.2 i av _ h2 ?_)⟩
      simp [Array.getD_eq_getD_getElem?, Array.getElem?_append_left, hv],
     Below.refl _ _, hF, fun _ _ h => h, fun _ _ h => .inl h, (fun k o h => by cases h), (fun k o k' o' x h => by cases h), (fun k o x p u h => by cases h)⟩
  refine wp_mono h1 fun e a w' ⟨σ, G, ⟨he, hfin⟩, ok⟩ => ?_
  obtain ⟨v, F', hr, hle, hfw, hnew, hres⟩ := hfin G a w' ok
  have hR : ∃ v F'', Ending.returned v = .returned v ∧ Below w.heap.size w w' ∧ View.le F F'' ∧ (∀ p u, F'' p = some u → w'.cell? p = some u) ∧ (∀ p u, F'' p = some u → F p = some u ∨ w.heap.size ≤ p.block) ∧ RP F'' res v :=
    ⟨v, F', rfl, ok.bel, fun p u x => hle p u (ok.f0 p u x), hfw, fun p u x => (hnew p u x).elim (fun y => ok.f1 p u y) .inr, hres⟩
  rcases he with rfl | rfl
  · exact ⟨ok.df, v, hr, v, F', rfl, ok.bel, fun p u x => hle p u (ok.f0 p u x), hfw, fun p u x => (hnew p u x).elim (fun y => ok.f1 p u y) .inr, hres⟩
  · exact ⟨ok.df, v, hr, v, F', rfl, ok.bel, fun p u x => hle p u (ok.f0 p u x), hfw, fun p u x => (hnew p u x).elim (fun y => ok.f1 p u y) .inr, hres⟩
theorem Bd.rp {G : Gh} {av : AV} {v : Value} (b : Bd 0 av) (r : R G av v) : RP G.F av v := by
  induction r with
  | pu _ _ h => exact h
  | pt k i j p => cases b with | pt _ _ _ h => exact absurd h (by omega)
  | sl k => cases b with | sl _ h => exact absurd h (by omega)
  | ag l cs h1 _ ih => cases b with | ag _ hb => exact .ag l cs h1 fun i av u x y => ih i av u x y (hb i av x)
  | tu l cs h1 _ ih => cases b with | tu _ hb => exact .tu l cs h1 fun i av u x y => ih i av u x y (hb i av x)
/-- A single slot is handed back. -/
theorem Fin.one {P : Program} {fn : Func} {C : Cx} {σ : St} {t : Tmp} {res : AV} (h : fn.results = #[.tmp t]) (ht : look t σ.t = some res) (hb : Bd 0 res) : Fin P fn C σ res := fun G a w ok =>
  ⟨a.tmps.getD t undef, G.F, results_tmp h _ _ _, fun _ _ h => h, ok.fw, fun _ _ h => .inl h, hb.rp (ok.tm t _ ht).2.2⟩
theorem Fin.two {P : Program} {fn : Func} {C : Cx} {σ : St} {t u : Tmp} {r1 r2 : AV} (h : fn.results = #[.tmp t, .tmp u]) (h1 : look t σ.t = some r1) (h2 : look u σ.t = some r2) (b1 : Bd 0 r1) (b2 : Bd 0 r2) : Fin P fn C σ (.tu [r1, r2]) := fun G a w ok =>
  ⟨.tuple #[a.tmps.getD t undef, a.tmps.getD u undef], G.F, results_tmp2 h _ _ _, fun _ _ h => h, ok.fw, fun _ _ h => .inl h, .tu _ _ rfl fun i av x ha hx => by
    match i with
    | 0 => cases ha; cases hx; exact b1.rp (ok.tm t _ h1).2.2
    | 1 => cases ha; cases hx; exact b2.rp (ok.tm u _ h2).2.2
    | n + 2 => simp at ha⟩
end Go.Proofs.YteldgllgagjciaaGreat

/- A walk that knows values as trees: the operations. -/
namespace Go.Proofs.YteldgllgagjciaaGreat
open Go.RowKit
set_option linter.unusedVariables false
set_option linter.unusedSimpArgs false
section
variable {P : Program} {C : Cx} {σ σ' : St} {o : Oper} {d : Tmp}
/-- An operation that yields a value and leaves what is known as it is. -/
def WV (P : Program) (C : Cx) (o : Oper) (σ : St) (av : AV) : Prop :=
  ∀ G a w, Ok C σ G a w → ∀ (N : Act → World → Prop) (Q' : Exit → Act → World → Prop),
    (∀ v G' w', (∀ σ'' a'', Ok C σ'' G a'' w → Ok C σ'' G' a'' w') → R G' av v → Bd σ.nk av → N (a.put o.dst v) w') → o.wp P a w N Q'
theorem WO.of_wv {av : AV} (hds : o.dst = some d) (hd : Nat.blt d C.N = true) (h : WV P C o σ av) : WO P C o σ (σ.put d av) := fun G a w ok N Q' hN =>
  h G a w ok N Q' fun v G' w' hk hr hb => by
    rw [hds]
    exact hN G' _ w' ((hk σ a ok).set (d := some d) hr hb fun x hx => by cases hx; exact of_blt hd)
theorem WL.opv {ops : Array Oper} {rest : List Oper} {Q : Exit → St → Prop} {av : AV} (hg : o.guard = none) (hds : o.dst = some d) (hd : Nat.blt d C.N = true) (h : WV P C o σ av) (k : WL P C ops rest (σ.put d av) Q) : WL P C ops (o :: rest) σ Q :=
  WL.op hg (WO.of_wv hds hd h) k
theorem WV.val {av : AV} (hb : ∀ G a w, Ok C σ G a w → Bd σ.nk av) (h : ∀ G a w, Ok C σ G a w → ∃ v, (execOp a.eval o).run P w = .ok (.value v) w ∧ R G av v) : WV P C o σ av := by
  intro G a w ok N Q' hN
  obtain ⟨v, h1, h2⟩ := h G a w ok
  unfold Oper.wp
  rw [h1]
  exact hN v G w (fun _ _ h => h) h2 (hb G a w ok)
theorem WV.sc {v : Value} (h : ∀ G a w, Ok C σ G a w → (execOp a.eval o).run P w = .ok (.value v) w) : WV P C o σ (.sc v) :=
  WV.val (fun _ _ _ _ => .sc v) fun G a w ok => ⟨v, h G a w ok, .pu _ _ (.sc v)⟩
theorem WV.move {x : Operand} {av : AV} (ho : o.op = .move x) (hx : σ.ev x = some av) : WV P C o σ av :=
  WV.val (fun G a w ok => (ok.evr hx).1) fun G a w ok => ⟨a.eval x, by unfold execOp; simp only [ho]; rfl, (ok.evr hx).2⟩
theorem WV.assign {x : Operand} {av : AV} (ho : o.op = .assign x) (hx : σ.ev x = some av) : WV P C o σ av :=
  WV.val (fun G a w ok => (ok.evr hx).1) fun G a w ok => ⟨a.eval x, by unfold execOp; simp only [ho]; rfl, (ok.evr hx).2⟩
theorem WV.pickT {c x y : Operand} {av : AV} (ho : o.op = .pick c x y) (hc : σ.ev c = some (.sc (.bool true))) (hx : σ.ev x = some av) : WV P C o σ av :=
  WV.val (fun G a w ok => (ok.evr hx).1) fun G a w ok => ⟨a.eval x, by unfold execOp; simp [ho, ok.evs hc, asBool], (ok.evr hx).2⟩
theorem WV.pickF {c x y : Operand} {av : AV} (ho : o.op = .pick c x y) (hc : σ.ev c = some (.sc (.bool false))) (hy : σ.ev y = some av) : WV P C o σ av :=
  WV.val (fun G a w ok => (ok.evr hy).1) fun G a w ok => ⟨a.eval y, by unfold execOp; simp [ho, ok.evs hc, asBool], (ok.evr hy).2⟩
theorem WV.pickS {c x y : Operand} {b : Bool} {u v : Value} (ho : o.op = .pick c x y) (hc : σ.ev c = some (.sc (.bool b))) (hx : σ.ev x = some (.sc u)) (hy : σ.ev y = some (.sc v)) : WV P C o σ (.sc (if b = true then u else v)) :=
  WV.sc fun G a w ok => by unfold execOp; cases b <;> simp [ho, ok.evs hc, ok.evs hx, ok.evs hy, asBool]
/-! Integers. -/
def I64 (z : Int) : Prop := -9223372036854775808 ≤ z ∧ z < 9223372036854775808
theorem I64.wrap {z : Int} (h : I64 z) : IntKind.i64.wrap z = z := Go.IntWalk.i64_in z ⟨h.1, by have := h.2; omega⟩
theorem WV.add {T Ty : TypeId} {x y : Operand} {m n : Int} (ho : o.op = .binOp .add T x y Ty) (hx : σ.ev x = some (.sc (.int .i64 m))) (hy : σ.ev y = some (.sc (.int .i64 n))) (hb : I64 (m + n)) : WV P C o σ (.sc (.int .i64 (m + n))) :=
  WV.sc fun G a w ok => by unfold execOp; simp [ho, ok.evs hx, ok.evs hy, eqGuard, binOp, Op.intArith, hb.wrap]
theorem WV.sub {T Ty : TypeId} {x y : Operand} {m n : Int} (ho : o.op = .binOp .sub T x y Ty) (hx : σ.ev x = some (.sc (.int .i64 m))) (hy : σ.ev y = some (.sc (.int .i64 n))) (hb : I64 (m - n)) : WV P C o σ (.sc (.int .i64 (m - n))) :=
  WV.sc fun G a w ok => by unfold execOp; simp [ho, ok.evs hx, ok.evs hy, eqGuard, binOp, Op.intArith, hb.wrap]
theorem WV.mul {T Ty : TypeId} {x y : Operand} {m n : Int} (ho : o.op = .binOp .mul T x y Ty) (hx : σ.ev x = some (.sc (.int .i64 m))) (hy : σ.ev y = some (.sc (.int .i64 n))) (hb : I64 (m * n)) : WV P C o σ (.sc (.int .i64 (m * n))) :=
  WV.sc fun G a w ok => by unfold execOp; simp [ho, ok.evs hx, ok.evs hy, eqGuard, binOp, Op.intArith, hb.wrap]
theorem WV.lss {T Ty : TypeId} {x y : Operand} {k : IntKind} {m n : Int} (ho : o.op = .binOp .lss T x y Ty) (hx : σ.ev x = some (.sc (.int k m))) (hy : σ.ev y = some (.sc (.int k n))) : WV P C o σ (.sc (.bool (decide (m < n)))) :=
  WV.sc fun G a w ok => by unfold execOp; simp [ho, ok.evs hx, ok.evs hy, eqGuard, binOp, Op.intCmp]
theorem WV.leq {T Ty : TypeId} {x y : Operand} {k : IntKind} {m n : Int} (ho : o.op = .binOp .leq T x y Ty) (hx : σ.ev x = some (.sc (.int k m))) (hy : σ.ev y = some (.sc (.int k n))) : WV P C o σ (.sc (.bool (decide (m ≤ n)))) :=
  WV.sc fun G a w ok => by unfold execOp; simp [ho, ok.evs hx, ok.evs hy, eqGuard, binOp, Op.intCmp]
theorem WV.gtr {T Ty : TypeId} {x y : Operand} {k : IntKind} {m n : Int} (ho : o.op = .binOp .gtr T x y Ty) (hx : σ.ev x = some (.sc (.int k m))) (hy : σ.ev y = some (.sc (.int k n))) : WV P C o σ (.sc (.bool (decide (n < m)))) :=
  WV.sc fun G a w ok => by unfold execOp; simp [ho, ok.evs hx, ok.evs hy, eqGuard, binOp, Op.intCmp]
theorem WV.geq {T Ty : TypeId} {x y : Operand} {k : IntKind} {m n : Int} (ho : o.op = .binOp .geq T x y Ty) (hx : σ.ev x = some (.sc (.int k m))) (hy : σ.ev y = some (.sc (.int k n))) : WV P C o σ (.sc (.bool (decide (n ≤ m)))) :=
  WV.sc fun G a w ok => by unfold execOp; simp [ho, ok.evs hx, ok.evs hy, eqGuard, binOp, Op.intCmp]
theorem WV.eql {T Ty : TypeId} {x y : Operand} {k : IntKind} {m n : Int} (ho : o.op = .binOp .eql T x y Ty) (hx : σ.ev x = some (.sc (.int k m))) (hy : σ.ev y = some (.sc (.int k n))) : WV P C o σ (.sc (.bool (decide (m = n)))) :=
  WV.sc fun G a w ok => by unfold execOp; simp [ho, ok.evs hx, ok.evs hy, eqGuard, binOp, Op.intCmp]; rfl
theorem WV.neq {T Ty : TypeId} {x y : Operand} {k : IntKind} {m n : Int} (ho : o.op = .binOp .neq T x y Ty) (hx : σ.ev x = some (.sc (.int k m))) (hy : σ.ev y = some (.sc (.int k n))) : WV P C o σ (.sc (.bool (!decide (m = n)))) :=
  WV.sc fun G a w ok => by unfold execOp; simp [ho, ok.evs hx, ok.evs hy, eqGuard, binOp, Op.intCmp]; rfl
theorem WV.not {T : TypeId} {x : Operand} {b : Bool} (ho : o.op = .unOp .not T x) (hx : σ.ev x = some (.sc (.bool b))) : WV P C o σ (.sc (.bool (!b))) :=
  WV.sc fun G a w ok => by unfold execOp; simp [ho, ok.evs hx, Op.unary]
theorem WV.beq {T Ty : TypeId} {x y : Operand} {b c : Bool} (ho : o.op = .binOp .eql T x y Ty) (hT : P.underlying T = some .bool) (hx : σ.ev x = some (.sc (.bool b))) (hy : σ.ev y = some (.sc (.bool c))) : WV P C o σ (.sc (.bool (b == c))) :=
  WV.sc fun G a w ok => by unfold execOp; simp [ho, ok.evs hx, ok.evs hy, eqGuard, binOp, run_equal_bool w T b c hT]
theorem WV.bne {T Ty : TypeId} {x y : Operand} {b c : Bool} (ho : o.op = .binOp .neq T x y Ty) (hT : P.underlying T = some .bool) (hx : σ.ev x = some (.sc (.bool b))) (hy : σ.ev y = some (.sc (.bool c))) : WV P C o σ (.sc (.bool (!(b == c)))) :=
  WV.sc fun G a w ok => by unfold execOp; simp [ho, ok.evs hx, ok.evs hy, eqGuard, binOp, run_equal_bool w T b c hT]
def scs : List AV → Option (List Value)
  | [] => some []
  | .sc v :: r => (scs r).map (v :: ·)
  | _ => none
theorem scs_of {G : Gh} : ∀ {l : List AV} {xs : List Value}, scs l = some xs → ∀ {cs : List Value}, cs.length = l.length → (∀ (i : Nat) av u, l[i]? = some av → cs[i]? = some u → R G av u) → cs = xs := by
  intro l
  induction l with
  | nil => intro xs h cs hl _; cases h; exact List.eq_nil_of_length_eq_zero hl
  | cons a r ih =>
    intro xs h cs hl hc
    cases a with
    | sc v =>
      cases hr : scs r with
      | none => simp [scs, hr] at h
      | some ys =>
        simp [scs, hr] at h
        subst h
        cases cs with
        | nil => simp at hl
        | cons u us =>
          have h0 := (hc 0 (.sc v) u rfl rfl).sc_eq
          have := ih hr (cs := us) (by simpa using hl) (fun i av x p q => hc (i + 1) av x (by simpa using p) (by simpa using q))
          rw [h0, this]
    | _ => simp [scs] at h
theorem Ok.agg {G : Gh} {a : Act} {w : World} (ok : Ok C σ G a w) {x : Operand} {l : List AV} {xs : List Value} (hx : σ.ev x = some (.ag l)) (hs : scs l = some xs) : a.eval x = .agg xs.toArray := by
  obtain ⟨cs, e, h1, h2⟩ := (ok.evr hx).2.ag_of
  rw [e, ← scs_of hs (cs := cs.toList) (by simpa using h1) (fun i av u p q => h2 i av u p (by simpa using q))]
theorem WV.aeq {T Ty : TypeId} {x y : Operand} {l m : List AV} {xs ys : List Value} {b : Bool} (ho : o.op = .binOp .eql T x y Ty) (hx : σ.ev x = some (.ag l)) (h1 : scs l = some xs) (hy : σ.ev y = some (.ag m)) (h2 : scs m = some ys)
    (hg : P.eqGuardType P.depth T = false) (he : ∀ w, (Op.equalIn 10000 T (.agg xs.toArray) (.agg ys.toArray)).run P w = .ok b w) : WV P C o σ (.sc (.bool b)) :=
  WV.sc fun G a w ok => by unfold execOp; simp [ho, ok.agg hx h1, ok.agg hy h2, run_eqGuard_agg w _ T x y _ _ hg, run_eql_struct, he]
theorem WV.ane {T Ty : TypeId} {x y : Operand} {l m : List AV} {xs ys : List Value} {b : Bool} (ho : o.op = .binOp .neq T x y Ty) (hx : σ.ev x = some (.ag l)) (h1 : scs l = some xs) (hy : σ.ev y = some (.ag m)) (h2 : scs m = some ys)
    (hg : P.eqGuardType P.depth T = false) (he : ∀ w, (Op.equalIn 10000 T (.agg xs.toArray) (.agg ys.toArray)).run P w = .ok b w) : WV P C o σ (.sc (.bool (!b))) :=
  WV.sc fun G a w ok => by unfold execOp; simp [ho, ok.agg hx h1, ok.agg hy h2, run_eqGuard_agg w _ T x y _ _ hg, run_neq_struct, he]
/-! Strings, as lists of bytes. -/
theorem WV.seq_ {T Ty : TypeId} {x y : Operand} {s t : List UInt8} (ho : o.op = .binOp .eql T x y Ty) (hx : σ.ev x = some (.sc (.string (bs s)))) (hy : σ.ev y = some (.sc (.string (bs t)))) : WV P C o σ (.sc (.bool (s == t))) :=
  WV.sc fun G a w ok => by unfold execOp; simp [ho, ok.evs hx, ok.evs hy, eqGuard, binOp, Op.stringOp, bs_toList]
theorem WV.sne {T Ty : TypeId} {x y : Operand} {s t : List UInt8} (ho : o.op = .binOp .neq T x y Ty) (hx : σ.ev x = some (.sc (.string (bs s)))) (hy : σ.ev y = some (.sc (.string (bs t)))) : WV P C o σ (.sc (.bool (!(s == t)))) :=
  WV.sc fun G a w ok => by unfold execOp; simp [ho, ok.evs hx, ok.evs hy, eqGuard, binOp, Op.stringOp, bs_toList]
theorem WV.cat {T Ty : TypeId} {x y : Operand} {s t : List UInt8} (ho : o.op = .binOp .add T x y Ty) (hx : σ.ev x = some (.sc (.string (bs s)))) (hy : σ.ev y = some (.sc (.string (bs t)))) (hl : s.length + t.length < 9223372036854775808) : WV P C o σ (.sc (.string (bs (s ++ t)))) :=
  WV.sc fun G a w ok => by
    have h1 : ¬ ((((bs s).size + (bs t).size : Nat) : Int) > IntKind.i64.max) := by
      rw [bs_size, bs_size]
      have : IntKind.i64.max = 9223372036854775807 := by decide
      rw [this]; omega
    unfold execOp
    simp only [ho, ok.evs hx, ok.evs hy, eqGuard, binOp, Op.stringOp, if_neg h1]
    simp [bs_append]
/-! Tuples, lengths. -/
theorem WV.extract {x : Operand} {i : Nat} {l : List AV} {av : AV} (ho : o.op = .extract x i) (hx : σ.ev x = some (.tu l)) (hi : l[i]? = some av) : WV P C o σ av :=
  WV.val (fun G a w ok => by cases (ok.evr hx).1 with | tu _ h => exact h i av hi) fun G a w ok => by
    obtain ⟨cs, e, h1, h2⟩ := (ok.evr hx).2.tu_of
    have hlt : i < cs.size := by rw [h1]; exact (List.getElem?_eq_some_iff.1 hi).1
    refine ⟨cs[i], ?_, h2 i av _ hi (Array.getElem?_eq_getElem hlt)⟩
    unfold execOp
    simp [ho, e, Instr.extract, Array.getElem?_eq_getElem hlt]
theorem WV.lenL {x : Operand} {T e : TypeId} {n : Nat} {rows : List (List AV)} (ho : o.op = .call { callee := .builtin .len, args := #[x], argTypes := #[T] }) (hT : P.underlying T = some (.slice e)) (hx : σ.ev x = some (.ls n rows)) {m : Nat} (hm : rows.length = m) : WV P C o σ (.sc (.int .i64 m)) :=
  WV.sc fun G a w ok => by
    obtain ⟨A, cap, ad, u, e, _⟩ := (ok.evr hx).2.pu_of.ls_of
    subst hm
    unfold execOp
    simp [ho, resolve, invoke, builtin, e, Builtin.len_, run_underlying hT, goInt]
theorem ObAt.row_len {B : Nat} {G : Gh} {w : World} {k : Nat} {T : TypeId} {n : Nat} {rows : List (List AV)} (h : ObAt B G w k (.row T n rows)) : ∃ A c, G.h k = .slice A rows.length c := by
  obtain ⟨_, _, _, vs, h4, h5, _⟩ := h
  rcases h4.2 with ⟨e, e2⟩ | ⟨g, cap, cur, e, _⟩
  · exact ⟨none, 0, by rw [e, ← h5, e2]⟩
  · exact ⟨_, cap, by rw [e, h5]⟩
theorem WV.lenS {x : Operand} {T e : TypeId} {k : Nat} {T' : TypeId} {n : Nat} {rows : List (List AV)} (ho : o.op = .call { callee := .builtin .len, args := #[x], argTypes := #[T] }) (hT : P.underlying T = some (.slice e)) (hx : σ.ev x = some (.sl k)) (hk : look k σ.M = some (.row T' n rows)) {m : Nat} (hm : rows.length = m) : WV P C o σ (.sc (.int .i64 m)) :=
  WV.sc fun G a w ok => by
    have e := (ok.evr hx).2.sl_of.1
    obtain ⟨A, c, e2⟩ := (ok.ob k _ hk).2.2.row_len
    rw [e2] at e
    subst hm
    unfold execOp
    simp [ho, resolve, invoke, builtin, e, Builtin.len_, run_underlying hT, goInt]
theorem WV.lenN {x : Operand} {T e : TypeId} {A : Option Addr} {m c : Nat} (ho : o.op = .call { callee := .builtin .len, args := #[x], argTypes := #[T] }) (hT : P.underlying T = some (.slice e)) (hx : σ.ev x = some (.sc (.slice A m c))) : WV P C o σ (.sc (.int .i64 m)) :=
  WV.sc fun G a w ok => by
    unfold execOp
    simp [ho, resolve, invoke, builtin, ok.evs hx, Builtin.len_, run_underlying hT, goInt]
theorem WV.lenB {x : Operand} {T : TypeId} {s : List UInt8} (ho : o.op = .call { callee := .builtin .len, args := #[x], argTypes := #[T] }) (hT : P.underlying T = some .string) (hx : σ.ev x = some (.sc (.string (bs s)))) : WV P C o σ (.sc (.int .i64 s.length)) :=
  WV.sc fun G a w ok => by
    unfold execOp
    simp [ho, resolve, invoke, builtin, ok.evs hx, Builtin.len_, run_underlying hT, goInt, bs_size]
/-! Pointers. -/
def Program.fld (P : Program) (T i : Nat) : Option Nat :=
  match P.underlying T with
  | some (.struct fs) => (fs[i]?).map (·.offset)
  | _ => none
theorem add_ptr {b j : Nat} (p : Addr) (h1 : p.block = b) (h3 : p.spot = none) : (p.add j).block = b ∧ (p.add j).off = p.off + j ∧ (p.add j).spot = none := by
  unfold Addr.add
  by_cases e : j = 0
  · subst e; simp [h1, h3]
  · simp [e, h1]
end
end Go.Proofs.YteldgllgagjciaaGreat

/- A walk that knows values as trees: addresses, loads. -/
namespace Go.Proofs.YteldgllgagjciaaGreat
open Go.RowKit
set_option linter.unusedVariables false
set_option linter.unusedSimpArgs false
def fldB (P : Program) (T i : Nat) : Option Nat :=
  match P.underlying T with
  | some (.struct fs) =>
    match fs[i]? with
    | some f => if P.cellsOf f.type = 0 then none else some f.offset
    | none => none
  | _ => none
def aggB (P : Program) (T : TypeId) : Option Bool :=
  match P.underlying T with
  | some (.struct _) | some (.array _ _) => some true
  | some _ => some false
  | none => none
def sizeB (P : Program) (T : TypeId) : Option Nat := (P.info? T).map (·.size)
section
variable {P : Program} {C : Cx} {σ σ' : St} {o : Oper} {d : Tmp}
theorem run_sizeB {T n : Nat} (h : sizeB P T = some n) (w : World) : (sizeOf T).run P w = .ok n w := by
  unfold sizeB at h
  cases hi : P.info? T with
  | none => simp [hi] at h
  | some i =>
    simp [hi] at h
    simp [sizeOf, typeInfo, hi, h]
theorem run_aggB {T : Nat} {b : Bool} (h : aggB P T = some b) (w : World) : (isAgg T).run P w = .ok b w := by
  unfold aggB at h
  cases hu : P.underlying T with
  | none => simp [hu] at h
  | some u =>
    unfold isAgg
    rw [Sem.run_bind, run_underlying hu w]
    cases u <;> simp_all
theorem run_fld {T i off : Nat} (h : fldB P T i = some off) (p : Addr) (w : World) : (Instr.fieldAt T (.pointer (some p)) i).run P w = .ok (.pointer (some (p.add off))) w := by
  unfold fldB at h
  cases hu : P.underlying T with
  | none => simp [hu] at h
  | some u =>
    cases u with
    | struct fs =>
      simp only [hu] at h
      cases hf : fs[i]? with
      | none => simp [hf] at h
      | some f =>
        simp only [hf] at h
        by_cases h0 : P.cellsOf f.type = 0
        · rw [if_pos h0] at h; cases h
        · rw [if_neg h0] at h
          cases h
          cases hq : P.info? f.type with
          | none => exact absurd (by unfold Program.cellsOf; rw [hq]; rfl) h0
          | some q =>
            have hne : q.size ≠ 0 := by
              intro e; apply h0; unfold Program.cellsOf; rw [hq]; exact e
            simp [Instr.fieldAt, Instr.sureAddr, fieldPlace, run_underlying hu, hf, sizeOf, typeInfo, hq, hne]
    | _ => simp [hu] at h
theorem WV.fieldP {T : TypeId} {x : Operand} {i off k r j : Nat} (ho : o.op = .fieldAddr T x i) (hf : fldB P T i = some off) (hx : σ.ev x = some (.pt k r j)) : WV P C o σ (.pt k r (j + off)) :=
  WV.val (fun G a w ok => by cases (ok.evr hx).1 with | pt _ _ _ h => exact .pt _ _ _ h) fun G a w ok => by
    obtain ⟨p, e, h1, h2, h3⟩ := (ok.evr hx).2.pt_of
    obtain ⟨q1, q2, q3⟩ := add_ptr (j := off) p h1 h3
    exact ⟨_, by unfold execOp; simp [ho, e, run_fld hf], .pt k r (j + off) _ q1 (by omega) q3⟩
theorem WV.fieldR {T : TypeId} {x : Operand} {i off : Nat} {cells : List AV} (ho : o.op = .fieldAddr T x i) (hf : fldB P T i = some off) (hx : σ.ev x = some (.pr cells)) : WV P C o σ (.pr (cells.drop off)) :=
  WV.val (fun _ _ _ _ => .pr _) fun G a w ok => by
    obtain ⟨p, u, e, h1, h2⟩ := (ok.evr hx).2.pr_of.pr_of
    refine ⟨.pointer (some (p.add off)), by unfold execOp; simp [ho, e, run_fld hf], .pu _ _ (.pr _ _ (fun j => u (off + j)) (fun j av h => ?_) fun j av h => ?_)⟩
    · rw [List.getElem?_drop] at h
      rw [add_of_add]
      exact h1 _ av h
    · rw [List.getElem?_drop] at h
      exact h2 _ av h
/-! Indices. -/
theorem run_index {T e n : Nat} (hT : P.underlying T = some (.slice e)) (hn : sizeB P e = some n) (ad : Addr) (len cap : Nat) (k : IntKind) (z : Int) (h0 : 0 ≤ z) (h1 : z < len) (w : World) :
    (Instr.indexAt T (.slice (some ad) len cap) (.int k z)).run P w = .ok (.pointer (some (ad.add (z.toNat * n)))) w := by
  simp [Instr.indexAt, asIntOf, run_underlying hT, h0, h1, run_sizeB hn]
theorem WV.indexL {T e n : Nat} {x y : Operand} {rows : List (List AV)} {k : IntKind} {z : Int} {r : List AV} (ho : o.op = .indexAddr T x y) (hT : P.underlying T = some (.slice e)) (hn : sizeB P e = some n)
    (hx : σ.ev x = some (.ls n rows)) (hy : σ.ev y = some (.sc (.int k z))) (h0 : 0 ≤ z) (hr : rows[z.toNat]? = some r) : WV P C o σ (.pr r) :=
  WV.val (fun _ _ _ _ => .pr _) fun G a w ok => by
    obtain ⟨A, cap, ad, u, e1, h1, h2, h3, h4, _⟩ := (ok.evr hx).2.pu_of.ls_of
    have hlt : z.toNat < rows.length := (List.getElem?_eq_some_iff.1 hr).1
    obtain rfl := h2 (by omega)
    refine ⟨.pointer (some (ad.add (z.toNat * n))), by unfold execOp; simp [ho, e1, ok.evs hy, run_index hT hn ad rows.length cap k z h0 (by omega)], .pu _ _ (.pr _ _ (fun j => u z.toNat j) (fun j av h => ?_) fun j av h => ?_)⟩
    · rw [add_of_add]; exact h3 _ r j av hr h
    · exact h4 _ r j av hr h
theorem ObAt.row_base {B : Nat} {G : Gh} {w : World} {k : Nat} {T : TypeId} {n : Nat} {rows : List (List AV)} (h : ObAt B G w k (.row T n rows)) (hp : 0 < rows.length) : ∃ c, G.h k = .slice (some ⟨G.b k, 0, none⟩) rows.length c := by
  obtain ⟨_, _, hg, vs, h4, h5, _⟩ := h
  rcases h4.2 with ⟨e, e2⟩ | ⟨g, cap, cur, e, _⟩
  · omega
  · have := hg g (by rw [e]; rfl)
    exact ⟨cap, by rw [e, h5, this]⟩
theorem WV.indexS {T e n k : Nat} {T' : TypeId} {x y : Operand} {rows : List (List AV)} {q : IntKind} {z : Int} (ho : o.op = .indexAddr T x y) (hT : P.underlying T = some (.slice e)) (hn : sizeB P e = some n)
    (hx : σ.ev x = some (.sl k)) (hy : σ.ev y = some (.sc (.int q z))) (hk : look k σ.M = some (.row T' n rows)) (h0 : 0 ≤ z) (h1 : z < rows.length) : WV P C o σ (.pt k z.toNat 0) :=
  WV.val (fun G a w ok => .pt _ _ _ (ok.ob k _ hk).1) fun G a w ok => by
    have e1 := (ok.evr hx).2.sl_of.1
    have ho' := (ok.ob k _ hk).2.2
    obtain ⟨c, e2⟩ := ho'.row_base (by omega)
    rw [e2] at e1
    obtain ⟨q1, q2, q3⟩ := add_ptr (j := z.toNat * n) (⟨G.b k, 0, none⟩ : Addr) rfl rfl
    refine ⟨_, by unfold execOp; simp [ho, e1, ok.evs hy, run_index hT hn _ rows.length c q z h0 h1], .pt k z.toNat 0 _ q1 ?_ q3⟩
    rw [q2, ho'.1]; simp
/-! Loads. -/
theorem RP.bd {F : View} {av : AV} {v : Value} (r : RP F av v) (nk : Nat) : Bd nk av := by
  induction r with
  | sc v => exact .sc v
  | ls n rows A cap ad u _ _ _ _ _ _ => exact .ls n rows
  | pr cells p u _ _ _ => exact .pr cells
  | ag l cs h1 _ ih =>
    refine .ag l fun i x hx => ?_
    have hlt : i < cs.size := by rw [h1]; exact (List.getElem?_eq_some_iff.1 hx).1
    exact ih i x cs[i] hx (Array.getElem?_eq_getElem hlt)
  | tu l cs h1 _ ih =>
    refine .tu l fun i x hx => ?_
    have hlt : i < cs.size := by rw [h1]; exact (List.getElem?_eq_some_iff.1 hx).1
    exact ih i x cs[i] hx (Array.getElem?_eq_getElem hlt)
/-- The cells of an object from row i, cell j on. -/
def AO.from_ : AO → Nat → Nat → Option (List AV)
  | .box _ cells, 0, j => some (cells.drop j)
  | .box _ _, _ + 1, _ => none
  | .row _ _ rows, i, j => (rows[i]?).map (·.drop j)
theorem addr_eq {p : Addr} {b f : Nat} (h1 : p.block = b) (h2 : p.off = f) (h3 : p.spot = none) : p = ⟨b, f, none⟩ := by
  cases p; simp_all
theorem add_flat (b f j : Nat) : (⟨b, f, none⟩ : Addr).add j = ⟨b, f + j, none⟩ := by
  unfold Addr.add
  by_cases e : j = 0 <;> simp [e]
theorem Ok.cell {G : Gh} {a : Act} {w : World} (ok : Ok C σ G a w) {k i j m : Nat} {ob : AO} {l : List AV} {av : AV} {p : Addr} (hk : look k σ.M = some ob) (hf : ob.from_ i j = some l) (hm : l[m]? = some av)
    (h1 : p.block = G.b k) (h2 : p.off = i * G.n k + j) (h3 : p.spot = none) : ∃ u, w.cell? (p.add m) = some u ∧ R G av u ∧ Bd σ.nk av := by
  obtain rfl := addr_eq h1 h2 h3
  have h := ok.ob k ob hk
  cases ob with
  | box T cells =>
    cases i with
    | succ i => simp [AO.from_] at hf
    | zero =>
      simp only [AO.from_, Option.some.injEq] at hf
      subst hf
      rw [List.getElem?_drop] at hm
      obtain ⟨_, cs, hb, hs, hc⟩ := h.2.2
      have hlt : j + m < cs.size := by rw [hs]; exact (List.getElem?_eq_some_iff.1 hm).1
      refine ⟨cs[j + m], ?_, hc _ _ _ hm (Array.getElem?_eq_getElem hlt), h.2.1 _ _ hm⟩
      rw [add_flat, Nat.zero_mul, Nat.zero_add, hb.cell]
      exact Array.getElem?_eq_getElem hlt
  | row T n rows =>
    simp only [AO.from_] at hf
    cases hr : rows[i]? with
    | none => simp [hr] at hf
    | some r =>
      simp [hr] at hf
      subst hf
      rw [List.getElem?_drop] at hm
      have h' := h.2.2
      obtain ⟨hn, hrl, hg, vs, h4, h5, h7, h6⟩ := h.2.2
      have hi : i < rows.length := (List.getElem?_eq_some_iff.1 hr).1
      have hv : vs[i]? = some vs[i] := List.getElem?_eq_getElem (by omega)
      obtain ⟨e1, e2⟩ := h6 i r _ hr hv
      have hj : j + m < vs[i].length := by rw [e1]; exact (List.getElem?_eq_some_iff.1 hm).1
      have hu := e2 (j + m) av _ hm (List.getElem?_eq_getElem hj)
      have hvl : ∀ r ∈ vs, r.length = n := by
        intro r' hr'
        obtain ⟨q, hq, rfl⟩ := List.getElem_of_mem hr'
        have := (h6 q rows[q] vs[q] (List.getElem?_eq_getElem (by omega)) (List.getElem?_eq_getElem hq)).1
        rw [this]; exact hrl _ (List.getElem_mem _)
      obtain ⟨A, c, hA, hrd, hat, _⟩ := rd_of_own h4 hvl rfl rfl
      obtain ⟨c2, hb2⟩ := h'.row_base (by omega)
      rw [hb2] at hA
      injection hA with hA _ _
      subst hA
      obtain ⟨ad, had, _, hc⟩ := Rd.at_ (k := i) hrd (by omega)
      injection had with had
      subst had
      refine ⟨_, ?_, .pu _ _ hu, ?_⟩
      · have := hc (j + m) _ (List.getElem?_eq_getElem hj)
        rw [add_flat] at this
        rw [add_flat, hn, show i * n + j + m = 0 + (i * n + (j + m)) by omega]
        exact this
      · exact hu.bd _
theorem run_load1 {T : TypeId} {p : Addr} {u : Value} {w : World} (hT : aggB P T = some false) (h : w.cell? p = some u) : (Instr.loadAt T (.pointer (some p))).run P w = .ok u w := by
  simp [Instr.loadAt, Instr.sureAddr, loadVar, run_aggB hT, h]
theorem run_loadN {T n : Nat} {p : Addr} {cs : List Value} {w : World} (hT : aggB P T = some true) (hn : sizeB P T = some n) (hl : cs.length = n) (h : ∀ j v, cs[j]? = some v → w.cell? (p.add j) = some v) : (Instr.loadAt T (.pointer (some p))).run P w = .ok (.agg cs.toArray) w := by
  have := run_loadCells_list (P := P) w p cs h
  rw [hl] at this
  simp [Instr.loadAt, Instr.sureAddr, loadVar, run_aggB hT, run_sizeB hn, this]
theorem add_zero' (p : Addr) : p.add 0 = p := by simp [Addr.add]
theorem WV.load1 {T : TypeId} {x : Operand} {k i j : Nat} {ob : AO} {l : List AV} {av : AV} (ho : o.op = .load T x) (hT : aggB P T = some false)
    (hx : σ.ev x = some (.pt k i j)) (hk : look k σ.M = some ob) (hf : ob.from_ i j = some l) (hm : l[0]? = some av) : WV P C o σ av :=
  WV.val (fun G a w ok => by
    obtain ⟨p, e, h1, h2, h3⟩ := (ok.evr hx).2.pt_of
    obtain ⟨u, _, _, hb⟩ := ok.cell hk hf hm h1 h2 h3
    exact hb) fun G a w ok => by
    obtain ⟨p, e, h1, h2, h3⟩ := (ok.evr hx).2.pt_of
    obtain ⟨u, hu, hr, _⟩ := ok.cell hk hf hm h1 h2 h3
    rw [add_zero'] at hu
    exact ⟨u, by unfold execOp; simp [ho, e, run_load1 hT hu], hr⟩
theorem WV.load1R {T : TypeId} {x : Operand} {cells : List AV} {av : AV} (ho : o.op = .load T x) (hT : aggB P T = some false)
    (hx : σ.ev x = some (.pr cells)) (hm : cells[0]? = some av) : WV P C o σ av :=
  WV.val (fun G a w ok => by
    obtain ⟨p, u, e, h1, h2⟩ := (ok.evr hx).2.pr_of.pr_of
    exact (h2 0 av hm).bd _) fun G a w ok => by
    obtain ⟨p, u, e, h1, h2⟩ := (ok.evr hx).2.pr_of.pr_of
    have hu := ok.fw _ _ (h1 0 av hm).1
    rw [add_zero'] at hu
    exact ⟨u 0, by unfold execOp; simp [ho, e, run_load1 hT hu], .pu _ _ (h2 0 av hm)⟩
theorem list_ofT {α : Type} (Q : Nat → α → Prop) : ∀ (n : Nat), (∀ j, j < n → ∃ u, Q j u) → ∃ l : List α, l.length = n ∧ ∀ j u, l[j]? = some u → Q j u := by
  intro n
  induction n with
  | zero => intro _; exact ⟨[], rfl, fun j u h => by simp at h⟩
  | succ n ih =>
    intro h
    obtain ⟨l, hl, hq⟩ := ih fun j hj => h j (by omega)
    obtain ⟨u, hu⟩ := h n (by omega)
    refine ⟨l ++ [u], by simp [hl], fun j v hv => ?_⟩
    by_cases e : j < n
    · rw [List.getElem?_append_left (by omega)] at hv; exact hq j v hv
    · rw [List.getElem?_append_right (by omega)] at hv
      have hj : j - l.length < [u].length := (List.getElem?_eq_some_iff.1 hv).1
      have : j = n := by simp at hj; omega
      subst this
      simp [hl] at hv
      rw [← hv]; exact hu
theorem WV.loadN {T n : Nat} {x : Operand} {k i j : Nat} {ob : AO} {l l' : List AV} (ho : o.op = .load T x) (hT : aggB P T = some true) (hn : sizeB P T = some n)
    (hx : σ.ev x = some (.pt k i j)) (hk : look k σ.M = some ob) (hf : ob.from_ i j = some l) (hl : l.take n = l') (hlen : l'.length = n) : WV P C o σ (.ag l') :=
  have hle : n ≤ l.length := by rw [← hl, List.length_take] at hlen; omega
  have hat : ∀ m av, l'[m]? = some av → l[m]? = some av := fun m av h => by
    have hlt : m < n := by rw [← hlen]; exact (List.getElem?_eq_some_iff.1 h).1
    rw [← hl, List.getElem?_take_of_lt hlt] at h; exact h
  WV.val (fun G a w ok => by
    obtain ⟨p, e, h1, h2, h3⟩ := (ok.evr hx).2.pt_of
    refine .ag _ fun m av hm => ?_
    obtain ⟨u, _, _, hb⟩ := ok.cell hk hf (hat m av hm) h1 h2 h3
    exact hb) fun G a w ok => by
    obtain ⟨p, e, h1, h2, h3⟩ := (ok.evr hx).2.pt_of
    obtain ⟨cs, hcl, hcq⟩ := list_ofT (fun m u => w.cell? (p.add m) = some u ∧ ∀ av, l'[m]? = some av → R G av u) n fun m hm => by
      have hg : l'[m]? = some l'[m] := List.getElem?_eq_getElem (by omega)
      obtain ⟨u, hu, hr, _⟩ := ok.cell hk hf (hat m _ hg) h1 h2 h3
      exact ⟨u, hu, fun av h => by rw [hg] at h; cases h; exact hr⟩
    refine ⟨.agg cs.toArray, by unfold execOp; simp [ho, e, run_loadN hT hn hcl fun j v h => (hcq j v h).1], .ag _ _ (by simp [hcl, hlen]) fun m av u hm hu => (hcq m u (by simpa using hu)).2 av hm⟩
theorem WV.loadNR {T n : Nat} {x : Operand} {l l' : List AV} (ho : o.op = .load T x) (hT : aggB P T = some true) (hn : sizeB P T = some n)
    (hx : σ.ev x = some (.pr l)) (hl : l.take n = l') (hlen : l'.length = n) : WV P C o σ (.ag l') :=
  have hat : ∀ m av, l'[m]? = some av → l[m]? = some av := fun m av h => by
    have hlt : m < n := by rw [← hlen]; exact (List.getElem?_eq_some_iff.1 h).1
    rw [← hl, List.getElem?_take_of_lt hlt] at h; exact h
  WV.val (fun G a w ok => by
    obtain ⟨p, u, e, h1, h2⟩ := (ok.evr hx).2.pr_of.pr_of
    exact .ag _ fun m av hm => (h2 m av (hat m av hm)).bd _) fun G a w ok => by
    obtain ⟨p, u, e, h1, h2⟩ := (ok.evr hx).2.pr_of.pr_of
    have hh : ∀ (j : Nat) v, ((List.range n).map u)[j]? = some v → w.cell? (p.add j) = some v := fun j v h => by
      have hj : j < n := by simpa using (List.getElem?_eq_some_iff.1 h).1
      simp [hj] at h
      have hg : l'[j]? = some l'[j] := List.getElem?_eq_getElem (by omega)
      rw [← h]; exact ok.fw _ _ (h1 j _ (hat j _ hg)).1
    refine ⟨.agg ((List.range n).map u).toArray, by unfold execOp; simp only [ho, e]; rw [Sem.run_bind, run_loadN hT hn (by simp) hh]; rfl, .ag _ _ (by simp [hlen]) fun m av v hm hv => ?_⟩
    have hj : m < n := by rw [← hlen]; exact (List.getElem?_eq_some_iff.1 hm).1
    simp [hj] at hv
    rw [← hv]; exact .pu _ _ (h2 m av (hat m av hm))
end
end Go.Proofs.YteldgllgagjciaaGreat

/- A walk that knows values as trees: new objects, stores, calls. -/
namespace Go.Proofs.YteldgllgagjciaaGreat
open Go.RowKit
set_option linter.unusedVariables false
set_option linter.unusedSimpArgs false
def St.new (σ : St) (ob : AO) : St := { σ with M := (σ.nk, ob) :: σ.M, nk := σ.nk + 1 }
def St.upd (σ : St) (k : Nat) (ob : AO) : St := { σ with M := (k, ob) :: σ.M }
def AV.cells : AV → List AV
  | .ag l => l
  | av => [av]
def AV.cellB : AV → Bool
  | .sc v => v.oneCell'
  | .tu _ => false
  | _ => true
def AV.oneB : AV → Bool
  | .sc v => v.oneCell'
  | .tu _ => false
  | .ag _ => false
  | _ => true
section
variable {P : Program} {C : Cx} {σ σ' : St} {G G' : Gh} {a : Act} {w w' : World} {o : Oper} {d : Tmp}
theorem AO.bd_mono {nk nk' : Nat} (h : nk ≤ nk') {ob : AO} (b : ob.bd nk) : ob.bd nk' := by
  cases ob with
  | box T cells => exact fun i av x => (b i av x).mono h
  | row T n rows => trivial
theorem Ok.add (ok : Ok C σ G a w) {ob : AO} (h : ObAt C.w0.heap.size G w σ.nk ob) (hbd : ob.bd (σ.nk + 1))
    (hown : ∀ x, ob.own G σ.nk = some x → (∀ k o y, look k σ.M = some o → o.own G k = some y → y ≠ x) ∧ ∀ p u, G.F p = some u → p.block ≠ x) : Ok C (σ.new ob) G a w := by
  have hl : ∀ k o, look k (σ.new ob).M = some o → (k = σ.nk ∧ o = ob) ∨ (k ≠ σ.nk ∧ look k σ.M = some o) := fun k o hx => by
    by_cases e : k = σ.nk
    · subst e
      rw [show look σ.nk (σ.new ob).M = some ob from look_set_same] at hx
      cases hx
      exact .inl ⟨rfl, rfl⟩
    · rw [show look k (σ.new ob).M = look k σ.M from look_set_other e] at hx
      exact .inr ⟨e, hx⟩
  refine ⟨ok.sz, ok.df, fun i av x => ⟨(ok.tm i av x).1, (ok.tm i av x).2.1.mono (Nat.le_succ _), (ok.tm i av x).2.2⟩, ok.bel, ok.fw, ok.f0, ok.f1, ?_, ?_, ?_⟩
  · intro k o x
    rcases hl k o x with ⟨rfl, rfl⟩ | ⟨e, y⟩
    · exact ⟨Nat.lt_succ_self _, hbd, h⟩
    · exact ⟨Nat.lt_succ_of_lt (ok.ob k o y).1, AO.bd_mono (Nat.le_succ _) (ok.ob k o y).2.1, (ok.ob k o y).2.2⟩
  · intro k o k' o' x h1 h2 h3 h4
    rcases hl k o h1 with ⟨rfl, rfl⟩ | ⟨e, y⟩
    · rcases hl k' o' h2 with ⟨rfl, rfl⟩ | ⟨e', y'⟩
      · rfl
      · exact absurd rfl ((hown x h3).1 k' o' x y' h4)
    · rcases hl k' o' h2 with ⟨rfl, rfl⟩ | ⟨e', y'⟩
      · exact absurd rfl ((hown x h4).1 k o x y h3)
      · exact ok.dj k o k' o' x y y' h3 h4
  · intro k o x p u h1 h2 h3
    rcases hl k o h1 with ⟨rfl, rfl⟩ | ⟨e, y⟩
    · exact (hown x h2).2 p u h3
    · exact ok.dF k o x p u y h2 h3
theorem Ok.newBox (ok : Ok C σ G a w) {cells : List AV} {cs : Array Value} (T : TypeId) (hs : cs.size = cells.length) (hc : ∀ (i : Nat) av u, cells[i]? = some av → cs[i]? = some u → R G av u) (hb : ∀ (i : Nat) av, cells[i]? = some av → Bd σ.nk av) :
    ∃ G', G.le G' σ.nk ∧ G'.b σ.nk = w.heap.size ∧ Ok C (σ.new (.box T cells)) G' a (w.alloc (.cells cs T)) := by
  have hle : G.le { G with b := fun k => if k = σ.nk then w.heap.size else G.b k } σ.nk := ⟨fun _ _ h => h, fun k hk => if_neg (by omega), fun _ _ => rfl, fun _ _ => rfl⟩
  have hbl : ∀ x, x < w.heap.size → (w.alloc (.cells cs T)).heap[x]? = w.heap[x]? := fun x hx => Below.heap_alloc w _ x hx
  have ok1 : Ok C σ { G with b := fun k => if k = σ.nk then w.heap.size else G.b k } a (w.alloc (.cells cs T)) :=
    ok.world hle ((Below.refl _ _).alloc ok.bel.size _) (fun k o x h1 h2 => hbl x (own_lt' (ok.ob k o h1).2.2 h2).2)
      (fun p u h => (World.cell?_of_block (hbl _ (cell_block (ok.fw p u h)))).trans (ok.fw p u h)) (fun _ _ h => .inl h)
  refine ⟨_, hle, if_pos rfl, ok1.add ⟨?_, cs, ?_, hs, fun i av u x y => (hc i av u x y).mono hle (hb i av x)⟩ (fun i av x => (hb i av x).mono (Nat.le_succ _)) ?_⟩
  · show C.w0.heap.size ≤ if σ.nk = σ.nk then w.heap.size else G.b σ.nk
    rw [if_pos rfl]; exact ok.bel.size
  · show Blk _ (if σ.nk = σ.nk then w.heap.size else G.b σ.nk) T cs
    rw [if_pos rfl]; exact Blk.new w T cs
  · intro x hx
    have hx : (if σ.nk = σ.nk then w.heap.size else G.b σ.nk) = x := by simpa [AO.own] using hx
    rw [if_pos rfl] at hx
    subst hx
    refine ⟨fun k o y h1 h2 => ?_, fun p u h => ?_⟩
    · rw [own_le hle (ok.ob k o h1).1] at h2
      have := (own_lt' (ok.ob k o h1).2.2 h2).2
      omega
    · have := cell_block (ok.fw p u h)
      omega
theorem cells_of {av : AV} {v : Value} (r : R G av v) (hB : av.cellB = true) : v.cells.size = av.cells.length ∧ ∀ (i : Nat) x u, av.cells[i]? = some x → v.cells[i]? = some u → R G x u := by
  have one : ∀ (av : AV) (v : Value), R G av v → v.oneCell' = true → v.cells.size = [av].length ∧ ∀ (i : Nat) x u, [av][i]? = some x → v.cells[i]? = some u → R G x u := fun av v r h => by
    have hv : v.cells = #[v] := by cases v <;> first | rfl | cases h
    rw [hv]
    refine ⟨rfl, fun i x u a b => ?_⟩
    cases i with
    | zero => cases a; cases b; exact r
    | succ i => simp at a
  cases av with
  | sc x =>
    have := r.sc_eq
    subst this
    exact one _ _ r hB
  | ag l =>
    obtain ⟨cs, rfl, h1, h2⟩ := r.ag_of
    exact ⟨h1, h2⟩
  | tu l => cases hB
  | ls n rows => obtain ⟨A, cap, ad, u, rfl, _⟩ := r.pu_of.ls_of; exact one _ _ r rfl
  | pr cells => obtain ⟨p, u, rfl, _⟩ := r.pr_of.pr_of; exact one _ _ r rfl
  | pt k i j => obtain ⟨p, rfl, _⟩ := r.pt_of; exact one _ _ r rfl
  | sl k => exact one _ _ r r.sl_of.2
theorem cells_bd {nk : Nat} {av : AV} (b : Bd nk av) : ∀ (i : Nat) x, av.cells[i]? = some x → Bd nk x := by
  have one : ∀ av : AV, Bd nk av → ∀ (i : Nat) x, [av][i]? = some x → Bd nk x := fun av b i x h => by
    cases i with
    | zero => cases h; exact b
    | succ i => simp at h
  cases av with
  | ag l => cases b with | ag _ h => exact h
  | _ => exact one _ b
theorem WO.box {T : TypeId} {x : Operand} {av : AV} {l : List AV} {n : Nat} (ho : o.op = .box T x) (hds : o.dst = some d) (hd : Nat.blt d C.N = true) (hx : σ.ev x = some av) (hB : av.cellB = true) (hl : av.cells = l) (hn : σ.nk = n) : WO P C o σ ((σ.new (.box T l)).put d (.pt n 0 0)) := by
  intro G a w ok N Q' hN
  obtain ⟨hb, hr⟩ := ok.evr hx
  obtain ⟨h1, h2⟩ := cells_of hr hB
  obtain ⟨G', hle, hbb, ok'⟩ := ok.newBox T h1 h2 (cells_bd hb)
  unfold Oper.wp execOp
  simp only [ho, Instr.box, newVar, newRow, Sem.run_bind, Sem.run_pure, run_newObj, Result.andThen_ok]
  show N (a.put o.dst _) _
  rw [hds]
  subst hl hn
  exact hN G' _ _ (ok'.set (d := some d) (.pt σ.nk 0 0 _ hbb.symm (by simp) rfl) (.pt _ _ _ (Nat.lt_succ_self _)) fun x hx => by cases hx; exact of_blt hd)
theorem WO.alloc {T : TypeId} {z : Value} {l : List AV} {n : Nat} (ho : o.op = .alloc T) (hz : (P.info? T).bind (·.zero) = some z) (hds : o.dst = some d) (hd : Nat.blt d C.N = true) (hl : z.cells.toList.map .sc = l) (hn : σ.nk = n) : WO P C o σ ((σ.new (.box T l)).put d (.pt n 0 0)) := by
  intro G a w ok N Q' hN
  have hc : ∀ (i : Nat) av u, l[i]? = some av → z.cells[i]? = some u → R G av u := fun i av u x y => by
    rw [← hl, List.getElem?_map] at x
    rw [show z.cells.toList[i]? = z.cells[i]? by simp, y] at x
    cases x
    exact .pu _ _ (.sc _)
  have hb : ∀ (i : Nat) av, l[i]? = some av → Bd σ.nk av := fun i av x => by
    rw [← hl, List.getElem?_map] at x
    cases hq : z.cells.toList[i]? with
    | none => simp [hq] at x
    | some u => simp [hq] at x; rw [← x]; exact .sc _
  obtain ⟨G', hle, hbb, ok'⟩ := ok.newBox (cells := l) (cs := z.cells) T (by rw [← hl]; simp) hc hb
  cases hi : P.info? T with
  | none => simp [hi] at hz
  | some i =>
    simp [hi] at hz
    unfold Oper.wp execOp
    simp only [ho, Instr.alloc, zeroValue, typeInfo, newVar, newRow, Sem.run_bind, Sem.run_pure, run_newObj, Result.andThen_ok, run_program, hi, hz]
    show N (a.put o.dst _) _
    rw [hds]
    subst hn
    exact hN G' _ _ (ok'.set (d := some d) (.pt σ.nk 0 0 _ hbb.symm (by simp) rfl) (.pt _ _ _ (Nat.lt_succ_self _)) fun x hx => by cases hx; exact of_blt hd)
end
end Go.Proofs.YteldgllgagjciaaGreat

/- A walk that knows values as trees: stores. -/
namespace Go.Proofs.YteldgllgagjciaaGreat
open Go.RowKit
set_option linter.unusedVariables false
set_option linter.unusedSimpArgs false
def putL {α : Type} : Nat → List α → List α → List α
  | 0, [], cs => cs
  | 0, x :: l, _ :: cs => x :: putL 0 l cs
  | j + 1, l, c :: cs => c :: putL j l cs
  | _, _, [] => []
theorem putL_eq {α : Type} : ∀ (j : Nat) (l cs : List α), j + l.length ≤ cs.length → putL j l cs = cs.take j ++ l ++ cs.drop (j + l.length)
  | 0, [], cs, _ => by simp [putL]
  | 0, x :: l, [], h => by simp at h
  | 0, x :: l, c :: cs, h => by
    have := putL_eq 0 l cs (by simp at h ⊢; omega)
    simp [putL, this]
  | j + 1, l, [], h => by simp at h
  | j + 1, l, c :: cs, h => by
    have := putL_eq j l cs (by simp at h; omega)
    simp [putL, this, Nat.add_right_comm]
theorem putL_len {α : Type} {j : Nat} {l cs : List α} (h : j + l.length ≤ cs.length) : (putL j l cs).length = cs.length := by
  rw [putL_eq j l cs h]; simp; omega
theorem putL_at {α : Type} {j : Nat} {l cs : List α} (h : j + l.length ≤ cs.length) (i : Nat) : (putL j l cs)[i]? = if j ≤ i ∧ i < j + l.length then l[i - j]? else cs[i]? := by
  rw [putL_eq j l cs h]
  by_cases h1 : i < j
  · rw [if_neg (by omega), List.append_assoc, List.getElem?_append_left (by simp; omega), List.getElem?_take_of_lt h1]
  · by_cases h2 : i < j + l.length
    · rw [if_pos (by omega), List.getElem?_append_left (by simp; omega), List.getElem?_append_right (by simp; omega)]
      simp [Nat.min_eq_left (show j ≤ cs.length by omega)]
    · rw [if_neg (by omega), List.getElem?_append_right (by simp; omega), List.getElem?_drop]
      congr 1; simp; omega
/-- Two lists that stand for each other, one part put anew. -/
theorem putL_rel {α β : Type} (Q : α → β → Prop) {j : Nat} {l cs : List α} {m ds : List β} (h : j + l.length ≤ cs.length) (hm : m.length = l.length) (hd : ds.length = cs.length)
    (h1 : ∀ (i : Nat) x y, l[i]? = some x → m[i]? = some y → Q x y) (h2 : ∀ (i : Nat) x y, cs[i]? = some x → ds[i]? = some y → Q x y) : ∀ (i : Nat) x y, (putL j l cs)[i]? = some x → (putL j m ds)[i]? = some y → Q x y := by
  intro i x y hx hy
  rw [putL_at h] at hx
  rw [putL_at (by omega)] at hy
  rw [hm] at hy
  by_cases e : j ≤ i ∧ i < j + l.length
  · rw [if_pos e] at hx hy; exact h1 _ _ _ hx hy
  · rw [if_neg e] at hx hy; exact h2 _ _ _ hx hy
theorem flat_put {n : Nat} : ∀ (vs : List (List Value)), (∀ r ∈ vs, r.length = n) → ∀ (i j : Nat) (r l : List Value), vs[i]? = some r → j + l.length ≤ n → (vs.set i (putL j l r)).flatten = putL (i * n + j) l vs.flatten := by
  intro vs
  induction vs with
  | nil => intro _ i j r l h; simp at h
  | cons v t ih =>
    intro hn i j r l h hj
    have hv : v.length = n := hn v (by simp)
    cases i with
    | zero =>
      obtain rfl : v = r := by simpa using h
      have hf : j + l.length ≤ (v ++ t.flatten).length := by simp; omega
      rw [List.set_cons_zero, List.flatten_cons, List.flatten_cons, Nat.zero_mul, Nat.zero_add, putL_eq j l v (by omega), putL_eq j l _ hf]
      simp only [List.append_assoc]
      rw [List.take_append_of_le_length (by omega), List.drop_append_of_le_length (by omega)]
    | succ i =>
      have ht : ∀ r ∈ t, r.length = n := fun r hr => hn r (by simp [hr])
      have h' : t[i]? = some r := by simpa using h
      have hi : i < t.length := (List.getElem?_eq_some_iff.1 h').1
      have hfl : t.flatten.length = t.length * n := flatten_len ht
      have hle : i * n + n ≤ t.length * n := by
        have : (i + 1) * n ≤ t.length * n := Nat.mul_le_mul_right n hi
        rw [Nat.succ_mul] at this; exact this
      rw [List.set_cons_succ, List.flatten_cons, List.flatten_cons, ih ht i j r l h' hj, Nat.succ_mul,
        putL_eq _ l t.flatten (by rw [hfl]; omega), putL_eq _ l (v ++ t.flatten) (by simp only [List.length_append]; rw [hfl]; omega)]
      have e1 : List.take (i * n + n + j) v = v := List.take_of_length_le (by omega)
      have e2 : List.drop (i * n + n + j + l.length) v = [] := List.drop_eq_nil_of_le (by omega)
      rw [List.take_append, List.drop_append, e1, e2]
      rw [show i * n + n + j - v.length = i * n + j by omega, show i * n + n + j + l.length - v.length = i * n + j + l.length by omega]
      simp
def AV.pu0 : AV → Bool
  | .sc _ => true
  | .ls _ _ => true
  | .pr _ => true
  | _ => false
theorem pu0_bd {av : AV} (h : av.pu0 = true) (nk : Nat) : Bd nk av := by
  cases av <;> first | exact .sc _ | exact .ls _ _ | exact .pr _ | cases h
def AO.put : AO → Nat → Nat → List AV → Option AO
  | .box T cells, 0, j, l => bif Nat.ble (j + l.length) cells.length then some (.box T (putL j l cells)) else none
  | .box _ _, _ + 1, _, _ => none
  | .row T n rows, i, j, l =>
    match rows[i]? with
    | some r => if j + l.length ≤ r.length ∧ l.all AV.pu0 = true then some (.row T n (rows.set i (putL j l r))) else none
    | none => none
section
variable {P : Program} {C : Cx} {σ σ' : St} {G G' : Gh} {a : Act} {w w' : World} {o : Oper} {d : Tmp}
theorem below_setRow {B g : Nat} (w : World) (cur : Array Value) (h : B ≤ g) : Below B w (w.setRow g cur) :=
  ⟨rfl, rfl, rfl, by simp, fun k hk => setRow_other w g k cur (by omega)⟩
theorem Ok.write (ok : Ok C σ G a w) {k g : Nat} {ob ob' : AO} (cur : Array Value) (hk : look k σ.M = some ob) (hg : ob.own G k = some g) (hob : ObAt C.w0.heap.size G (w.setRow g cur) k ob') (hown : ob'.own G k = ob.own G k) (hbd : ob'.bd σ.nk) :
    Ok C (σ.upd k ob') G a (w.setRow g cur) := by
  have hB := (own_lt' (ok.ob k ob hk).2.2 hg).1
  have hl : ∀ k' o, look k' (σ.upd k ob').M = some o → (k' = k ∧ o = ob') ∨ (k' ≠ k ∧ look k' σ.M = some o) := fun k' o hx => by
    by_cases e : k' = k
    · subst e
      rw [show look k' (σ.upd k' ob').M = some ob' from look_set_same] at hx
      cases hx
      exact .inl ⟨rfl, rfl⟩
    · rw [show look k' (σ.upd k ob').M = look k' σ.M from look_set_other e] at hx
      exact .inr ⟨e, hx⟩
  have hne : ∀ k' o x, k' ≠ k → look k' σ.M = some o → o.own G k' = some x → x ≠ g := fun k' o x e h1 h2 h3 => by
    subst h3; exact e (ok.dj k' o k ob x h1 hk h2 hg)
  refine ⟨ok.sz, ok.df, ok.tm, ok.bel.trans (below_setRow w cur hB), fun p u h => ?_, ok.f0, ok.f1, ?_, ?_, ?_⟩
  · rw [World.cell?_of_block (setRow_other w g p.block cur (ok.dF k ob g p u hk hg h))]; exact ok.fw p u h
  · intro k' o x
    rcases hl k' o x with ⟨rfl, rfl⟩ | ⟨e, y⟩
    · exact ⟨(ok.ob k' ob hk).1, hbd, hob⟩
    · exact ⟨(ok.ob k' o y).1, (ok.ob k' o y).2.1, (ok.ob k' o y).2.2.keep (Gh.le.refl _ _) (ok.ob k' o y).1 (ok.ob k' o y).2.1 fun x hx => setRow_other w g x cur (hne k' o x e y hx)⟩
  · intro k1 o1 k2 o2 x h1 h2 h3 h4
    rcases hl k1 o1 h1 with ⟨rfl, rfl⟩ | ⟨e1, y1⟩
    · rw [hown, hg] at h3
      rcases hl k2 o2 h2 with ⟨rfl, rfl⟩ | ⟨e2, y2⟩
      · rfl
      · cases h3
        exact absurd rfl (hne k2 o2 g e2 y2 h4)
    · rcases hl k2 o2 h2 with ⟨rfl, rfl⟩ | ⟨e2, y2⟩
      · rw [hown, hg] at h4
        cases h4
        exact absurd rfl (hne k1 o1 g e1 y1 h3)
      · exact ok.dj k1 o1 k2 o2 x y1 y2 h3 h4
  · intro k1 o1 x p u h1 h2 h3
    rcases hl k1 o1 h1 with ⟨rfl, rfl⟩ | ⟨e1, y1⟩
    · rw [hown] at h2; exact ok.dF k1 ob x p u hk h2 h3
    · exact ok.dF k1 o1 x p u y1 h2 h3
theorem oneB_of {av : AV} {v : Value} (r : R G av v) (h : av.oneB = true) : v.oneCell' = true := by
  cases av with
  | sc x => rw [r.sc_eq]; exact h
  | ag l => cases h
  | tu l => cases h
  | ls n rows => obtain ⟨A, cap, ad, u, rfl, _⟩ := r.pu_of.ls_of; rfl
  | pr cells => obtain ⟨p, u, rfl, _⟩ := r.pr_of.pr_of; rfl
  | pt k i j => obtain ⟨p, rfl, _⟩ := r.pt_of; rfl
  | sl k => exact r.sl_of.2
theorem take_put {cur : List Value} {K off : Nat} {l : List Value} (h : off + l.length ≤ K) (hK : K ≤ cur.length) : (putL off l cur).take K = putL off l (cur.take K) := by
  apply List.ext_getElem?
  intro i
  have hl : off + l.length ≤ (cur.take K).length := by simp; omega
  rw [putL_at hl]
  by_cases e : i < K
  · rw [List.getElem?_take_of_lt e, putL_at (by omega)]
    by_cases e2 : off ≤ i ∧ i < off + l.length
    · rw [if_pos e2, if_pos e2]
    · rw [if_neg e2, if_neg e2, List.getElem?_take_of_lt e]
  · rw [if_neg (by omega), List.getElem?_eq_none (by simp; omega), List.getElem?_eq_none (by simp; omega)]
theorem WO.store {T m : Nat} {x y : Operand} {k i j : Nat} {ob ob' : AO} {av : AV} {l : List AV} (ho : o.op = .store T x y) (hds : o.dst = none) (hn : sizeB P T = some m) (hx : σ.ev x = some (.pt k i j)) (hk : look k σ.M = some ob) (hy : σ.ev y = some av)
    (hB : av.cellB = true) (hl : av.cells = l) (hm : l.length = m) (h1 : l.all AV.oneB = true) (hp : ob.put i j l = some ob') : WO P C o σ (σ.upd k ob') := by
  intro G a w ok N Q' hN
  obtain ⟨p, ep, p1, p2, p3⟩ := (ok.evr hx).2.pt_of
  obtain ⟨hb, hr⟩ := ok.evr hy
  obtain ⟨c1, c2⟩ := cells_of hr hB
  have cb := cells_bd hb
  rw [hl] at c1 c2 cb
  obtain ⟨v, hv⟩ : ∃ v, a.eval y = v := ⟨_, rfl⟩
  rw [hv] at c1 c2
  have hone : ∀ u ∈ v.cells.toList, u.oneCell' = true := fun u hu => by
    obtain ⟨q, hq, rfl⟩ := List.getElem_of_mem hu
    have hq' : q < l.length := by simpa [c1] using hq
    exact oneB_of (c2 q l[q] _ (List.getElem?_eq_getElem hq') (by simp at hq; simp [hq])) (List.all_eq_true.1 h1 _ (List.getElem_mem hq'))
  obtain rfl := addr_eq p1 p2 p3
  have fin : ∀ (g : Nat) (cur : Array Value) (t : TypeId), w.heap[g]? = some (.cells cur t (0, 0)) → g = G.b k → i * G.n k + j + l.length ≤ cur.size → ob.own G k = some g → ob'.own G k = ob.own G k → ob'.bd σ.nk →
      (ObAt C.w0.heap.size G (w.setRow g (putL (i * G.n k + j) v.cells.toList cur.toList).toArray) k ob') → o.wp P a w N Q' := fun g cur t hg hgb hle hown hown' hbd hob => by
    have hst := run_storeCells_at P g (i * G.n k + j) t v.cells.toList 0 cur w hg (by simp [c1]; omega) hone
    rw [Nat.add_zero, ← putL_eq _ _ _ (by simp [c1]; omega)] at hst
    unfold Oper.wp execOp
    simp only [ho, ep, hv, Instr.storeAt, Instr.sureAddr, storeVar, Sem.run_bind, Sem.run_pure, Result.andThen_ok, run_sizeB hn, ← hgb, hst]
    rw [if_neg (by rw [c1, hm]; simp)]
    simp only [Sem.run_bind, Sem.run_pure, Result.andThen_ok, hst, Oper.upon]
    rw [hds]
    exact hN G _ _ (ok.write _ hk hown hob hown' hbd)
  have hobk := ok.ob k ob hk
  cases ob with
  | box T' cells =>
    cases i with
    | succ i => simp [AO.put] at hp
    | zero =>
      simp only [AO.put] at hp
      cases hle : Nat.ble (j + l.length) cells.length with
      | false => simp [hle] at hp
      | true =>
        simp [hle] at hp
        subst hp
        have hle := Nat.le_of_ble_eq_true hle
        obtain ⟨hB', cs, hbk, hs, hc⟩ := hobk.2.2
        refine fin (G.b k) cs T' hbk rfl (by rw [hs]; simpa using hle) rfl rfl (fun q x hx => ?_) ⟨hB', _, setRow_heap w _ _ _ _ _ hbk, ?_, ?_⟩
        · rw [putL_at hle] at hx
          split at hx
          · exact cb _ x hx
          · exact hobk.2.1 _ x hx
        · simp only [Nat.zero_mul, Nat.zero_add, List.size_toArray]
          rw [putL_len (by simp [c1, hs]; exact hle), putL_len hle]; simpa using hs
        · simp only [Nat.zero_mul, Nat.zero_add, List.getElem?_toArray]
          exact putL_rel _ hle (by simpa using c1) (by simpa using hs) (fun q x y a b => c2 q x y a (by simpa using b)) (fun q x y a b => hc q x y a (by simpa using b))
  | row T' n rows =>
    simp only [AO.put] at hp
    cases hr' : rows[i]? with
    | none => simp [hr'] at hp
    | some r =>
      simp only [hr'] at hp
      by_cases hcond : j + l.length ≤ r.length ∧ l.all AV.pu0 = true
      · rw [if_pos hcond] at hp
        cases hp
        obtain ⟨hle, hpu⟩ := hcond
        obtain ⟨hn', hrl, hg, vs, h4, h5, h7, h6⟩ := hobk.2.2
        have hi : i < rows.length := (List.getElem?_eq_some_iff.1 hr').1
        have hv' : vs[i]? = some vs[i] := List.getElem?_eq_getElem (by omega)
        obtain ⟨e1, e2⟩ := h6 i r _ hr' hv'
        have hvl : ∀ r ∈ vs, r.length = n := by
          intro r' hr'
          obtain ⟨q, hq, rfl⟩ := List.getElem_of_mem hr'
          have := (h6 q rows[q] vs[q] (List.getElem?_eq_getElem (by omega)) (List.getElem?_eq_getElem hq)).1
          rw [this]; exact hrl _ (List.getElem_mem _)
        have hrn : r.length = n := hrl r (List.mem_of_getElem? hr')
        rcases h4.2 with ⟨_, e0⟩ | ⟨g, cap, cur, e, hbase, hh, hnc, hcm, hcs, ht⟩
        · omega
        · have hgb := hg g (by rw [e]; rfl)
          have hcl : v.cells.toList.length = l.length := by simpa using c1
          have hin : i * n + n ≤ vs.length * n := by
            have : (i + 1) * n ≤ vs.length * n := Nat.mul_le_mul_right n (by omega)
            rw [Nat.succ_mul] at this; exact this
          have hcap : vs.length * n ≤ cap * n := Nat.mul_le_mul_right n hnc
          have hfp := flat_put vs hvl i j vs[i] v.cells.toList hv' (by omega)
          have hvl' : ∀ r ∈ vs.set i (putL j v.cells.toList vs[i]), r.length = n := by
            intro q hq
            rcases List.mem_or_eq_of_mem_set hq with hq | rfl
            · exact hvl q hq
            · rw [putL_len (by omega)]; omega
          refine fin g cur T' hh hgb (by rw [hn', hcs]; omega) (by simp [AO.own, e, Value.ownBlock]) rfl trivial ⟨hn', ?_, hg, vs.set i (putL j v.cells.toList vs[i]), ⟨?_, .inr ⟨g, cap, _, ?_, hbase, setRow_heap w _ _ _ _ _ hh, ?_, hcm, ?_, ?_⟩⟩, by simp [h5], ?_, ?_⟩
          · intro q hq
            rcases List.mem_or_eq_of_mem_set hq with hq | rfl
            · exact hrl q hq
            · rw [putL_len (by omega)]; exact hrn
          · rw [flatten_len hvl']
          · rw [e]; simp
          · simpa using hnc
          · rw [List.size_toArray, putL_len (by rw [hn', hcl]; simp [hcs]; omega)]; simpa using hcs
          · rw [hfp, List.length_set, hn', take_put (by omega) (by simp [hcs]; omega), ht]
          · intro q hq u hu
            rcases List.mem_or_eq_of_mem_set hq with hq | rfl
            · exact h7 q hq u hu
            · obtain ⟨s, hs, rfl⟩ := List.getElem_of_mem hu
              have := putL_at (j := j) (l := v.cells.toList) (cs := vs[i]) (by omega) s
              rw [List.getElem?_eq_getElem hs] at this
              split at this
              · exact hone _ (List.mem_of_getElem? this.symm)
              · exact h7 _ (List.getElem_mem _) _ (List.mem_of_getElem? this.symm)
          · intro q x y hx hy
            by_cases eq : q = i
            · subst eq
              rw [List.getElem?_set_self (by omega)] at hx hy
              cases hx; cases hy
              refine ⟨by rw [putL_len (by omega), putL_len hle]; exact e1, putL_rel _ hle hcl e1 (fun s x y a b => ?_) e2⟩
              exact (pu0_bd (List.all_eq_true.1 hpu x (List.mem_of_getElem? a)) 0).rp (c2 s x y a (by simpa using b))
            · rw [List.getElem?_set_ne (fun h => eq h.symm)] at hx hy
              exact h6 q x y hx hy
      · rw [if_neg hcond] at hp; cases hp
end
end Go.Proofs.YteldgllgagjciaaGreat

/- A walk that knows values as trees: calls; what is kept, what is forgotten. -/
namespace Go.Proofs.YteldgllgagjciaaGreat
open Go.RowKit
set_option linter.unusedVariables false
set_option linter.unusedSimpArgs false
def AV.pu1 : AV → Bool
  | .ag l => l.all AV.pu0
  | av => av.pu0
def AV.pu2 : AV → Bool
  | .tu l => l.all AV.pu1
  | av => av.pu1
theorem pu1_bd {av : AV} (h : av.pu1 = true) (nk : Nat) : Bd nk av := by
  cases av with
  | ag l => exact .ag l fun i x hx => pu0_bd (List.all_eq_true.1 h x (List.mem_of_getElem? hx)) nk
  | sc v => exact .sc v
  | ls n rows => exact .ls n rows
  | pr cells => exact .pr cells
  | pt k i j => cases h
  | sl k => cases h
  | tu l => cases h
theorem pu2_bd {av : AV} (h : av.pu2 = true) (nk : Nat) : Bd nk av := by
  cases av with
  | tu l => exact .tu l fun i x hx => pu1_bd (List.all_eq_true.1 h x (List.mem_of_getElem? hx)) nk
  | sc v => exact .sc v
  | ls n rows => exact .ls n rows
  | pr cells => exact .pr cells
  | pt k i j => cases h
  | sl k => cases h
  | ag l => exact pu1_bd (av := .ag l) h nk
def St.evs (σ : St) : List Operand → Option (List AV)
  | [] => some []
  | x :: r =>
    match σ.ev x, St.evs σ r with
    | some av, some l => some (av :: l)
    | _, _ => none
section
variable {P : Program} {C : Cx} {σ σ' : St} {G G' : Gh} {a : Act} {w w' : World} {o : Oper} {d : Tmp}
theorem Ok.evl (ok : Ok C σ G a w) : ∀ {xs : List Operand} {l : List AV}, σ.evs xs = some l → (xs.map a.eval).length = l.length ∧ ∀ (i : Nat) av u, l[i]? = some av → (xs.map a.eval)[i]? = some u → R G av u
  | [], l, h => by cases h; exact ⟨rfl, fun i av u h => by simp at h⟩
  | x :: r, l, h => by
    unfold St.evs at h
    cases h1 : σ.ev x with
    | none => simp [h1] at h
    | some av =>
      cases h2 : σ.evs r with
      | none => simp [h1, h2] at h
      | some l' =>
        simp [h1, h2] at h
        subst h
        obtain ⟨e1, e2⟩ := ok.evl h2
        refine ⟨by simpa using e1, fun i y u hy hu => ?_⟩
        cases i with
        | zero => cases hy; cases hu; exact (ok.evr h1).2
        | succ i => exact e2 i y u (by simpa using hy) (by simpa using hu)
/-- What a call of a function with a contract leaves. -/
theorem Ok.called (ok : Ok C σ G a w) {F' : View} (hb : Below w.heap.size w w') (h1 : View.le G.F F') (h2 : ∀ p u, F' p = some u → w'.cell? p = some u) (h3 : ∀ p u, F' p = some u → G.F p = some u ∨ w.heap.size ≤ p.block) :
    Ok C σ { G with F := F' } a w' :=
  ok.world ⟨h1, fun _ _ => rfl, fun _ _ => rfl, fun _ _ => rfl⟩ (hb.mono ok.bel.size) (fun k o x p q => hb.block x (own_lt' (ok.ob k o p).2.2 q).2) h2 h3
theorem WV.call {f : FuncId} {xs : Array Operand} {ts : Array TypeId} {args : List AV} {res : AV} (ho : o.op = .call { callee := .value (.func f), args := xs, argTypes := ts }) (hc : ∀ vs w, (callFunc f vs).run P w = .ok (.enter f vs) w)
    (hx : σ.evs xs.toList = some args) (hp : args.all AV.pu2 = true) (h : Ctr P f args res) : WV P C o σ res := by
  intro G a w ok N Q' hN
  obtain ⟨e1, e2⟩ := ok.evl hx
  have hcalls := h w G.F (xs.toList.map a.eval) ok.fw ⟨e1, fun i av u p q => (pu2_bd (List.all_eq_true.1 hp av (List.mem_of_getElem? p)) 0).rp (e2 i av u p q)⟩
  unfold Oper.wp execOp
  have ev : a.eval (.func f) = .func (.func f) #[] #[] := rfl
  have e3 : (#[] ++ xs.map a.eval ++ #[] : Array Value) = (xs.toList.map a.eval).toArray := by apply Array.ext'; simp
  simp only [ho, resolve, ev, Deferred.ofValue, invoke, Sem.run_bind, Sem.run_pure, Result.andThen_ok, hc, Oper.upon, e3]
  refine hcalls.mono fun e w1 ⟨v, F', he, hb, h1, h2, h3, h4⟩ => ?_
  subst he
  exact hN v _ w1 (fun σ'' a'' ok'' => ok''.called hb h1 h2 h3) (.pu _ _ h4) (h4.bd _)
theorem WV.inv {f : FuncId} {x : Operand} {name : String} {t : TypeId} {rv : Value} {l : List AV} {xs : Array Operand} {ts : Array TypeId} {args : List AV} {res : AV} (ho : o.op = .call { callee := .invoke x name, args := xs, argTypes := ts })
    (hr : σ.ev x = some (.sc (.iface t rv))) (hc : ∀ vs w, (callMethod (.iface t rv) name vs).run P w = .ok (.enter f (#[rv] ++ vs)) w) (hrv : rv = .agg #[])
    (hx : σ.evs xs.toList = some args) (hp : args.all AV.pu2 = true) (h : Ctr P f (.ag [] :: args) res) : WV P C o σ res := by
  intro G a w ok N Q' hN
  obtain ⟨e1, e2⟩ := ok.evl hx
  subst hrv
  have hcalls := h w G.F (.agg #[] :: xs.toList.map a.eval) ok.fw ⟨by simpa using e1, fun i av u p q => by
    cases i with
    | zero => cases p; cases q; exact .ag [] #[] rfl fun i av u h => by simp at h
    | succ i =>
      have p : args[i]? = some av := by simpa using p
      exact (pu2_bd (List.all_eq_true.1 hp av (List.mem_of_getElem? p)) 0).rp (e2 i av u p (by simpa using q))⟩
  unfold Oper.wp execOp
  have e4 : (#[Value.iface t (.agg #[])] ++ xs.map a.eval : Array Value)[0]? = some (Value.iface t (.agg #[])) := by rw [Array.getElem?_append_left (by simp)]; rfl
  have e5 : (#[Value.iface t (.agg #[])] ++ xs.map a.eval : Array Value).extract 1 (#[Value.iface t (.agg #[])] ++ xs.map a.eval : Array Value).size = xs.map a.eval := by
    apply Array.ext'
    simp [List.take_of_length_le]
  simp only [ho, resolve, ok.evs hr, invoke, Sem.run_bind, Sem.run_pure, Result.andThen_ok, e4, e5, hc, Oper.upon]
  have e6 : (#[Value.agg #[]] ++ xs.map a.eval : Array Value) = (Value.agg #[] :: xs.toList.map a.eval).toArray := by
    apply Array.ext'
    first | rfl | (simp; done) | (rw [Array.toList_append]; simp; done)
  rw [e6]
  refine hcalls.mono fun e w1 ⟨v, F', he, hb, h1, h2, h3, h4⟩ => ?_
  subst he
  exact hN v _ w1 (fun σ'' a'' ok'' => ok''.called hb h1 h2 h3) (.pu _ _ h4) (h4.bd _)
end
/-! From one state to another: slots are forgotten, objects get other numbers. -/
def AV.ren0 (ρ : Nat → Nat) : AV → AV
  | .pt k i j => .pt (ρ k) i j
  | .sl k => .sl (ρ k)
  | av => av
def AV.ren (ρ : Nat → Nat) : AV → AV
  | .ag l => .ag (l.map (AV.ren0 ρ))
  | .tu l => .tu (l.map (AV.ren0 ρ))
  | av => av.ren0 ρ
def AV.fl0 : AV → Bool
  | .ag _ => false
  | .tu _ => false
  | _ => true
/-- Below nk, and no aggregate within an aggregate. -/
def AV.in0 (nk : Nat) : AV → Bool
  | .pt k _ _ => Nat.blt k nk
  | .sl k => Nat.blt k nk
  | .ag _ => false
  | .tu _ => false
  | _ => true
def AV.inn (nk : Nat) : AV → Bool
  | .ag l => l.all (AV.in0 nk)
  | .tu l => l.all (AV.in0 nk)
  | av => av.in0 nk
def AO.ren (ρ : Nat → Nat) : AO → AO
  | .box T cells => .box T (cells.map (AV.ren0 ρ))
  | .row T n rows => .row T n rows
def AO.inn (nk : Nat) : AO → Bool
  | .box _ cells => cells.all (AV.in0 nk)
  | .row _ _ _ => true
def TrT (σ : St) (ρ : Nat → Nat) (nk : Nat) : List (Nat × AV) → Prop
  | [] => True
  | x :: r => (look x.1 σ.t = some (x.2.ren ρ) ∧ x.2.inn nk = true) ∧ TrT σ ρ nk r
def TrM (σ : St) (ρ : Nat → Nat) (nk : Nat) : List (Nat × AO) → Prop
  | [] => True
  | x :: r => (look (ρ x.1) σ.M = some (x.2.ren ρ) ∧ x.2.inn nk = true ∧ Nat.blt x.1 nk = true) ∧ TrM σ ρ nk r
theorem in0_bd {nk : Nat} {av : AV} (h : av.in0 nk = true) : Bd nk av := by
  cases av with
  | sc v => exact .sc v
  | ls n rows => exact .ls n rows
  | pr cells => exact .pr cells
  | pt k i j => exact .pt k i j (of_blt h)
  | sl k => exact .sl k (of_blt h)
  | ag l => cases h
  | tu l => cases h
theorem inn_bd {nk : Nat} {av : AV} (h : av.inn nk = true) : Bd nk av := by
  cases av with
  | ag l => exact .ag l fun i x hx => in0_bd (List.all_eq_true.1 h x (List.mem_of_getElem? hx))
  | tu l => exact .tu l fun i x hx => in0_bd (List.all_eq_true.1 h x (List.mem_of_getElem? hx))
  | sc v => exact .sc v
  | ls n rows => exact .ls n rows
  | pr cells => exact .pr cells
  | pt k i j => exact .pt k i j (of_blt h)
  | sl k => exact .sl k (of_blt h)
def Gh.ren (G : Gh) (ρ : Nat → Nat) : Gh := ⟨G.F, fun k => G.b (ρ k), fun k => G.n (ρ k), fun k => G.h (ρ k)⟩
theorem R.ren0 {G : Gh} {ρ : Nat → Nat} {nk : Nat} {av : AV} {v : Value} (h : av.in0 nk = true) (r : R G (av.ren0 ρ) v) : R (G.ren ρ) av v := by
  cases av with
  | pt k i j => obtain ⟨p, rfl, a, b, c⟩ := r.pt_of; exact .pt k i j p a b c
  | sl k => obtain ⟨rfl, b⟩ := r.sl_of; exact R.sl (G := G.ren ρ) k b
  | sc x => rw [r.sc_eq]; exact .pu _ _ (.sc x)
  | ls n rows => exact .pu _ _ r.pu_of
  | pr cells => exact .pu _ _ r.pr_of
  | ag l => cases h
  | tu l => cases h
theorem R.ren_ {G : Gh} {ρ : Nat → Nat} {nk : Nat} {av : AV} {v : Value} (h : av.inn nk = true) (r : R G (av.ren ρ) v) : R (G.ren ρ) av v := by
  cases av with
  | ag l =>
    obtain ⟨cs, rfl, h1, h2⟩ := R.ag_of (l := l.map (AV.ren0 ρ)) r
    exact .ag l cs (by simpa using h1) fun i av u x y => R.ren0 (List.all_eq_true.1 h av (List.mem_of_getElem? x)) (h2 i _ u (by rw [List.getElem?_map, x]; rfl) y)
  | tu l =>
    obtain ⟨cs, rfl, h1, h2⟩ := R.tu_of (l := l.map (AV.ren0 ρ)) r
    exact .tu l cs (by simpa using h1) fun i av u x y => R.ren0 (List.all_eq_true.1 h av (List.mem_of_getElem? x)) (h2 i _ u (by rw [List.getElem?_map, x]; rfl) y)
  | pt k i j => exact R.ren0 (nk := nk) h r
  | sl k => exact R.ren0 (nk := nk) h r
  | sc x => exact R.ren0 (nk := nk) h r
  | ls n rows => exact R.ren0 (nk := nk) h r
  | pr cells => exact R.ren0 (nk := nk) h r
theorem TrT.at_ {σ : St} {ρ : Nat → Nat} {nk : Nat} : ∀ {t : List (Nat × AV)}, TrT σ ρ nk t → ∀ i av, look i t = some av → look i σ.t = some (av.ren ρ) ∧ av.inn nk = true
  | [], _, i, av, h => by cases h
  | x :: r, ht, i, av, h => by
    by_cases e : i = x.1
    · subst e
      rw [show look x.1 (x :: r) = some x.2 from look_set_same] at h
      cases h
      exact ht.1
    · rw [show look i (x :: r) = look i r from look_set_other e] at h
      exact TrT.at_ ht.2 i av h
theorem TrM.at_ {σ : St} {ρ : Nat → Nat} {nk : Nat} : ∀ {t : List (Nat × AO)}, TrM σ ρ nk t → ∀ i ob, look i t = some ob → look (ρ i) σ.M = some (ob.ren ρ) ∧ ob.inn nk = true ∧ i < nk
  | [], _, i, av, h => by cases h
  | x :: r, ht, i, av, h => by
    by_cases e : i = x.1
    · subst e
      rw [show look x.1 (x :: r) = some x.2 from look_set_same] at h
      cases h
      exact ⟨ht.1.1, ht.1.2.1, of_blt ht.1.2.2⟩
    · rw [show look i (x :: r) = look i r from look_set_other e] at h
      exact TrM.at_ ht.2 i av h
theorem own_ren {G : Gh} {ρ : Nat → Nat} {k : Nat} (ob : AO) : ob.own (G.ren ρ) k = (ob.ren ρ).own G (ρ k) := by cases ob <;> rfl
/-- No two objects of the new state are the same object of the old one. -/
def injB (ρ : Nat → Nat) : List Nat → Bool
  | [] => true
  | k :: r => r.all (fun q => Nat.beq k q || !Nat.beq (ρ k) (ρ q)) && injB ρ r
theorem injB_spec {ρ : Nat → Nat} : ∀ {l : List Nat}, injB ρ l = true → ∀ k q, k ∈ l → q ∈ l → ρ k = ρ q → k = q
  | [], _, k, q, h, _ => by cases h
  | x :: r, h, k, q, hk, hq => fun e => by
    simp only [injB, Bool.and_eq_true, List.all_eq_true, Bool.or_eq_true, Bool.not_eq_true'] at h
    rcases List.mem_cons.1 hk with hk1 | hk1
    · rcases List.mem_cons.1 hq with hq1 | hq1
      · rw [hk1, hq1]
      · rcases h.1 q hq1 with y | y
        · rw [hk1]; exact Nat.eq_of_beq_eq_true y
        · rw [← hk1, e] at y; simp at y
    · rcases List.mem_cons.1 hq with hq1 | hq1
      · rcases h.1 k hk1 with y | y
        · rw [hq1]; exact (Nat.eq_of_beq_eq_true y).symm
        · rw [← hq1, e] at y; simp at y
      · exact injB_spec h.2 k q hk1 hq1 e
theorem look_mem {α : Type} : ∀ {l : List (Nat × α)} {i : Nat} {x : α}, look i l = some x → i ∈ l.map (·.1)
  | [], i, x, h => by cases h
  | y :: r, i, x, h => by
    by_cases e : i = y.1
    · subst e; simp
    · rw [show look i (y :: r) = look i r from look_set_other e] at h
      have := look_mem h
      simp only [List.map_cons, List.mem_cons]; exact .inr this
theorem Tr.ren {C : Cx} {σ σ' : St} (ρ : Nat → Nat) (ht : TrT σ ρ σ'.nk σ'.t) (hm : TrM σ ρ σ'.nk σ'.M) (hi : injB ρ (σ'.M.map (·.1)) = true) : Tr C σ σ' := fun G a w ok => by
  have hob : ∀ k ob, look k σ'.M = some ob → k < σ'.nk ∧ ob.bd σ'.nk ∧ ObAt C.w0.heap.size (G.ren ρ) w k ob := fun k ob h => by
    obtain ⟨h1, h2, h3⟩ := hm.at_ k ob h
    obtain ⟨g1, g2, g3⟩ := ok.ob _ _ h1
    cases ob with
    | box T cells =>
      refine ⟨h3, fun i av x => in0_bd (List.all_eq_true.1 h2 av (List.mem_of_getElem? x)), ?_⟩
      obtain ⟨b1, cs, b2, b3, b4⟩ := g3
      exact ⟨b1, cs, b2, by simpa using b3, fun i av u x y => R.ren0 (List.all_eq_true.1 h2 av (List.mem_of_getElem? x)) (b4 i _ u (by rw [List.getElem?_map, x]; rfl) y)⟩
    | row T n rows => exact ⟨h3, trivial, g3⟩
  refine ⟨G.ren ρ, ok.sz, ok.df, fun i av h => ?_, ok.bel, ok.fw, ok.f0, ok.f1, hob, ?_, ?_⟩
  · obtain ⟨h1, h2⟩ := ht.at_ i av h
    exact ⟨(ok.tm i _ h1).1, inn_bd h2, R.ren_ h2 (ok.tm i _ h1).2.2⟩
  · intro k o k' o' x h1 h2 h3 h4
    rw [own_ren] at h3 h4
    have := ok.dj _ _ _ _ x (hm.at_ k o h1).1 (hm.at_ k' o' h2).1 h3 h4
    exact injB_spec hi k k' (look_mem h1) (look_mem h2) this
  · intro k o x p u h1 h2 h3
    rw [own_ren] at h2
    exact ok.dF _ _ x p u (hm.at_ k o h1).1 h2 h3
end Go.Proofs.YteldgllgagjciaaGreat

/- A walk that knows values as trees: slices of its own. -/
namespace Go.Proofs.YteldgllgagjciaaGreat
open Go.RowKit
set_option linter.unusedVariables false
set_option linter.unusedSimpArgs false
def rem {α : Type} (k : Nat) : List (Nat × α) → List (Nat × α)
  | [] => []
  | x :: r => bif Nat.beq k x.1 then rem k r else x :: rem k r
theorem look_rem {α : Type} (k i : Nat) : ∀ (l : List (Nat × α)), look i (rem k l) = if i = k then none else look i l
  | [] => by simp [rem, look]
  | x :: r => by
    have ih := look_rem k i r
    by_cases e : k = x.1
    · have hb : Nat.beq k x.1 = true := by rw [e]; simp
      simp only [rem, hb, cond_true, ih]
      by_cases e2 : i = k
      · rw [if_pos e2, if_pos e2]
      · rw [if_neg e2, if_neg e2, look_set_other (fun h => e2 (h.trans e.symm))]
    · have hb : Nat.beq k x.1 = false := by
        cases hb : Nat.beq k x.1 with
        | false => rfl
        | true => exact absurd (Nat.eq_of_beq_eq_true hb) e
      simp only [rem, hb, cond_false]
      by_cases e3 : i = x.1
      · subst e3
        rw [show look x.1 (x :: rem k r) = some x.2 from look_set_same, show look x.1 (x :: r) = some x.2 from look_set_same, if_neg (fun h => e h.symm)]
      · rw [show look i (x :: rem k r) = look i (rem k r) from look_set_other e3, show look i (x :: r) = look i r from look_set_other e3, ih]
def St.drop (σ : St) (k : Nat) : St := { σ with M := rem k σ.M }
/-- What an operand's slice reads as, for an append: an own one, one that is never written again. -/
def St.src (σ : St) (n : Nat) : AV → Option (List (List AV))
  | .ls m rows => bif Nat.beq m n && Nat.blt 0 m then some rows else none
  | .sl k =>
    match look k σ.M with
    | some (.row _ m rows) => bif Nat.beq m n && Nat.blt 0 m then some rows else none
    | _ => none
  | _ => none
section
variable {P : Program} {C : Cx} {σ σ' : St} {G G' : Gh} {a : Act} {w w' : World} {o : Oper} {d : Tmp}
theorem Ok.drop_ (ok : Ok C σ G a w) (k : Nat) : Ok C (σ.drop k) G a w := by
  have hl : ∀ i ob, look i (σ.drop k).M = some ob → i ≠ k ∧ look i σ.M = some ob := fun i ob h => by
    rw [show look i (σ.drop k).M = _ from look_rem k i σ.M] at h
    by_cases e : i = k
    · rw [if_pos e] at h; cases h
    · rw [if_neg e] at h; exact ⟨e, h⟩
  exact ⟨ok.sz, ok.df, ok.tm, ok.bel, ok.fw, ok.f0, ok.f1, fun i ob h => ok.ob i ob (hl i ob h).2, fun i o i' o' x h h' => ok.dj i o i' o' x (hl i o h).2 (hl i' o' h').2, fun i o x p u h => ok.dF i o x p u (hl i o h).2⟩
/-- A new slice of its own. -/
theorem Ok.newRow (ok : Ok C σ G a w) {T : TypeId} {n : Nat} {rows : List (List AV)} {v : Value} {vs : List (List Value)} {xo : Option Nat} (hrl : ∀ r ∈ rows, r.length = n) (hb : Below C.w0.heap.size w w')
    (hblk : ∀ x, x < w.heap.size → some x ≠ xo → w'.heap[x]? = w.heap[x]?)
    (hxo : ∀ x, xo = some x → (∀ k o y, look k σ.M = some o → o.own G k = some y → y ≠ x) ∧ ∀ p u, G.F p = some u → p.block ≠ x)
    (hown : w'.ownsRow C.w0.heap.size T n v vs.length vs.flatten) (hvo : v.ownBlock = xo ∨ v.ownBlock = some w.heap.size) (hlen : vs.length = rows.length) (h1 : ∀ r ∈ vs, ∀ u ∈ r, u.oneCell' = true)
    (hrel : ∀ (i : Nat) r r', rows[i]? = some r → vs[i]? = some r' → RL G.F r r') :
    ∃ G', G.le G' σ.nk ∧ G'.h σ.nk = v ∧ v.oneCell' = true ∧ Ok C (σ.new (.row T n rows)) G' a w' := by
  have hle : G.le { G with b := fun k => if k = σ.nk then v.ownBlock.getD 0 else G.b k, n := fun k => if k = σ.nk then n else G.n k, h := fun k => if k = σ.nk then v else G.h k } σ.nk :=
    ⟨fun _ _ h => h, fun k hk => if_neg (by omega), fun k hk => if_neg (by omega), fun k hk => if_neg (by omega)⟩
  have hvone : v.oneCell' = true := by rcases hown.2 with ⟨e, _⟩ | ⟨g, cap, cur, e, _⟩ <;> rw [e] <;> rfl
  have hne : ∀ k o x, look k σ.M = some o → o.own G k = some x → some x ≠ xo := fun k o x h1 h2 e => (hxo x e.symm).1 k o x h1 h2 rfl
  have hnf : ∀ p u, G.F p = some u → some p.block ≠ xo := fun p u h e => (hxo p.block e.symm).2 p u h rfl
  have ok1 := ok.world hle hb (fun k o x h1 h2 => hblk x (own_lt' (ok.ob k o h1).2.2 h2).2 (hne k o x h1 h2)) (fun p u h => (World.cell?_of_block (hblk _ (cell_block (ok.fw p u h)) (hnf p u h))).trans (ok.fw p u h)) (fun _ _ h => .inl h)
  refine ⟨_, hle, if_pos rfl, hvone, ok1.add (ob := .row T n rows) ⟨if_pos rfl, hrl, fun g hg => ?_, vs, ?_, hlen, h1, hrel⟩ trivial fun x hx => ?_⟩
  · have hg : v.ownBlock = some g := by simpa using hg
    show g = if σ.nk = σ.nk then v.ownBlock.getD 0 else G.b σ.nk
    rw [if_pos rfl, hg]; rfl
  · show w'.ownsRow C.w0.heap.size T n (if σ.nk = σ.nk then v else G.h σ.nk) vs.length vs.flatten
    rw [if_pos rfl]; exact hown
  · have hx : v.ownBlock = some x := by simpa [AO.own] using hx
    refine ⟨fun k o y h1 h2 => ?_, fun p u h => ?_⟩
    · rw [own_le hle (ok.ob k o h1).1] at h2
      rcases hvo with e | e
      · exact (hxo x (e.symm.trans hx)).1 k o y h1 h2
      · have := (own_lt' (ok.ob k o h1).2.2 h2).2
        rw [e] at hx; cases hx; omega
    · rcases hvo with e | e
      · exact (hxo x (e.symm.trans hx)).2 p u h
      · have := cell_block (ok.fw p u h)
        rw [e] at hx; cases hx; omega
/-- What a source reads as. -/
theorem Ok.src_ (ok : Ok C σ G a w) {n : Nat} {av : AV} {rows : List (List AV)} {v : Value} (hs : σ.src n av = some rows) (r : R G av v) :
    ∃ A c, ∃ l : List (List Value), v = .slice A rows.length c ∧ l.length = rows.length ∧ Rd w w.heap.size n A l ∧ (∀ r ∈ l, r.length = n) ∧ (∀ r ∈ l, ∀ u ∈ r, u.oneCell' = true) ∧ (∀ r ∈ rows, r.length = n) ∧ ∀ (i : Nat) r r', rows[i]? = some r → l[i]? = some r' → RL G.F r r' := by
  cases av with
  | ls m rows' =>
    simp only [St.src] at hs
    cases hmn : Nat.beq m n && Nat.blt 0 m with
    | true =>
      rw [hmn] at hs
      simp only [Bool.and_eq_true] at hmn
      have e := Nat.eq_of_beq_eq_true hmn.1
      have h0 := of_blt hmn.2
      subst e
      cases hs
      obtain ⟨A, cap, ad, u, rfl, h1, h2, h3, h4, _⟩ := r.pu_of.ls_of
      have key : ∀ (i : Nat) r', ((List.range rows.length).map fun i => (List.range m).map (u i))[i]? = some r' → ∃ hi : i < rows.length, r' = (List.range m).map (u i) := fun i r' h => by
        have hi : i < rows.length := by simpa using (List.getElem?_eq_some_iff.1 h).1
        simp [hi] at h
        exact ⟨hi, h.symm⟩
      refine ⟨A, cap, (List.range rows.length).map fun i => (List.range m).map (u i), rfl, by simp, fun hp => ⟨ad, h2 (by simpa using hp), ?_, fun k r' hr' j x hx => ?_⟩, ?_, ?_, h1, fun i r r' hr hr' => ?_⟩
      · have hp : 0 < rows.length := by simpa using hp
        have hr0 : rows[0]? = some rows[0] := List.getElem?_eq_getElem hp
        have hl0 : 0 < (rows[0]'hp).length := by rw [h1 _ (List.getElem_mem hp)]; exact h0
        have := h3 0 rows[0] 0 (rows[0]'hp)[0] hr0 (List.getElem?_eq_getElem hl0)
        have := cell_block (ok.fw _ _ this.1)
        rwa [block_of_add] at this
      · obtain ⟨hi, rfl⟩ := key k r' hr'
        have hj : j < m := by simpa using (List.getElem?_eq_some_iff.1 hx).1
        simp [hj] at hx
        have hlen := h1 _ (List.getElem_mem hi)
        rw [← hx]
        exact ok.fw _ _ (h3 k rows[k] j _ (List.getElem?_eq_getElem hi) (List.getElem?_eq_getElem (by omega))).1
      · intro r' hr'
        obtain ⟨q, hq, rfl⟩ := List.getElem_of_mem hr'
        simp
      · intro r' hr' x hx
        obtain ⟨q, hq, rfl⟩ := List.getElem_of_mem hr'
        obtain ⟨hi, e⟩ := key q _ (List.getElem?_eq_getElem hq)
        rw [e] at hx
        obtain ⟨j, hj, rfl⟩ := List.mem_map.1 hx
        have hj : j < m := by simpa using hj
        have hlen := h1 _ (List.getElem_mem hi)
        exact (h3 q rows[q] j _ (List.getElem?_eq_getElem hi) (List.getElem?_eq_getElem (by omega))).2
      · obtain ⟨hi, rfl⟩ := key i r' hr'
        have hlen := h1 _ (List.mem_of_getElem? hr)
        refine ⟨by simp [hlen], fun j av x hav hx => ?_⟩
        have hj : j < m := by simpa using (List.getElem?_eq_some_iff.1 hx).1
        simp [hj] at hx
        rw [← hx]
        exact h4 i r j av hr hav
    | false => rw [hmn] at hs; cases hs
  | sl k =>
    simp only [St.src] at hs
    cases hk : look k σ.M with
    | none => simp [hk] at hs
    | some ob =>
      cases ob with
      | box T cells => simp [hk] at hs
      | row T m rows' =>
        simp only [hk] at hs
        cases hmn : Nat.beq m n && Nat.blt 0 m with
        | true =>
          rw [hmn] at hs
          simp only [Bool.and_eq_true] at hmn
          have e := Nat.eq_of_beq_eq_true hmn.1
          subst e
          cases hs
          have hob := (ok.ob k _ hk).2.2
          obtain ⟨hn, hrl, hg, vs, h4, h5, h7, h6⟩ := hob
          have hvl : ∀ r ∈ vs, r.length = m := by
            intro r' hr'
            obtain ⟨q, hq, rfl⟩ := List.getElem_of_mem hr'
            have := (h6 q rows[q] vs[q] (List.getElem?_eq_getElem (by omega)) (List.getElem?_eq_getElem hq)).1
            rw [this]; exact hrl _ (List.getElem_mem _)
          obtain ⟨A, c, hA, hrd, _, _⟩ := rd_of_own h4 hvl rfl rfl
          exact ⟨A, c, vs, by rw [r.sl_of.1, hA, h5], h5, hrd, hvl, h7, hrl, h6⟩
        | false => rw [hmn] at hs; cases hs
  | _ => cases hs
/-- append(own, ..). -/
theorem WO.append {T e n by_ k m : Nat} {z : Value} {i : TypeInfo} {x y : Operand} {rows rows2 rows' : List (List AV)} {av2 : AV} (ho : o.op = .call { callee := .builtin .append, args := #[x, y], argTypes := #[T, T] }) (hT : P.underlying T = some (.slice e))
    (hi : P.info? e = some i) (hz : i.zero = some z) (hn : i.size = n) (hby : i.bytes = by_) (hzs : z.cells.size = n) (h0 : Nat.blt 0 n = true) (hds : o.dst = some d) (hd : Nat.blt d C.N = true)
    (hx : σ.ev x = some (.sl k)) (hk : look k σ.M = some (.row e n rows)) (hy : σ.ev y = some av2) (hs : σ.src n av2 = some rows2) (hm : σ.nk = m) (hb1 : rows.length + rows2.length ≤ 1000000000) (hb2 : Nat.ble by_ 100000 = true) (hrr : rows ++ rows2 = rows') :
    WO P C o σ (((σ.drop k).new (.row e n rows')).put d (.sl m)) := by
  intro G a w ok N Q' hN
  have ex := (ok.evr hx).2.sl_of.1
  obtain ⟨A, c, l, ey, hl, hrd, hll, hl1, hrl2, hrel2⟩ := ok.src_ hs (ok.evr hy).2
  have hob := (ok.ob k _ hk).2.2
  obtain ⟨hn', hrl, hg, vs, h4, h5, h7, h6⟩ := hob
  have h0' := of_blt h0
  obtain ⟨v', w', hrun, q1, q2, q3⟩ := run_append_rd (P := P) (A := A) (l := l) C.w0.heap.size T o.type e i z n by_ hT hi hz hn hby hzs h0' _ vs.length vs.flatten h4 c hrd hll hl1 (by rw [h5, hl]; unfold maxLen; omega) (by rw [h5, hl]; exact Nat.le_trans (Nat.mul_le_mul hb1 (Nat.le_of_ble_eq_true hb2)) (by decide)) ok.bel.size
  have okd := ok.drop_ k
  have hbase : ∀ x, (G.h k).ownBlock = some x → C.w0.heap.size ≤ x := fun x hx => (own_lt' (ok.ob k _ hk).2.2 (x := x) (by simpa [AO.own] using hx)).1
  have hbel : Below C.w0.heap.size w w' := (Below.refl _ _).grown q2 ok.bel.size hbase
  obtain ⟨G', hle, hh, hone, ok'⟩ := okd.newRow (T := e) (n := n) (rows := rows ++ rows2) (vs := vs ++ l) (xo := (G.h k).ownBlock) (fun r hr => (List.mem_append.1 hr).elim (hrl r) (hrl2 r)) hbel (fun x h1 h2 => q2.block x h1 h2)
    (fun x hx => ⟨fun k' o' y h1 h2 e => by
      subst e
      have h1' : k' ≠ k ∧ look k' σ.M = some o' := by
        rw [show look k' (σ.drop k).M = _ from look_rem k k' σ.M] at h1
        by_cases e : k' = k
        · rw [if_pos e] at h1; cases h1
        · rw [if_neg e] at h1; exact ⟨e, h1⟩
      exact h1'.1 (ok.dj k' o' k _ y h1'.2 hk h2 (by simpa [AO.own] using hx)), fun p u h => ok.dF k _ x p u hk (by simpa [AO.own] using hx) h⟩)
    (by rw [List.length_append, List.flatten_append]; exact q1) q3 (by rw [List.length_append, List.length_append, h5, hl]) (fun r hr => (List.mem_append.1 hr).elim (h7 r) (hl1 r))
    (fun j r r' hr hr' => by
      by_cases hj : j < rows.length
      · rw [List.getElem?_append_left hj] at hr
        rw [List.getElem?_append_left (by omega)] at hr'
        exact h6 j r r' hr hr'
      · rw [List.getElem?_append_right (by omega)] at hr
        rw [List.getElem?_append_right (by omega), h5] at hr'
        exact hrel2 _ r r' hr hr')
  unfold Oper.wp execOp
  have hargs : (#[x, y] : Array Operand).map a.eval = #[G.h k, .slice A l.length c] := by simp [ex, ey, hl]
  simp only [ho, resolve, invoke, builtin, Sem.run_bind, Sem.run_pure, Result.andThen_ok, hargs, hrun, Oper.upon]
  rw [hds]
  subst hm hrr
  have hh' : G'.h σ.nk = v' := hh
  exact hN G' _ _ (ok'.set (d := some d) (hh' ▸ R.sl (G := G') σ.nk (by rw [hh']; exact hone)) (.sl _ (Nat.lt_succ_self _)) fun x hx => by cases hx; exact of_blt hd)
/-- A nil slice is one of its own. -/
theorem Tr.nil {t : Tmp} {m : Nat} (T : TypeId) (n : Nat) (h : look t σ.t = some (.sc (.slice none 0 0))) (hm : σ.nk = m) : Tr C σ ((σ.new (.row T n [])).put t (.sl m)) := fun G a w ok => by
  obtain ⟨G', hle, hh, hone, ok'⟩ := ok.newRow (w' := w) (T := T) (n := n) (rows := []) (v := .slice none 0 0) (vs := []) (xo := none) (by simp) (Below.refl _ _) (fun _ _ _ => rfl) (fun x h => by cases h) ⟨by simp, .inl ⟨rfl, rfl⟩⟩ (.inl rfl) rfl (by simp) (fun i r r' h => by simp at h)
  have h1 := ok.tm t _ h
  subst hm
  refine ⟨G', ok'.sz, ok'.df, fun i av hx => ?_, ok'.bel, ok'.fw, ok'.f0, ok'.f1, ok'.ob, ok'.dj, ok'.dF⟩
  by_cases e : i = t
  · subst e
    rw [show look i (St.put (σ.new (.row T n [])) i (.sl σ.nk)).t = some (.sl σ.nk) from look_set_same] at hx
    cases hx
    refine ⟨h1.1, .sl _ (Nat.lt_succ_self _), ?_⟩
    rw [h1.2.2.sc_eq, ← hh]
    exact R.sl (G := G') σ.nk (by rw [hh]; exact hone)
  · rw [show look i (St.put (σ.new (.row T n [])) t (.sl σ.nk)).t = look i σ.t from look_set_other e] at hx
    exact ok'.tm i av hx
end
end Go.Proofs.YteldgllgagjciaaGreat

/- A walk that knows values as trees: slices that are made; a slice of its own that is never written again. -/
namespace Go.Proofs.YteldgllgagjciaaGreat
open Go.RowKit
set_option linter.unusedVariables false
set_option linter.unusedSimpArgs false
def AV.frz0 (k n : Nat) (rows : List (List AV)) : AV → AV
  | .sl q => bif Nat.beq q k then .ls n rows else .sl q
  | av => av
def AV.frz (k n : Nat) (rows : List (List AV)) : AV → AV
  | .ag l => .ag (l.map (AV.frz0 k n rows))
  | .tu l => .tu (l.map (AV.frz0 k n rows))
  | av => av.frz0 k n rows
def AO.frz (k n : Nat) (rows : List (List AV)) : AO → AO
  | .box T cells => .box T (cells.map (AV.frz0 k n rows))
  | ob => ob
def mapS {α β : Type} (f : α → β) : List (Nat × α) → List (Nat × β)
  | [] => []
  | x :: r => (x.1, f x.2) :: mapS f r
theorem look_mapS {α β : Type} (f : α → β) (i : Nat) : ∀ (l : List (Nat × α)), look i (mapS f l) = (look i l).map f
  | [] => rfl
  | x :: r => by
    by_cases e : i = x.1
    · subst e
      rw [show look x.1 (x :: r) = some x.2 from look_set_same]
      exact look_set_same
    · rw [show look i (x :: r) = look i r from look_set_other e, ← look_mapS f i r]
      exact look_set_other e
def St.freeze (σ : St) (k n : Nat) (rows : List (List AV)) : St := ⟨mapS (AV.frz k n rows) σ.t, mapS (AO.frz k n rows) (rem k σ.M), σ.nk⟩
section
variable {P : Program} {C : Cx} {σ σ' : St} {G G' : Gh} {a : Act} {w w' : World} {o : Oper} {d : Tmp}
theorem frz0_R {k n : Nat} {rows : List (List AV)} {av : AV} {v : Value} (h : R G (.ls n rows) (G.h k)) (r : R G av v) : R G (av.frz0 k n rows) v := by
  cases av with
  | sl q =>
    simp only [AV.frz0]
    cases e : Nat.beq q k with
    | true => obtain rfl := Nat.eq_of_beq_eq_true e; rw [r.sl_of.1]; exact h
    | false => exact r
  | _ => exact r
theorem frz0_bd {k n nk : Nat} {rows : List (List AV)} {av : AV} (b : Bd nk av) : Bd nk (av.frz0 k n rows) := by
  cases av with
  | sl q =>
    simp only [AV.frz0]
    cases e : Nat.beq q k with
    | true => exact .ls _ _
    | false => exact b
  | _ => exact b
theorem frz_R {k n : Nat} {rows : List (List AV)} {av : AV} {v : Value} (h : R G (.ls n rows) (G.h k)) (r : R G av v) : R G (av.frz k n rows) v := by
  cases av with
  | ag l =>
    obtain ⟨cs, rfl, h1, h2⟩ := r.ag_of
    refine .ag _ cs (by simpa using h1) fun i av u x y => ?_
    rw [List.getElem?_map] at x
    cases hx : l[i]? with
    | none => simp [hx] at x
    | some b => simp [hx] at x; rw [← x]; exact frz0_R h (h2 i b u hx y)
  | tu l =>
    obtain ⟨cs, rfl, h1, h2⟩ := r.tu_of
    refine .tu _ cs (by simpa using h1) fun i av u x y => ?_
    rw [List.getElem?_map] at x
    cases hx : l[i]? with
    | none => simp [hx] at x
    | some b => simp [hx] at x; rw [← x]; exact frz0_R h (h2 i b u hx y)
  | sc x => exact r
  | ls m rs => exact r
  | pr cells => exact r
  | pt q i j => exact r
  | sl q => exact frz0_R (av := .sl q) h r
theorem frz_bd {k n nk : Nat} {rows : List (List AV)} {av : AV} (b : Bd nk av) : Bd nk (av.frz k n rows) := by
  cases av with
  | ag l =>
    refine .ag _ fun i x hx => ?_
    rw [List.getElem?_map] at hx
    cases hq : l[i]? with
    | none => simp [hq] at hx
    | some y => simp [hq] at hx; rw [← hx]; cases b with | ag _ hb => exact frz0_bd (hb i y hq)
  | tu l =>
    refine .tu _ fun i x hx => ?_
    rw [List.getElem?_map] at hx
    cases hq : l[i]? with
    | none => simp [hq] at hx
    | some y => simp [hq] at hx; rw [← hx]; cases b with | tu _ hb => exact frz0_bd (hb i y hq)
  | sc x => exact b
  | ls m rs => exact b
  | pr cells => exact b
  | pt q i j => exact b
  | sl q => exact frz0_bd (av := .sl q) b
/-- A slice of its own is written no more. -/
theorem Tr.freeze (k : Nat) {T n : Nat} {rows : List (List AV)} (hk : look k σ.M = some (.row T n rows)) : Tr C σ (σ.freeze k n rows) := fun G a w ok => by
  obtain ⟨hkn, _, hob⟩ := ok.ob k _ hk
  have hob' := hob
  obtain ⟨hn, hrl, hg, vs, h4, h5, h7, h6⟩ := hob
  have hvl : ∀ r ∈ vs, r.length = n := by
    intro r' hr'
    obtain ⟨q, hq, rfl⟩ := List.getElem_of_mem hr'
    have := (h6 q rows[q] vs[q] (List.getElem?_eq_getElem (by omega)) (List.getElem?_eq_getElem hq)).1
    rw [this]; exact hrl _ (List.getElem_mem _)
  obtain ⟨A, c, hA, hrd, hat, hcap⟩ := rd_of_own h4 hvl rfl rfl
  have hcap : rows.length ≤ c := by rw [← h5]; exact hcap
  let F' : View := fun p => if some p.block = (G.h k).ownBlock then w.cell? p else G.F p
  have hF : G.F.le F' := fun p u h => by
    show (if _ then _ else _) = _
    rw [if_neg (fun e => ok.dF k _ p.block p u hk (by simpa [AO.own] using e.symm) h rfl)]; exact h
  have hFn : ∀ p u, F' p = some u → G.F p = some u ∨ (some p.block = (G.h k).ownBlock ∧ w.cell? p = some u) := fun p u h => by
    have h : (if some p.block = (G.h k).ownBlock then w.cell? p else G.F p) = some u := h
    by_cases e : some p.block = (G.h k).ownBlock
    · rw [if_pos e] at h; exact .inr ⟨e, h⟩
    · rw [if_neg e] at h; exact .inl h
  have hls : RP F' (.ls n rows) (G.h k) := by
    rw [hA, h5]
    by_cases hp : 0 < rows.length
    · obtain ⟨c2, hb2⟩ := hob'.row_base hp
      rw [hb2] at hA
      injection hA with hA _ _
      subst hA
      refine .ls n rows _ c ⟨G.b k, 0, none⟩ (fun i j => ((vs.getD i []).getD j undef)) hcap hrl (fun _ => rfl) (fun i r j av hr hav => ?_) (fun i r j av hr hav => ?_)
      all_goals
        have hi : i < rows.length := (List.getElem?_eq_some_iff.1 hr).1
        have hv : vs[i]? = some vs[i] := List.getElem?_eq_getElem (by omega)
        obtain ⟨e1, e2⟩ := h6 i r _ hr hv
        have hj : j < vs[i].length := by rw [e1]; exact (List.getElem?_eq_some_iff.1 hav).1
        have hu : (vs.getD i []).getD j undef = vs[i][j] := by simp [List.getD, hv, hj]
        simp only [hu]
      · refine ⟨?_, h7 _ (List.getElem_mem _) _ (List.getElem_mem _)⟩
        obtain ⟨ad, had, _, hc⟩ := Rd.at_ (k := i) hrd (by omega)
        injection had with had
        subst had
        show (if _ then _ else _) = _
        rw [block_of_add, if_pos (by rw [hb2]; rfl)]
        exact hc j _ (List.getElem?_eq_getElem hj)
      · exact (e2 j av _ hav (List.getElem?_eq_getElem hj)).mono hF
    · have h0 : rows = [] := List.eq_nil_of_length_eq_zero (by omega)
      subst h0
      exact .ls n [] A c ⟨0, 0, none⟩ (fun _ _ => undef) (by simp) (by simp) (fun h => absurd h (by simp)) (fun i r j av h => by simp at h) (fun i r j av h => by simp at h)
  have hle : G.le { G with F := F' } σ.nk := ⟨hF, fun _ _ => rfl, fun _ _ => rfl, fun _ _ => rfl⟩
  have hls' : R { G with F := F' } (.ls n rows) (({ G with F := F' } : Gh).h k) := .pu _ _ hls
  have hl : ∀ i ob, look i (σ.freeze k n rows).M = some ob → ∃ ob0, i ≠ k ∧ look i σ.M = some ob0 ∧ ob = ob0.frz k n rows := fun i ob h => by
    rw [show look i (σ.freeze k n rows).M = _ from look_mapS _ i _, look_rem] at h
    by_cases e : i = k
    · rw [if_pos e] at h; cases h
    · rw [if_neg e] at h
      cases hq : look i σ.M with
      | none => simp [hq] at h
      | some ob0 => simp [hq] at h; exact ⟨ob0, e, rfl, h.symm⟩
  have hown : ∀ (ob : AO) (i : Nat), (ob.frz k n rows).own { G with F := F' } i = ob.own G i := fun ob i => by cases ob <;> rfl
  refine ⟨{ G with F := F' }, ok.sz, ok.df, fun i av h => ?_, ok.bel, fun p u h => ?_, fun p u h => hF p u (ok.f0 p u h), fun p u h => ?_, fun i ob h => ?_, ?_, ?_⟩
  · rw [show look i (σ.freeze k n rows).t = _ from look_mapS _ i _] at h
    cases hq : look i σ.t with
    | none => simp [hq] at h
    | some av0 =>
      simp [hq] at h
      obtain ⟨h1, h2, h3⟩ := ok.tm i av0 hq
      rw [← h]
      exact ⟨h1, frz_bd h2, frz_R hls' (h3.mono hle h2)⟩
  · rcases hFn p u h with h | ⟨_, h⟩
    · exact ok.fw p u h
    · exact h
  · rcases hFn p u h with h | ⟨h, _⟩
    · exact ok.f1 p u h
    · exact .inr (own_lt' hob' (by simpa [AO.own] using h.symm)).1
  · obtain ⟨ob0, e, h0, rfl⟩ := hl i ob h
    obtain ⟨g1, g2, g3⟩ := ok.ob i ob0 h0
    refine ⟨g1, ?_, ?_⟩
    · cases ob0 with
      | box T cells =>
        intro j av x
        rw [List.getElem?_map] at x
        cases hq : cells[j]? with
        | none => simp [hq] at x
        | some b => simp [hq] at x; rw [← x]; exact frz0_bd (g2 j b hq)
      | row T m rs => trivial
    · have g4 := g3.keep (w' := w) hle g1 g2 (fun _ _ => rfl)
      cases ob0 with
      | box T cells =>
        obtain ⟨b1, cs, b2, b3, b4⟩ := g4
        refine ⟨b1, cs, b2, by simpa using b3, fun j av u x y => ?_⟩
        rw [List.getElem?_map] at x
        cases hq : cells[j]? with
        | none => simp [hq] at x
        | some b => simp [hq] at x; rw [← x]; exact frz0_R hls' (b4 j b u hq y)
      | row T m rs => exact g4
  · intro i o i' o' x h1 h2 h3 h4
    obtain ⟨ob0, e, h0, rfl⟩ := hl i o h1
    obtain ⟨ob0', e', h0', rfl⟩ := hl i' o' h2
    rw [hown] at h3 h4
    exact ok.dj i ob0 i' ob0' x h0 h0' h3 h4
  · intro i o x p u h1 h2 h3
    obtain ⟨ob0, e, h0, rfl⟩ := hl i o h1
    rw [hown] at h2
    rcases hFn p u h3 with h | ⟨h, _⟩
    · exact ok.dF i ob0 x p u h0 h2 h
    · intro e2
      exact e (ok.dj i ob0 k _ x h0 hk h2 (by rw [← e2]; simpa [AO.own] using h.symm))
end
end Go.Proofs.YteldgllgagjciaaGreat

/- A walk that knows values as trees: regions that draw their order. -/
namespace Go.Proofs.YteldgllgagjciaaGreat
open Go.RowKit
set_option linter.unusedVariables false
set_option linter.unusedSimpArgs false
def onlyT (t : List (Nat × AV)) : List Nat → List (Nat × AV)
  | [] => []
  | x :: r =>
    match look x t with
    | some av => (x, av) :: onlyT t r
    | none => onlyT t r
def St.only (σ : St) (ts : List Nat) : St := { σ with t := onlyT σ.t ts }
theorem look_onlyT {t : List (Nat × AV)} {i : Nat} {av : AV} : ∀ {ts : List Nat}, look i (onlyT t ts) = some av → look i t = some av
  | [], h => by cases h
  | x :: r, h => by
    unfold onlyT at h
    cases hx : look x t with
    | none => rw [hx] at h; exact look_onlyT h
    | some a =>
      rw [hx] at h
      by_cases e : i = x
      · subst e
        rw [look_set_same] at h
        rw [hx]; exact h
      · rw [look_set_other e] at h; exact look_onlyT h
theorem onlyT_congr {t t' : List (Nat × AV)} : ∀ {ts : List Nat}, (∀ x ∈ ts, look x t = look x t') → onlyT t ts = onlyT t' ts
  | [], _ => rfl
  | x :: r, h => by
    unfold onlyT
    rw [h x (by simp), onlyT_congr fun y hy => h y (by simp [hy])]
section
variable {P : Program} {C : Cx} {σ σ' : St} {G G' : Gh} {a : Act} {w w' : World} {ops : Array Oper} {Q : Exit → St → Prop}
theorem Ok.only_ (ok : Ok C σ G a w) (ts : List Nat) : Ok C (σ.only ts) G a w :=
  ⟨ok.sz, ok.df, fun i av h => ok.tm i av (look_onlyT h), ok.bel, ok.fw, ok.f0, ok.f1, ok.ob, ok.dj, ok.dF⟩
theorem Ok.congr_ (ok : Ok C σ G a w) (h : ∀ t, look t σ'.t = look t σ.t) (hM : σ'.M = σ.M) (hn : σ'.nk = σ.nk) : Ok C σ' G a w :=
  ⟨ok.sz, ok.df, fun i av x => by rw [hn]; exact ok.tm i av (by rw [← h]; exact x), ok.bel, ok.fw, ok.f0, ok.f1, fun k o x => by rw [hn]; exact ok.ob k o (by rw [← hM]; exact x), fun k o k' o' x a b => ok.dj k o k' o' x (by rw [← hM]; exact a) (by rw [← hM]; exact b), fun k o x p u a => ok.dF k o x p u (by rw [← hM]; exact a)⟩
/-- Whether an operation is carried out, as far as is known. -/
def guardK (ops : Array Oper) (o : Oper) (σ : St) : Option Bool :=
  match o.guard with
  | none => some true
  | some (j, b) =>
    match (ops[j]?).bind (·.dst) with
    | some d =>
      match look d σ.t with
      | some (.sc v) => some (match vb v with | some c => c == b | none => false)
      | _ => none
    | none => none
theorem guardK_wanted {o : Oper} {b : Bool} (ok : Ok C σ G a w) (h : guardK ops o σ = some b) : Region.wanted o (yielded ops a.tmps) = b := by
  unfold guardK at h
  unfold Region.wanted
  cases hg : o.guard with
  | none => rw [hg] at h; cases h; rfl
  | some x =>
    obtain ⟨j, c⟩ := x
    rw [hg] at h
    simp only at h ⊢
    cases hj : ops[j]? with
    | none => simp [hj] at h
    | some oj =>
      cases hd : oj.dst with
      | none => simp [hj, hd] at h
      | some d =>
        simp only [hj, Option.bind_some, hd] at h
        cases hv : look d σ.t with
        | none => simp [hv] at h
        | some av =>
          cases av with
          | sc v =>
            simp only [hv] at h
            cases h
            rw [yielded_of ok hj hd hv]
            cases vb v with
            | none => rfl
            | some c' => cases c' <;> cases c <;> rfl
          | _ => simp [hv] at h
/-- What an operation does in a region that draws its order. -/
def Does (P : Program) (C : Cx) (ops : Array Oper) (o : Oper) (σ : St) (av : AV) : Prop :=
  (guardK ops o (σ.only (o.looksAt ops)) = some true ∧ WV P C o (σ.only (o.looksAt ops)) av) ∨ (guardK ops o (σ.only (o.looksAt ops)) = some false ∧ av = .sc undef)
theorem Does.congr_ {o : Oper} {av : AV} (h : Does P C ops o σ av) (hl : ∀ t ∈ o.looksAt ops, look t σ.t = look t σ'.t) (hM : σ'.M = σ.M) (hn : σ'.nk = σ.nk) : Does P C ops o σ' av := by
  have e : σ'.only (o.looksAt ops) = σ.only (o.looksAt ops) := by
    unfold St.only
    rw [hM, hn, onlyT_congr fun x hx => (hl x hx).symm]
  unfold Does
  rw [e]; exact h
/-- The operations in the order of the text. -/
inductive DL (P : Program) (C : Cx) (ops : Array Oper) : List Oper → St → St → Prop
  | nil (σ : St) : DL P C ops [] σ σ
  | op (o : Oper) (rest : List Oper) (d : Tmp) (av : AV) (σ σ' : St) : o.dst = some d → Nat.blt d C.N = true → Does P C ops o σ av → DL P C ops rest (σ.put d av) σ' → DL P C ops (o :: rest) σ σ'
def ent1 (o : Option Tmp) (b : Bool) (av : AV) : List (Nat × AV) :=
  match b, o with
  | true, some d => [(d, av)]
  | _, _ => []
theorem look_ent1 (t : Nat) (o : Option Tmp) (b : Bool) (av : AV) : look t (ent1 o b av) = if b = true ∧ o = some t then some av else none := by
  cases b with
  | false => simp [ent1, look]
  | true =>
    cases o with
    | none => simp [ent1, look]
    | some d =>
      by_cases e : t = d
      · subst e; rw [if_pos ⟨rfl, rfl⟩]; exact look_set_same
      · rw [if_neg (fun h => e (by injection h.2 with h; exact h.symm))]
        show look t [(d, av)] = none
        rw [look_set_other e]; rfl
/-- What is known behind the operations of which s holds, of the first m. -/
def ents (ops : Array Oper) (avs : Nat → AV) (s : Nat → Bool) : Nat → List (Nat × AV)
  | 0 => []
  | m + 1 => ent1 ((ops[m]?).bind (·.dst)) (s m) (avs m) ++ ents ops avs s m
theorem look_app {α : Type} (i : Nat) : ∀ (l m : List (Nat × α)), look i (l ++ m) = (look i l).or (look i m)
  | [], m => rfl
  | x :: r, m => by
    by_cases e : i = x.1
    · subst e
      rw [List.cons_append, look_set_same, look_set_same]; rfl
    · rw [List.cons_append, look_set_other e, look_set_other e, look_app i r m]
theorem ents_agree {avs : Nat → AV} {s s' : Nat → Bool} {t : Nat} : ∀ {m : Nat}, (∀ i, i < m → (ops[i]?).bind (·.dst) = some t → s i = s' i) → look t (ents ops avs s m) = look t (ents ops avs s' m)
  | 0, _ => rfl
  | m + 1, h => by
    have ih := ents_agree (avs := avs) (s := s) (s' := s') (t := t) (m := m) fun i hi hd => h i (by omega) hd
    unfold ents
    rw [look_app, look_app, ih, look_ent1, look_ent1]
    by_cases e : (ops[m]?).bind (·.dst) = some t
    · rw [h m (by omega) e]
    · rw [if_neg (fun x => e x.2), if_neg (fun x => e x.2)]
theorem ents_none {avs : Nat → AV} {s : Nat → Bool} {t : Nat} : ∀ {m : Nat}, (∀ i, i < m → (ops[i]?).bind (·.dst) = some t → s i = false) → look t (ents ops avs s m) = none
  | 0, _ => rfl
  | m + 1, h => by
    have ih := ents_none (avs := avs) (s := s) (t := t) (m := m) fun i hi hd => h i (by omega) hd
    unfold ents
    rw [look_app, ih, look_ent1, if_neg]
    · rfl
    · intro x
      rw [h m (by omega) x.2] at x
      cases x.1
theorem ents_top {avs : Nat → AV} {s : Nat → Bool} {t j : Nat} : ∀ {m : Nat}, j < m → (ops[j]?).bind (·.dst) = some t → s j = true → (∀ i, j < i → i < m → (ops[i]?).bind (·.dst) = some t → s i = false) → look t (ents ops avs s m) = some (avs j)
  | 0, h, _, _, _ => by omega
  | m + 1, hj, hd, hs, h => by
    unfold ents
    rw [look_app, look_ent1]
    by_cases e : j = m
    · subst e
      rw [if_pos ⟨hs, hd⟩]; rfl
    · have ih := ents_top (avs := avs) (s := s) (t := t) (j := j) (m := m) (by omega) hd hs fun i h1 h2 => h i h1 (by omega)
      rw [ih, if_neg]
      · rfl
      · intro x
        rw [h m (by omega) (by omega) x.2] at x
        cases x.1
/-- What the lexical order shows: an operation waits for earlier ones alone, and is apart from those that it does not wait for. -/
theorem lex_facts {md : Region.Mode} : ∀ (m k : Nat) (listed : Array Bool), ops.size = k + m → listed.size = ops.size → (∀ i, i < ops.size → listed.getD i true = decide (i < k)) → Region.lexFrom md ops m k listed = true →
    (∀ j oj, k ≤ j → ops[j]? = some oj → ∀ e ∈ oj.after, Region.binds md e = true → e.on < j) ∧
    (∀ i j oi oj, k ≤ i → i < j → ops[i]? = some oi → ops[j]? = some oj → (∀ e ∈ oj.after, Region.binds md e = true → e.on ≠ i) → oi.apart ops oj = true)
  | 0, k, listed, hk, _, _, _ => ⟨fun j oj h h' => by have := (Array.getElem?_eq_some_iff.1 h').1; omega, fun i j oi oj h h1 h2 => by have := (Array.getElem?_eq_some_iff.1 h2).1; omega⟩
  | m + 1, k, listed, hk, hsz, hl, h => by
    simp only [Region.lexFrom, Bool.and_eq_true] at h
    obtain ⟨⟨hr, hf⟩, hrest⟩ := h
    have ih := lex_facts m (k + 1) (listed.setIfInBounds k true) (by omega) (by simpa using hsz) (fun i hi => by
      by_cases e : k = i
      · subst e; simp [hsz, hi]
      · rw [show (listed.setIfInBounds k true).getD i true = listed.getD i true from by simp [Array.getD_eq_getD_getElem?, Array.getElem?_setIfInBounds_ne e], hl i hi]
        have : (i < k) ↔ (i < k + 1) := by omega
        simp [this]) hrest
    have hmem : k ∈ Region.ready md ops listed := by simpa using hr
    obtain ⟨_, o, ho, hall⟩ := mem_ready.1 hmem
    refine ⟨fun j oj hj hoj e he hb => ?_, fun i j oi oj hi hij hoi hoj hno => ?_⟩
    · by_cases e2 : j = k
      · subst e2
        rw [ho] at hoj
        cases hoj
        have h1 := hall e he hb
        by_cases hlt : e.on < ops.size
        · have h2 := hl e.on hlt
          have h3 : listed.getD e.on false = listed.getD e.on true := by simp [Array.getD_eq_getD_getElem?, hsz, hlt]
          rw [h3, h2] at h1
          exact of_decide_eq_true h1
        · have : listed.getD e.on false = false := by simp [Array.getD_eq_getD_getElem?, hsz, hlt]
          rw [this] at h1; cases h1
      · exact ih.1 j oj (by omega) hoj e he hb
    · by_cases e2 : i = k
      · subst e2
        have hjlt := (Array.getElem?_eq_some_iff.1 hoj).1
        exact Region.free_spec hoi hf j oj hoj (by omega) (by rw [hl j hjlt]; simp; omega) hno
      · exact ih.2 i j oi oj (by omega) hij hoi hoj hno
/-- The states of the lexical walk. -/
theorem DL.data {l : List Oper} {σ σ' : St} (h : DL P C ops l σ σ') : ∃ avs : Nat → AV, σ' = { σ with t := ents l.toArray avs (fun _ => true) l.length ++ σ.t } ∧
    ∀ j oj, l[j]? = some oj → ∃ d, oj.dst = some d ∧ d < C.N ∧ Does P C ops oj { σ with t := ents l.toArray avs (fun _ => true) j ++ σ.t } (avs j) := by
  induction h with
  | nil σ => exact ⟨fun _ => .sc undef, rfl, fun j oj h => by simp at h⟩
  | op o rest d av σ σ' hd hN hdo _ ih =>
    obtain ⟨avs, e1, e2⟩ := ih
    have key : ∀ m, m ≤ rest.length → ents (o :: rest).toArray (fun j => if j = 0 then av else avs (j - 1)) (fun _ => true) (m + 1) = ents rest.toArray avs (fun _ => true) m ++ [(d, av)] := by
      intro m
      induction m with
      | zero => intro _; simp [ents, ent1, hd]
      | succ m ihm =>
        intro hm
        rw [ents, ihm (by omega), ents]
        simp
    refine ⟨fun j => if j = 0 then av else avs (j - 1), ?_, fun j oj hj => ?_⟩
    · rw [e1, List.length_cons, key _ (Nat.le_refl _)]
      simp [St.put]
    · cases j with
      | zero => cases hj; exact ⟨d, hd, of_blt hN, by simpa [ents] using hdo⟩
      | succ j =>
        have hj' : rest[j]? = some oj := by simpa using hj
        obtain ⟨d', q1, q2, q3⟩ := e2 j oj hj'
        refine ⟨d', q1, q2, ?_⟩
        rw [key j (by have := (List.getElem?_eq_some_iff.1 hj').1; omega)]
        simpa [St.put] using q3
theorem rep_getD (n j : Nat) : (Array.replicate n false).getD j false = false := by
  unfold Array.getD
  split <;> simp
theorem countP_lt {p q : Nat → Bool} (h : ∀ i, q i = true → p i = true) : ∀ {n j : Nat}, j < n → p j = true → q j = false → (List.range n).countP q < (List.range n).countP p
  | 0, _, hj, _, _ => by omega
  | n + 1, j, hj, hp, hq => by
    rw [List.range_succ, List.countP_append, List.countP_append]
    have hle : (List.range n).countP q ≤ (List.range n).countP p := List.countP_mono_left fun x _ hx => h x hx
    by_cases e : j = n
    · subst e
      have a1 : [j].countP q = 0 := by simp [hq]
      have a2 : [j].countP p = 1 := by simp [hp]
      omega
    · have := countP_lt h (n := n) (j := j) (by omega) hp hq
      have h1 : [n].countP q ≤ [n].countP p := List.countP_mono_left fun x _ hx => h x hx
      omega
theorem W.draw {id : Nat} {l : List Oper} (hm : P.follows .mixedOrders = true) (hB : Region.lexB .any l.toArray = true) (h : DL P C l.toArray l σ σ') (k : Q .normal σ') : W P C (.region id l.toArray true) σ Q := by
  intro G a w ok
  obtain ⟨avs, e1, e2⟩ := h.data
  simp only [Region.lexB, Bool.and_eq_true] at hB
  obtain ⟨FA, FB⟩ := lex_facts (ops := l.toArray) l.toArray.size 0 (Array.replicate l.toArray.size false) (by simp) (by simp) (fun i hi => by simp [Array.getD_eq_getD_getElem?, hi] at hi ⊢; simp [hi]) hB.2
  have sz : l.toArray.size = l.length := by simp
  -- what is known when the listed operations are behind
  let KS : Array Bool → St := fun listed => { σ with t := ents l.toArray avs (fun i => listed.getD i false) l.length ++ σ.t }
  have key : ∀ (fuel : Nat) (listed : Array Bool) (G : Gh) (a : Act) (w : World), listed.size = l.length → (∀ j oj, l[j]? = some oj → listed.getD j false = true → ∀ e ∈ oj.after, Region.binds .any e = true → listed.getD e.on false = true) →
      (List.range l.length).countP (fun i => !listed.getD i false) ≤ fuel → Ok C (KS listed) G a w → wpAny P .any l.toArray (Post C Q) fuel listed a w := by
    intro fuel
    have done : ∀ (listed : Array Bool) (G : Gh) (a : Act) (w : World), listed.size = l.length → Region.ready .any l.toArray listed = [] → Ok C (KS listed) G a w → Post C Q .normal a w := by
      intro listed G a w hsz hr ok
      have hall : ∀ n i, i < n → i < l.length → listed.getD i false = true := by
        intro n
        induction n with
        | zero => intro i h; omega
        | succ n ih =>
          intro i hi hlt
          by_cases e : i < n
          · exact ih i e hlt
          · have hin : i = n := by omega
            subst hin
            cases hli : listed.getD i false with
            | true => rfl
            | false =>
              have hoi : l.toArray[i]? = some l[i] := by simp [hlt]
              have : i ∈ Region.ready .any l.toArray listed := mem_ready.2 ⟨by
                have : listed.getD i true = listed.getD i false := by simp [Array.getD_eq_getD_getElem?, hsz, hlt]
                rw [this]; exact hli, l[i], hoi, fun e he hb => ih e.on (FA i l[i] (Nat.zero_le _) hoi e he hb) (by have := FA i l[i] (Nat.zero_le _) hoi e he hb; omega)⟩
              rw [hr] at this; cases this
      refine ⟨σ', G, k, ok.congr_ (fun t => ?_) (by rw [e1]) (by rw [e1])⟩
      rw [e1]
      show look t (_ ++ _) = look t (_ ++ _)
      rw [look_app, look_app, ents_agree (s' := fun i => listed.getD i false) fun i hi _ => (hall (i + 1) i (by omega) hi).symm]
    induction fuel with
    | zero =>
      intro listed G a w hsz hcl hf ok
      have hr : Region.ready .any l.toArray listed = [] := by
        apply List.eq_nil_iff_forall_not_mem.2
        intro j hj
        obtain ⟨h1, oj, h2, _⟩ := mem_ready.1 hj
        have hlt : j < l.length := by have := (Array.getElem?_eq_some_iff.1 h2).1; omega
        have h3 : listed.getD j false = false := by
          have : listed.getD j false = listed.getD j true := by simp [Array.getD_eq_getD_getElem?, hsz, hlt]
          rw [this]; exact h1
        have := List.countP_eq_zero.1 (Nat.le_zero.1 hf) j (List.mem_range.2 hlt)
        simp [h3] at this
      exact ⟨hr, done listed G a w hsz hr ok⟩
    | succ fuel ih =>
      intro listed G a w hsz hcl hf ok
      refine ⟨fun hr => done listed G a w hsz hr ok, fun j hj => ?_⟩
      obtain ⟨h1, oj, h2, h4⟩ := mem_ready.1 hj
      have hlt : j < l.length := by have := (Array.getElem?_eq_some_iff.1 h2).1; omega
      have h3 : listed.getD j false = false := by
        have : listed.getD j false = listed.getD j true := by simp [Array.getD_eq_getD_getElem?, hsz, hlt]
        rw [this]; exact h1
      have hlj : l[j]? = some oj := by simpa using h2
      obtain ⟨d, hd, hdN, hdoes⟩ := e2 j oj hlj
      -- an earlier operation that it looks at is behind; no later one is
      have hlook : ∀ t ∈ oj.looksAt l.toArray, ∀ i, i < l.length → (l.toArray[i]?).bind (·.dst) = some t → listed.getD i false = decide (i < j) := by
        intro t ht i hi hdi
        have hoi : l.toArray[i]? = some l[i] := by simp [hi]
        rw [hoi] at hdi
        have hdi : l[i].dst = some t := hdi
        rcases Nat.lt_trichotomy i j with hij | hij | hij
        · rw [decide_eq_true hij]
          by_cases hno : ∃ e, e ∈ oj.after ∧ Region.binds .any e = true ∧ e.on = i
          · obtain ⟨e, he, hb, rfl⟩ := hno
            exact h4 e he hb
          · exact absurd ht ((Oper.apart_spec (FB i j _ _ (Nat.zero_le _) hij hoi h2 fun e he hb h => hno ⟨e, he, hb, h⟩)).1 t hdi)
        · subst hij; rw [h3]; simp
        · rw [decide_eq_false (by omega)]
          cases hli : listed.getD i false with
          | false => rfl
          | true =>
            by_cases hno : ∃ e, e ∈ (l[i]).after ∧ Region.binds .any e = true ∧ e.on = j
            · obtain ⟨e, he, hb, he2⟩ := hno
              have := hcl i _ (by simp [hi]) hli e he hb
              rw [he2, h3] at this; cases this
            · exact absurd ht ((Oper.apart_spec (FB j i _ _ (Nat.zero_le _) hij h2 hoi fun e he hb h => hno ⟨e, he, hb, h⟩)).2.2 t hdi)
      have hents : ∀ t, look t (ents l.toArray avs (fun _ => true) j) = look t (ents l.toArray avs (fun i => decide (i < j)) l.length) := by
        intro t
        have : ∀ m, j ≤ m → look t (ents l.toArray avs (fun i => decide (i < j)) m) = look t (ents l.toArray avs (fun i => decide (i < j)) j) := by
          intro m
          induction m with
          | zero => intro h; rw [Nat.le_zero.1 h]
          | succ m ihm =>
            intro h
            by_cases e : j = m + 1
            · rw [e]
            · rw [ents, look_app, look_ent1, if_neg (fun x => by have := of_decide_eq_true x.1; omega), ihm (by omega)]; rfl
        rw [this l.length (by omega)]
        exact ents_agree fun i hi _ => (decide_eq_true hi).symm
      have hdo : Does P C l.toArray oj (KS listed) (avs j) := hdoes.congr_ (fun t ht => by
        show look t (_ ++ _) = look t (_ ++ _)
        rw [look_app, look_app, hents t, ents_agree fun i hi hdi => (hlook t ht i hi hdi).symm]) rfl rfl
      have next : ∀ (v : Value) (G' : Gh) (w' : World), Ok C (KS listed) G' a w' → R G' (avs j) v → Bd σ.nk (avs j) → wpAny P .any l.toArray (Post C Q) fuel (listed.setIfInBounds j true) (a.put oj.dst v) w' := by
        intro v G' w' ok' hr hb
        have ok2 := ok'.set (d := some d) hr hb fun x hx => by cases hx; exact hdN
        rw [hd]
        refine ih (listed.setIfInBounds j true) G' _ w' (by simpa using hsz) (fun i oi hi hli e he hb => ?_) ?_ (ok2.congr_ (fun t => ?_) rfl rfl)
        · have mono : ∀ q, listed.getD q false = true → (listed.setIfInBounds j true).getD q false = true := fun q hq => by
            by_cases e : j = q
            · subst e; rw [hq] at h3; cases h3
            · simpa [Array.getD_eq_getD_getElem?, Array.getElem?_setIfInBounds_ne e] using hq
          by_cases e2 : j = i
          · subst e2
            rw [hlj] at hi; cases hi
            exact mono _ (h4 e he hb)
          · refine mono _ (hcl i oi hi ?_ e he hb)
            simpa [Array.getD_eq_getD_getElem?, Array.getElem?_setIfInBounds_ne e2] using hli
        · have hlt2 : (List.range l.length).countP (fun i => !(listed.setIfInBounds j true).getD i false) < (List.range l.length).countP (fun i => !listed.getD i false) := by
            exact countP_lt (fun i hi => by
              by_cases e : j = i
              · subst e; simp [Array.getD_eq_getD_getElem?, hsz, hlt] at hi
              · simpa [Array.getD_eq_getD_getElem?, Array.getElem?_setIfInBounds_ne e] using hi) hlt (by simp [h3]) (by simp [Array.getD_eq_getD_getElem?, hsz, hlt])
          omega
        · show look t (_ ++ _) = look t ((d, avs j) :: (_ ++ _))
          by_cases et : t = d
          · subst et
            rw [look_set_same, look_app, ents_top (j := j) hlt (by rw [h2]; exact hd) (by simp [Array.getD_eq_getD_getElem?, hsz, hlt]) fun i hij hi hdi => ?_]
            · rfl
            · have hoi : l.toArray[i]? = some l[i] := by simp [hi]
              rw [hoi] at hdi
              have hdi : l[i].dst = some t := hdi
              have hne : j ≠ i := by omega
              cases hli : listed.getD i false with
              | false => simpa [Array.getD_eq_getD_getElem?, Array.getElem?_setIfInBounds_ne hne] using hli
              | true =>
                by_cases hno : ∃ e, e ∈ (l[i]).after ∧ Region.binds .any e = true ∧ e.on = j
                · obtain ⟨e, he, hb, he2⟩ := hno
                  have := hcl i _ (by simp [hi]) hli e he hb
                  rw [he2, h3] at this; cases this
                · exact absurd hdi ((Oper.apart_spec (FB j i _ _ (Nat.zero_le _) hij h2 hoi fun e he hb h => hno ⟨e, he, hb, h⟩)).2.1 t hd)
          · rw [look_set_other et, look_app, look_app]
            congr 1
            refine ents_agree fun i hi hdi => ?_
            by_cases e2 : j = i
            · subst e2
              rw [h2] at hdi
              have : oj.dst = some t := hdi
              rw [hd] at this
              exact absurd (by injection this with h; exact h.symm) et
            · simp [Array.getD_eq_getD_getElem?, Array.getElem?_setIfInBounds_ne e2]
      unfold wpOp
      simp only [h2]
      have okO := ok.only_ (oj.looksAt l.toArray)
      rcases hdo with ⟨hg, hv⟩ | ⟨hg, hv⟩
      · rw [if_pos (guardK_wanted okO hg)]
        exact .inl (hv G a w okO _ _ fun v G' w' hk hr hb => next v G' w' (hk _ _ ok) hr hb)
      · rw [if_neg (by rw [guardK_wanted okO hg]; simp)]
        exact next undef G w ok (by rw [hv]; exact .pu _ _ (.sc _)) (by rw [hv]; exact .sc _)
  refine wp_region_any hm (key _ (Array.replicate l.toArray.size false) G a _ (by simp) (fun j oj _ h => ?_) ?_ (ok.drew.congr_ (fun t => ?_) rfl rfl))
  · rw [rep_getD] at h; cases h
  · rw [sz]
    exact Nat.le_trans List.countP_le_length (by simp)
  · show look t (_ ++ _) = _
    rw [look_app, ents_none fun i hi _ => ?_]
    · rfl
    · exact rep_getD _ _
end
end Go.Proofs.YteldgllgagjciaaGreat

/- A walk that knows values as trees: regions that draw their order and write memory of their own, one write behind the other. -/
namespace Go.Proofs.YteldgllgagjciaaGreat
open Go.RowKit
set_option linter.unusedVariables false
set_option linter.unusedSimpArgs false
/-- Operation j comes behind operation i in every order. -/
def needs (ops : Array Oper) (i : Nat) : Nat → Nat → Bool
  | 0, _ => false
  | f + 1, j =>
    match ops[j]? with
    | some o => o.after.any fun e => Region.binds .any e && (Nat.beq e.on i || needs ops i f e.on)
    | none => false
/-- Operation j comes behind all earlier ones that write. -/
def behindB (ops : Array Oper) (mem : List Bool) (j : Nat) : Bool := (List.range j).all fun i => !(mem.getD i false) || needs ops i ops.size j
def chainB (ops : Array Oper) (mem : List Bool) : Bool := (List.range ops.size).all fun j => !(mem.getD j false) || behindB ops mem j
section
variable {P : Program} {C : Cx} {σ σ' : St} {G G' : Gh} {a : Act} {w w' : World} {ops : Array Oper} {Q : Exit → St → Prop}
theorem needs_listed {listed : Array Bool} (hcl : ∀ j oj, ops[j]? = some oj → listed.getD j false = true → ∀ e ∈ oj.after, Region.binds .any e = true → listed.getD e.on false = true) {i : Nat} : ∀ (f j : Nat), needs ops i f j = true → listed.getD j false = true → listed.getD i false = true
  | 0, j, h, _ => by cases h
  | f + 1, j, h, hl => by
    unfold needs at h
    cases ho : ops[j]? with
    | none => simp [ho] at h
    | some o =>
      simp only [ho] at h
      obtain ⟨e, he, h2⟩ := Array.any_eq_true'.1 h
      simp only [Bool.and_eq_true, Bool.or_eq_true] at h2
      have := hcl j o ho hl e he h2.1
      rcases h2.2 with h3 | h3
      · rw [← Nat.eq_of_beq_eq_true h3]; exact this
      · exact needs_listed hcl f e.on h3 this
theorem needs_ready {listed : Array Bool} (hcl : ∀ j oj, ops[j]? = some oj → listed.getD j false = true → ∀ e ∈ oj.after, Region.binds .any e = true → listed.getD e.on false = true) {i j : Nat} {oj : Oper} (hj : ops[j]? = some oj)
    (hr : ∀ e ∈ oj.after, Region.binds .any e = true → listed.getD e.on false = true) : ∀ (f : Nat), needs ops i f j = true → listed.getD i false = true
  | 0, h => by cases h
  | f + 1, h => by
    unfold needs at h
    simp only [hj] at h
    obtain ⟨e, he, h2⟩ := Array.any_eq_true'.1 h
    simp only [Bool.and_eq_true, Bool.or_eq_true] at h2
    have := hr e he h2.1
    rcases h2.2 with h3 | h3
    · rw [← Nat.eq_of_beq_eq_true h3]; exact this
    · exact needs_listed hcl f e.on h3 this
/-- What is known is known of more. -/
theorem Ok.nk_mono (ok : Ok C σ G a w) {nk : Nat} (h : σ.nk ≤ nk) : Ok C { σ with nk := nk } G a w :=
  ⟨ok.sz, ok.df, fun i av x => ⟨(ok.tm i av x).1, (ok.tm i av x).2.1.mono h, (ok.tm i av x).2.2⟩, ok.bel, ok.fw, ok.f0, ok.f1, fun k o x => ⟨Nat.lt_of_lt_of_le (ok.ob k o x).1 h, AO.bd_mono h (ok.ob k o x).2.1, (ok.ob k o x).2.2⟩, ok.dj, ok.dF⟩
/-- Few slots, few objects. -/
theorem Ok.few (ok : Ok C σ G a w) {t : List (Nat × AV)} {M : List (Nat × AO)} {nk : Nat} (ht : ∀ i av, look i t = some av → look i σ.t = some av ∧ av.inn nk = true) (hM : ∀ k o, look k M = some o → look k σ.M = some o ∧ o.inn nk = true ∧ k < nk) : Ok C ⟨t, M, nk⟩ G a w :=
  ⟨ok.sz, ok.df, fun i av x => ⟨(ok.tm i av (ht i av x).1).1, inn_bd (ht i av x).2, (ok.tm i av (ht i av x).1).2.2⟩, ok.bel, ok.fw, ok.f0, ok.f1,
    fun k o x => ⟨(hM k o x).2.2, by
      cases o with
      | box T cells => exact fun i av y => in0_bd (List.all_eq_true.1 (hM k _ x).2.1 av (List.mem_of_getElem? y))
      | row T n rows => trivial, (ok.ob k o (hM k o x).1).2.2⟩,
    fun k o k' o' x p q => ok.dj k o k' o' x (hM k o p).1 (hM k' o' q).1, fun k o x p u q => ok.dF k o x p u (hM k o q).1⟩
def tsInn (nk : Nat) : List (Nat × AV) → Bool
  | [] => true
  | x :: r => x.2.inn nk && tsInn nk r
def msInn (nk : Nat) : List (Nat × AO) → Bool
  | [] => true
  | x :: r => x.2.inn nk && Nat.blt x.1 nk && msInn nk r
def msSub : List (Nat × AO) → List (Nat × AO) → Prop
  | [], _ => True
  | x :: r, M => look x.1 M = some x.2 ∧ msSub r M
theorem tsInn_at {nk : Nat} : ∀ {t : List (Nat × AV)}, tsInn nk t = true → ∀ i av, look i t = some av → av.inn nk = true
  | [], _, i, av, h => by cases h
  | x :: r, ht, i, av, h => by
    simp only [tsInn, Bool.and_eq_true] at ht
    by_cases e : i = x.1
    · subst e; rw [look_set_same] at h; cases h; exact ht.1
    · rw [look_set_other e] at h; exact tsInn_at ht.2 i av h
theorem msInn_at {nk : Nat} : ∀ {t : List (Nat × AO)}, msInn nk t = true → ∀ i o, look i t = some o → o.inn nk = true ∧ i < nk
  | [], _, i, o, h => by cases h
  | x :: r, ht, i, o, h => by
    simp only [msInn, Bool.and_eq_true] at ht
    by_cases e : i = x.1
    · subst e; rw [look_set_same] at h; cases h; exact ⟨ht.1.1, of_blt ht.1.2⟩
    · rw [look_set_other e] at h; exact msInn_at ht.2 i o h
theorem msSub_at {M : List (Nat × AO)} : ∀ {t : List (Nat × AO)}, msSub t M → ∀ i o, look i t = some o → look i M = some o
  | [], _, i, o, h => by cases h
  | x :: r, ht, i, o, h => by
    by_cases e : i = x.1
    · subst e; rw [look_set_same] at h; cases h; exact ht.1
    · rw [look_set_other e] at h; exact msSub_at ht.2 i o h
/-- An operation that leaves memory as it is, seen with the objects Mc alone. -/
def DoesV (P : Program) (C : Cx) (ops : Array Oper) (o : Oper) (t : List (Nat × AV)) (Mc : List (Nat × AO)) (nk : Nat) (av : AV) : Prop :=
  msInn nk Mc = true ∧ tsInn nk (onlyT t (o.looksAt ops)) = true ∧ ((guardK ops o ⟨onlyT t (o.looksAt ops), Mc, nk⟩ = some true ∧ WV P C o ⟨onlyT t (o.looksAt ops), Mc, nk⟩ av) ∨ (guardK ops o ⟨onlyT t (o.looksAt ops), Mc, nk⟩ = some false ∧ av = .sc undef))
/-- One that writes memory of its own. -/
def DoesM (P : Program) (C : Cx) (ops : Array Oper) (o : Oper) (σ : St) (d : Tmp) (av : AV) (M' : List (Nat × AO)) (nk' : Nat) : Prop :=
  o.guard = none ∧ ∀ t, (∀ q ∈ o.looksAt ops, look q t = look q σ.t) → WO P C o ⟨t, σ.M, σ.nk⟩ ⟨(d, av) :: t, M', nk'⟩
inductive DM (P : Program) (C : Cx) (ops : Array Oper) (mem : List Bool) (Mc : List (Nat × AO)) (nk0 : Nat) : Nat → List Oper → St → St → Prop
  | nil (k : Nat) (σ : St) : DM P C ops mem Mc nk0 k [] σ σ
  | val (k : Nat) (o : Oper) (rest : List Oper) (d : Tmp) (av : AV) (nk : Nat) (σ σ' : St) : mem.getD k false = false → o.dst = some d → Nat.blt d C.N = true → (nk = nk0 ∨ (nk = σ.nk ∧ behindB ops mem k = true)) → DoesV P C ops o σ.t Mc nk av →
      DM P C ops mem Mc nk0 (k + 1) rest (σ.put d av) σ' → DM P C ops mem Mc nk0 k (o :: rest) σ σ'
  | mem (k : Nat) (o : Oper) (rest : List Oper) (d : Tmp) (av : AV) (M' : List (Nat × AO)) (nk' : Nat) (σ σ' : St) : mem.getD k false = true → o.dst = some d → Nat.ble σ.nk nk' = true → msSub Mc M' → DoesM P C ops o σ d av M' nk' →
      DM P C ops mem Mc nk0 (k + 1) rest ⟨(d, av) :: σ.t, M', nk'⟩ σ' → DM P C ops mem Mc nk0 k (o :: rest) σ σ'
theorem DM.data {mem : List Bool} {Mc : List (Nat × AO)} {nk0 k : Nat} {l : List Oper} {σ σ' : St} (h : DM P C ops mem Mc nk0 k l σ σ') : ∃ (avs : Nat → AV) (ms : Nat → List (Nat × AO)) (nks : Nat → Nat), ms 0 = σ.M ∧ nks 0 = σ.nk ∧
    σ' = ⟨ents l.toArray avs (fun _ => true) l.length ++ σ.t, ms l.length, nks l.length⟩ ∧
    ∀ j oj, l[j]? = some oj → ∃ d, oj.dst = some d ∧
      ((mem.getD (k + j) false = false ∧ d < C.N ∧ ms (j + 1) = ms j ∧ nks (j + 1) = nks j ∧ ∃ nk, (nk = nk0 ∨ (nk = nks j ∧ behindB ops mem (k + j) = true)) ∧ DoesV P C ops oj (ents l.toArray avs (fun _ => true) j ++ σ.t) Mc nk (avs j)) ∨
       (mem.getD (k + j) false = true ∧ nks j ≤ nks (j + 1) ∧ msSub Mc (ms (j + 1)) ∧ DoesM P C ops oj ⟨ents l.toArray avs (fun _ => true) j ++ σ.t, ms j, nks j⟩ d (avs j) (ms (j + 1)) (nks (j + 1)))) := by
  have key : ∀ (o : Oper) (rest : List Oper) (d : Tmp) (av : AV) (avs : Nat → AV), o.dst = some d → ∀ m, m ≤ rest.length → ents (o :: rest).toArray (fun j => if j = 0 then av else avs (j - 1)) (fun _ => true) (m + 1) = ents rest.toArray avs (fun _ => true) m ++ [(d, av)] := by
    intro o rest d av avs hd m
    induction m with
    | zero => intro _; simp [ents, ent1, hd]
    | succ m ihm =>
      intro hm
      rw [ents, ihm (by omega), ents]
      simp
  induction h with
  | nil k σ => exact ⟨fun _ => .sc undef, fun _ => σ.M, fun _ => σ.nk, rfl, rfl, rfl, fun j oj h => by simp at h⟩
  | val k o rest d av nk σ σ' hm hd hN hq hdo _ ih =>
    obtain ⟨avs, ms, nks, m0, n0, e1, e2⟩ := ih
    refine ⟨fun j => if j = 0 then av else avs (j - 1), fun j => if j = 0 then σ.M else ms (j - 1), fun j => if j = 0 then σ.nk else nks (j - 1), rfl, rfl, ?_, fun j oj hj => ?_⟩
    · rw [e1, List.length_cons, key o rest d av avs hd _ (Nat.le_refl _)]
      simp [St.put]
    · cases j with
      | zero =>
        cases hj
        exact ⟨d, hd, .inl ⟨hm, of_blt hN, m0, n0, nk, hq, by simpa [ents] using hdo⟩⟩
      | succ j =>
        have hj' : rest[j]? = some oj := by simpa using hj
        obtain ⟨d', q1, q2⟩ := e2 j oj hj'
        refine ⟨d', q1, ?_⟩
        rw [key o rest d av avs hd j (by have := (List.getElem?_eq_some_iff.1 hj').1; omega)]
        simpa [St.put, Nat.add_assoc, Nat.add_comm 1 j] using q2
  | mem k o rest d av M' nk' σ σ' hm hd hn hsub hdo _ ih =>
    obtain ⟨avs, ms, nks, m0, n0, e1, e2⟩ := ih
    refine ⟨fun j => if j = 0 then av else avs (j - 1), fun j => if j = 0 then σ.M else ms (j - 1), fun j => if j = 0 then σ.nk else nks (j - 1), rfl, rfl, ?_, fun j oj hj => ?_⟩
    · rw [e1, List.length_cons, key o rest d av avs hd _ (Nat.le_refl _)]
      simp
    · cases j with
      | zero =>
        cases hj
        refine ⟨d, hd, .inr ⟨hm, ?_, ?_, ?_⟩⟩
        · show σ.nk ≤ nks 0
          rw [n0]; exact Nat.le_of_ble_eq_true hn
        · show msSub Mc (ms 0)
          rw [m0]; exact hsub
        · show DoesM P C ops o _ d av (ms 0) (nks 0)
          rw [m0, n0]; simpa [ents] using hdo
      | succ j =>
        have hj' : rest[j]? = some oj := by simpa using hj
        obtain ⟨d', q1, q2⟩ := e2 j oj hj'
        refine ⟨d', q1, ?_⟩
        rw [key o rest d av avs hd j (by have := (List.getElem?_eq_some_iff.1 hj').1; omega)]
        simpa [Nat.add_assoc, Nat.add_comm 1 j] using q2
def cur (mem s : Nat → Bool) : Nat → Nat
  | 0 => 0
  | m + 1 => if mem m = true ∧ s m = true then m + 1 else cur mem s m
theorem cur_congr {mem s s' : Nat → Bool} : ∀ {m : Nat}, (∀ i, i < m → mem i = true → s i = s' i) → cur mem s m = cur mem s' m
  | 0, _ => rfl
  | m + 1, h => by
    unfold cur
    rw [cur_congr (m := m) fun i hi => h i (by omega)]
    by_cases e : mem m = true
    · rw [h m (by omega) e]
    · rw [if_neg (fun x => e x.1), if_neg (fun x => e x.1)]
theorem cur_le {mem s : Nat → Bool} : ∀ m : Nat, cur mem s m ≤ m
  | 0 => Nat.le_refl _
  | m + 1 => by
    unfold cur
    split
    · exact Nat.le_refl _
    · exact Nat.le_succ_of_le (cur_le m)
theorem cur_at {α : Type} {mem s : Nat → Bool} {f : Nat → α} {n j : Nat} (hc : ∀ i, i < n → mem i = false → f (i + 1) = f i) (hs : ∀ i, i < n → mem i = true → s i = decide (i < j)) : ∀ m, m ≤ n → f (cur mem s m) = f (min m j)
  | 0, _ => by simp [cur]
  | m + 1, h => by
    have ih := cur_at hc hs m (by omega)
    unfold cur
    by_cases e : mem m = true
    · have := hs m (by omega) e
      by_cases hm : m < j
      · rw [if_pos ⟨e, by rw [this]; simpa using hm⟩, show min (m + 1) j = m + 1 by omega]
      · rw [if_neg (by rw [this]; simp; intro _; omega), ih, show min (m + 1) j = min m j by omega]
    · rw [if_neg (fun x => e x.1), ih]
      by_cases hm : m < j
      · rw [show min (m + 1) j = m + 1 by omega, show min m j = m by omega, hc m (by omega) (by simpa using e)]
      · rw [show min (m + 1) j = min m j by omega]
theorem cur_ge {mem s : Nat → Bool} {f : Nat → Nat} {n j : Nat} (hc : ∀ i, i < n → mem i = false → f (i + 1) = f i) (hmono : ∀ i, i < n → f i ≤ f (i + 1)) (hs : ∀ i, i < n → i < j → mem i = true → s i = true) : ∀ m, m ≤ n → f (min m j) ≤ f (cur mem s m)
  | 0, _ => by simp [cur]
  | m + 1, h => by
    have ih := cur_ge hc hmono hs m (by omega)
    unfold cur
    by_cases e : mem m = true ∧ s m = true
    · rw [if_pos e]
      by_cases hm : m < j
      · rw [show min (m + 1) j = m + 1 by omega]
        exact Nat.le_refl _
      · rw [show min (m + 1) j = j by omega]
        have : ∀ b a, a ≤ b → b ≤ n → f a ≤ f b := by
          intro b
          induction b with
          | zero => intro a h _; rw [Nat.le_zero.1 h]; exact Nat.le_refl _
          | succ b ihb =>
            intro a hab hbn
            by_cases e2 : a = b + 1
            · rw [e2]; exact Nat.le_refl _
            · exact Nat.le_trans (ihb a (by omega) (by omega)) (hmono b (by omega))
        exact this (m + 1) j (by omega) h
    · rw [if_neg e]
      by_cases hm : m < j
      · have hmf : mem m = false := by
          cases hq : mem m with
          | false => rfl
          | true => exact absurd ⟨hq, hs m (by omega) hm hq⟩ e
        rw [show min (m + 1) j = m + 1 by omega, hc m (by omega) hmf]
        rw [show min m j = m by omega] at ih
        exact ih
      · rw [show min (m + 1) j = min m j by omega]; exact ih
theorem W.drawM {id : Nat} {l : List Oper} (mem : List Bool) (Mc : List (Nat × AO)) (hm : P.follows .mixedOrders = true) (hB : Region.lexB .any l.toArray = true) (hch : chainB l.toArray mem = true) (hMc : msSub Mc σ.M) (h : DM P C l.toArray mem Mc σ.nk 0 l σ σ') (k : Q .normal σ') : W P C (.region id l.toArray true) σ Q := by
  intro G a w ok
  obtain ⟨avs, ms, nks, m0, n0, e1, e2⟩ := h.data
  simp only [Nat.zero_add] at e2
  simp only [Region.lexB, Bool.and_eq_true] at hB
  obtain ⟨FA, FB⟩ := lex_facts (ops := l.toArray) l.toArray.size 0 (Array.replicate l.toArray.size false) (by simp) (by simp) (fun i hi => by simp [Array.getD_eq_getD_getElem?, hi] at hi ⊢; simp [hi]) hB.2
  have sz : l.toArray.size = l.length := by simp
  have mconst : ∀ i, i < l.length → mem.getD i false = false → ms (i + 1) = ms i ∧ nks (i + 1) = nks i := fun i hi hf => by
    obtain ⟨d, _, q⟩ := e2 i l[i] (List.getElem?_eq_getElem hi)
    rcases q with ⟨_, _, a, b, _⟩ | ⟨a, _⟩
    · exact ⟨a, b⟩
    · rw [hf] at a; cases a
  have mmono : ∀ i, i < l.length → nks i ≤ nks (i + 1) := fun i hi => by
    obtain ⟨d, _, q⟩ := e2 i l[i] (List.getElem?_eq_getElem hi)
    rcases q with ⟨_, _, _, b, _⟩ | ⟨_, b, _⟩
    · rw [b]; exact Nat.le_refl _
    · exact b
  have msub : ∀ i, i ≤ l.length → msSub Mc (ms i) := fun i => by
    induction i with
    | zero => intro _; rw [m0]; exact hMc
    | succ i ih =>
      intro hi
      obtain ⟨d, _, q⟩ := e2 i l[i] (List.getElem?_eq_getElem (by omega))
      rcases q with ⟨_, _, a, _⟩ | ⟨_, _, a, _⟩
      · rw [a]; exact ih (by omega)
      · exact a
  have hchj : ∀ j, j < l.length → mem.getD j false = true → behindB l.toArray mem j = true := fun j hj hmj => by
    have h1 : (!(mem.getD j false) || behindB l.toArray mem j) = true := List.all_eq_true.1 hch j (by simpa using hj)
    rw [hmj] at h1; exact h1
  have hbeh : ∀ i j, i < j → behindB l.toArray mem j = true → mem.getD i false = true → needs l.toArray i l.toArray.size j = true := fun i j hij hb hmi => by
    have h1 : (!(mem.getD i false) || needs l.toArray i l.toArray.size j) = true := List.all_eq_true.1 hb i (List.mem_range.2 hij)
    rw [hmi] at h1; exact h1
  -- what is known when the listed operations are behind
  let cu : Array Bool → Nat := fun listed => cur (fun i => mem.getD i false) (fun i => listed.getD i false) l.length
  let KS : Array Bool → St := fun listed => ⟨ents l.toArray avs (fun i => listed.getD i false) l.length ++ σ.t, ms (cu listed), nks (cu listed)⟩
  have key : ∀ (fuel : Nat) (listed : Array Bool) (G : Gh) (a : Act) (w : World), listed.size = l.length → (∀ j oj, l.toArray[j]? = some oj → listed.getD j false = true → ∀ e ∈ oj.after, Region.binds .any e = true → listed.getD e.on false = true) →
      (List.range l.length).countP (fun i => !listed.getD i false) ≤ fuel → Ok C (KS listed) G a w → wpAny P .any l.toArray (Post C Q) fuel listed a w := by
    intro fuel
    have done : ∀ (listed : Array Bool) (G : Gh) (a : Act) (w : World), listed.size = l.length → Region.ready .any l.toArray listed = [] → Ok C (KS listed) G a w → Post C Q .normal a w := by
      intro listed G a w hsz hr ok
      have hall : ∀ n i, i < n → i < l.length → listed.getD i false = true := by
        intro n
        induction n with
        | zero => intro i h; omega
        | succ n ih =>
          intro i hi hlt
          by_cases e : i < n
          · exact ih i e hlt
          · have hin : i = n := by omega
            subst hin
            cases hli : listed.getD i false with
            | true => rfl
            | false =>
              have hoi : l.toArray[i]? = some l[i] := by simp [hlt]
              have : i ∈ Region.ready .any l.toArray listed := mem_ready.2 ⟨by
                have : listed.getD i true = listed.getD i false := by simp [Array.getD_eq_getD_getElem?, hsz, hlt]
                rw [this]; exact hli, l[i], hoi, fun e he hb => ih e.on (FA i l[i] (Nat.zero_le _) hoi e he hb) (by have := FA i l[i] (Nat.zero_le _) hoi e he hb; omega)⟩
              rw [hr] at this; cases this
      have hcu : ms (cu listed) = ms l.length ∧ nks (cu listed) = nks l.length := by
        have hs : ∀ i, i < l.length → (fun i => mem.getD i false) i = true → (fun i => listed.getD i false) i = decide (i < l.length) := fun i hi _ => by
          show listed.getD i false = _
          rw [hall (i + 1) i (by omega) hi, decide_eq_true hi]
        have h1 := cur_at (f := ms) (fun i hi hf => (mconst i hi hf).1) hs l.length (Nat.le_refl _)
        have h2 := cur_at (f := nks) (fun i hi hf => (mconst i hi hf).2) hs l.length (Nat.le_refl _)
        rw [Nat.min_self] at h1 h2
        exact ⟨h1, h2⟩
      refine ⟨σ', G, k, ok.congr_ (fun t => ?_) (by rw [e1]; exact hcu.1.symm) (by rw [e1]; exact hcu.2.symm)⟩
      rw [e1]
      show look t (_ ++ _) = look t (_ ++ _)
      rw [look_app, look_app, ents_agree (s' := fun i => listed.getD i false) fun i hi _ => (hall (i + 1) i (by omega) hi).symm]
    induction fuel with
    | zero =>
      intro listed G a w hsz hcl hf ok
      have hr : Region.ready .any l.toArray listed = [] := by
        apply List.eq_nil_iff_forall_not_mem.2
        intro j hj
        obtain ⟨h1, oj, h2, _⟩ := mem_ready.1 hj
        have hlt : j < l.length := by have := (Array.getElem?_eq_some_iff.1 h2).1; omega
        have h3 : listed.getD j false = false := by
          have : listed.getD j false = listed.getD j true := by simp [Array.getD_eq_getD_getElem?, hsz, hlt]
          rw [this]; exact h1
        have := List.countP_eq_zero.1 (Nat.le_zero.1 hf) j (List.mem_range.2 hlt)
        simp [h3] at this
      exact ⟨hr, done listed G a w hsz hr ok⟩
    | succ fuel ih =>
      intro listed G a w hsz hcl hf ok
      refine ⟨fun hr => done listed G a w hsz hr ok, fun j hj => ?_⟩
      obtain ⟨h1, oj, h2, h4⟩ := mem_ready.1 hj
      have hlt : j < l.length := by have := (Array.getElem?_eq_some_iff.1 h2).1; omega
      have h3 : listed.getD j false = false := by
        have : listed.getD j false = listed.getD j true := by simp [Array.getD_eq_getD_getElem?, hsz, hlt]
        rw [this]; exact h1
      have hlj : l[j]? = some oj := by simpa using h2
      obtain ⟨d, hd, hdoes⟩ := e2 j oj hlj
      have hlook : ∀ t ∈ oj.looksAt l.toArray, ∀ i, i < l.length → (l.toArray[i]?).bind (·.dst) = some t → listed.getD i false = decide (i < j) := by
        intro t ht i hi hdi
        have hoi : l.toArray[i]? = some l[i] := by simp [hi]
        rw [hoi] at hdi
        have hdi : l[i].dst = some t := hdi
        rcases Nat.lt_trichotomy i j with hij | hij | hij
        · rw [decide_eq_true hij]
          by_cases hno : ∃ e, e ∈ oj.after ∧ Region.binds .any e = true ∧ e.on = i
          · obtain ⟨e, he, hb, rfl⟩ := hno
            exact h4 e he hb
          · exact absurd ht ((Oper.apart_spec (FB i j _ _ (Nat.zero_le _) hij hoi h2 fun e he hb h => hno ⟨e, he, hb, h⟩)).1 t hdi)
        · subst hij; rw [h3]; simp
        · rw [decide_eq_false (by omega)]
          cases hli : listed.getD i false with
          | false => rfl
          | true =>
            by_cases hno : ∃ e, e ∈ (l[i]).after ∧ Region.binds .any e = true ∧ e.on = j
            · obtain ⟨e, he, hb, he2⟩ := hno
              have := hcl i _ hoi hli e he hb
              rw [he2, h3] at this; cases this
            · exact absurd ht ((Oper.apart_spec (FB j i _ _ (Nat.zero_le _) hij h2 hoi fun e he hb h => hno ⟨e, he, hb, h⟩)).2.2 t hdi)
      have hents : ∀ t, look t (ents l.toArray avs (fun _ => true) j) = look t (ents l.toArray avs (fun i => decide (i < j)) l.length) := by
        intro t
        have : ∀ m, j ≤ m → look t (ents l.toArray avs (fun i => decide (i < j)) m) = look t (ents l.toArray avs (fun i => decide (i < j)) j) := by
          intro m
          induction m with
          | zero => intro h; rw [Nat.le_zero.1 h]
          | succ m ihm =>
            intro h
            by_cases e : j = m + 1
            · rw [e]
            · rw [ents, look_app, look_ent1, if_neg (fun x => by have := of_decide_eq_true x.1; omega), ihm (by omega)]; rfl
        rw [this l.length (by omega)]
        exact ents_agree fun i hi _ => (decide_eq_true hi).symm
      have hlooks : ∀ t ∈ oj.looksAt l.toArray, look t (KS listed).t = look t (ents l.toArray avs (fun _ => true) j ++ σ.t) := fun t ht => by
        show look t (_ ++ _) = look t (_ ++ _)
        rw [look_app, look_app, hents t, ents_agree fun i hi hdi => (hlook t ht i hi hdi)]
      -- the next state of knowledge
      have hslots : ∀ t, look t (ents l.toArray avs (fun i => (listed.setIfInBounds j true).getD i false) l.length ++ σ.t) = look t ((d, avs j) :: (KS listed).t) := by
        intro t
        by_cases et : t = d
        · subst et
          rw [look_set_same, look_app, ents_top (j := j) hlt (by rw [h2]; exact hd) (by simp [Array.getD_eq_getD_getElem?, hsz, hlt]) fun i hij hi hdi => ?_]
          · rfl
          · have hoi : l.toArray[i]? = some l[i] := by simp [hi]
            rw [hoi] at hdi
            have hdi : l[i].dst = some t := hdi
            have hne : j ≠ i := by omega
            cases hli : listed.getD i false with
            | false => simpa [Array.getD_eq_getD_getElem?, Array.getElem?_setIfInBounds_ne hne] using hli
            | true =>
              by_cases hno : ∃ e, e ∈ (l[i]).after ∧ Region.binds .any e = true ∧ e.on = j
              · obtain ⟨e, he, hb, he2⟩ := hno
                have := hcl i _ hoi hli e he hb
                rw [he2, h3] at this; cases this
              · exact absurd hdi ((Oper.apart_spec (FB j i _ _ (Nat.zero_le _) hij h2 hoi fun e he hb h => hno ⟨e, he, hb, h⟩)).2.1 t hd)
        · rw [look_set_other et]
          show _ = look t (_ ++ _)
          rw [look_app, look_app]
          congr 1
          refine ents_agree fun i hi hdi => ?_
          by_cases e2 : j = i
          · subst e2
            rw [h2] at hdi
            have : oj.dst = some t := hdi
            rw [hd] at this
            exact absurd (by injection this with h; exact h.symm) et
          · simp [Array.getD_eq_getD_getElem?, Array.getElem?_setIfInBounds_ne e2]
      have hset : ∀ i, j ≠ i → (listed.setIfInBounds j true).getD i false = listed.getD i false := fun i e => by simp [Array.getD_eq_getD_getElem?, Array.getElem?_setIfInBounds_ne e]
      have hsetj : (listed.setIfInBounds j true).getD j false = true := by simp [Array.getD_eq_getD_getElem?, hsz, hlt]
      have hclose : ∀ i oi, l.toArray[i]? = some oi → (listed.setIfInBounds j true).getD i false = true → ∀ e ∈ oi.after, Region.binds .any e = true → (listed.setIfInBounds j true).getD e.on false = true := by
        intro i oi hi hli e he hb
        have mono : ∀ q, listed.getD q false = true → (listed.setIfInBounds j true).getD q false = true := fun q hq => by
          by_cases e : j = q
          · subst e; rw [hq] at h3; cases h3
          · rw [hset q e]; exact hq
        by_cases e2 : j = i
        · subst e2
          rw [h2] at hi; cases hi
          exact mono _ (h4 e he hb)
        · refine mono _ (hcl i oi hi ?_ e he hb)
          rw [← hset i e2]; exact hli
      have hcount : (List.range l.length).countP (fun i => !(listed.setIfInBounds j true).getD i false) ≤ fuel := by
        have := countP_lt (p := fun i => !listed.getD i false) (q := fun i => !(listed.setIfInBounds j true).getD i false) (fun i hi => by
              by_cases e : j = i
              · subst e; rw [hsetj] at hi; cases hi
              · rw [hset i e] at hi; exact hi) hlt (by simp only [h3]; rfl) (by simp only [hsetj]; rfl)
        omega
      unfold wpOp
      simp only [h2]
      rcases hdoes with ⟨hmf, hdN, hmc, hnc, nk, hnk, hmi, hti, hdo⟩ | ⟨hmt, hnle, hsub, hgd, hdo⟩
      · -- memory stays
        have hot : onlyT (KS listed).t (oj.looksAt l.toArray) = onlyT (ents l.toArray avs (fun _ => true) j ++ σ.t) (oj.looksAt l.toArray) := onlyT_congr hlooks
        have hnkle : nk ≤ nks (cu listed) := by
          rcases hnk with rfl | ⟨rfl, hbj⟩
          · have := cur_ge (f := nks) (j := 0) (s := fun i => listed.getD i false) (mem := fun i => mem.getD i false) (fun i hi hf => (mconst i hi hf).2) mmono (fun i _ h => by omega) l.length (Nat.le_refl _)
            rw [Nat.min_zero, n0] at this
            exact this
          · have := cur_ge (f := nks) (j := j) (s := fun i => listed.getD i false) (mem := fun i => mem.getD i false) (fun i hi hf => (mconst i hi hf).2) mmono (fun i hi hij hmi => needs_ready hcl h2 h4 _ (hbeh i j hij hbj hmi)) l.length (Nat.le_refl _)
            rw [show min l.length j = j by omega] at this
            exact this
        have okO : Ok C ⟨onlyT (ents l.toArray avs (fun _ => true) j ++ σ.t) (oj.looksAt l.toArray), Mc, nk⟩ G a w :=
          ok.few (fun i av hx => ⟨by rw [← hot] at hx; exact look_onlyT hx, tsInn_at hti i av hx⟩) fun q o hx => ⟨msSub_at (msub _ (cur_le _)) q o hx, (msInn_at hmi q o hx).1, (msInn_at hmi q o hx).2⟩
        have next : ∀ (v : Value) (G' : Gh) (w' : World), Ok C (KS listed) G' a w' → R G' (avs j) v → Bd nk (avs j) → wpAny P .any l.toArray (Post C Q) fuel (listed.setIfInBounds j true) (a.put oj.dst v) w' := by
          intro v G' w' ok' hr hb
          have ok2 := ok'.set (d := some d) hr (hb.mono hnkle) fun x hx => by cases hx; exact hdN
          rw [hd]
          have hcu : cu (listed.setIfInBounds j true) = cu listed := cur_congr fun i hi hmi => by
            by_cases e : j = i
            · subst e; rw [hmf] at hmi; cases hmi
            · exact hset i e
          exact ih (listed.setIfInBounds j true) G' _ w' (by simpa using hsz) hclose hcount (ok2.congr_ hslots (by show ms _ = ms _; rw [hcu]) (by show nks _ = nks _; rw [hcu]))
        rcases hdo with ⟨hg, hv⟩ | ⟨hg, hv⟩
        · rw [if_pos (guardK_wanted okO hg)]
          exact .inl (hv G a w okO _ _ fun v G' w' hk hr hb => next v G' w' (hk _ _ ok) hr hb)
        · rw [if_neg (by rw [guardK_wanted okO hg]; simp)]
          exact next undef G w ok (by rw [hv]; exact .pu _ _ (.sc _)) (by rw [hv]; exact .sc _)
      · -- memory is written
        have hbj := hchj j hlt hmt
        have hst : ∀ i, i < l.length → mem.getD i false = true → listed.getD i false = decide (i < j) := fun i hi hmi => by
          rcases Nat.lt_trichotomy i j with hij | hij | hij
          · rw [decide_eq_true hij]
            exact needs_ready hcl h2 h4 _ (hbeh i j hij hbj hmi)
          · subst hij; rw [h3]; simp
          · rw [decide_eq_false (by omega)]
            cases hli : listed.getD i false with
            | false => rfl
            | true =>
              have := needs_listed hcl _ _ (hbeh j i hij (hchj i hi hmi) hmt) hli
              rw [h3] at this; cases this
        have hM : ms (cu listed) = ms j ∧ nks (cu listed) = nks j := by
          have h1 := cur_at (f := ms) (fun i hi hf => (mconst i hi hf).1) hst l.length (Nat.le_refl _)
          have h2 := cur_at (f := nks) (fun i hi hf => (mconst i hi hf).2) hst l.length (Nat.le_refl _)
          rw [show min l.length j = j by omega] at h1 h2
          exact ⟨h1, h2⟩
        have hst' : ∀ i, i < l.length → mem.getD i false = true → (listed.setIfInBounds j true).getD i false = decide (i < j + 1) := fun i hi hmi => by
          by_cases e : j = i
          · subst e; rw [hsetj]; simp
          · rw [hset i e, hst i hi hmi]
            have : (i < j) ↔ (i < j + 1) := by omega
            simp [this]
        have hM' : ms (cu (listed.setIfInBounds j true)) = ms (j + 1) ∧ nks (cu (listed.setIfInBounds j true)) = nks (j + 1) := by
          have h1 := cur_at (f := ms) (fun i hi hf => (mconst i hi hf).1) hst' l.length (Nat.le_refl _)
          have h2 := cur_at (f := nks) (fun i hi hf => (mconst i hi hf).2) hst' l.length (Nat.le_refl _)
          rw [show min l.length (j + 1) = j + 1 by omega] at h1 h2
          exact ⟨h1, h2⟩
        rw [if_pos (by simp [Region.wanted, hgd])]
        have ok1 : Ok C ⟨(KS listed).t, ms j, nks j⟩ G a w := ok.congr_ (fun _ => rfl) (by exact hM.1.symm) (by exact hM.2.symm)
        refine .inl (hdo (KS listed).t hlooks G a w ok1 _ _ fun G' a' w' ok' => ?_)
        exact ih (listed.setIfInBounds j true) G' a' w' (by simpa using hsz) hclose hcount (ok'.congr_ hslots (by exact hM'.1) (by exact hM'.2))
  have hcu0 : cu (Array.replicate l.toArray.size false) = 0 := by
    have : ∀ m, cur (fun i => mem.getD i false) (fun i => (Array.replicate l.toArray.size false).getD i false) m = 0 := by
      intro m
      induction m with
      | zero => rfl
      | succ m ih => unfold cur; rw [if_neg (fun x => by have := x.2; rw [rep_getD] at this; cases this), ih]
    exact this _
  refine wp_region_any hm (key _ (Array.replicate l.toArray.size false) G a _ (by simp) (fun j oj _ h => ?_) ?_ (ok.drew.congr_ (fun t => ?_) (by show ms _ = _; rw [hcu0, m0]) (by show nks _ = _; rw [hcu0, n0])))
  · rw [rep_getD] at h; cases h
  · rw [sz]
    exact Nat.le_trans List.countP_le_length (by simp)
  · show look t (_ ++ _) = _
    rw [look_app, ents_none fun i hi _ => ?_]
    · rfl
    · exact rep_getD _ _
end
end Go.Proofs.YteldgllgagjciaaGreat

/- A walk that knows values as trees: slices that are built and made. -/
namespace Go.Proofs.YteldgllgagjciaaGreat
open Go.RowKit
set_option linter.unusedVariables false
set_option linter.unusedSimpArgs false
theorem fold_put : ∀ (v : List Value) (off : Nat) (cells : Array Value), off + v.length ≤ cells.size → (v.zipIdx.foldl (fun cs (c, j) => cs.setIfInBounds (off + j) c) cells).toList = putL off v cells.toList := by
  have key : ∀ (v : List Value) (off s : Nat) (cells : Array Value), off + s + v.length ≤ cells.size → (v.zipIdx s |>.foldl (fun cs (x : Value × Nat) => cs.setIfInBounds (off + x.2) x.1) cells).toList = putL (off + s) v cells.toList := by
    intro v
    induction v with
    | nil =>
      intro off s cells h
      rw [putL_eq _ _ _ (by simpa using h)]
      simp
    | cons x r ih =>
      intro off s cells h
      rw [List.zipIdx_cons, List.foldl_cons, ih off (s + 1) _ (by simp at h ⊢; omega)]
      have hlen : off + s + (r.length + 1) ≤ cells.size := by simpa [Nat.add_assoc] using h
      have hl : off + s < cells.toList.length := by simp; omega
      apply List.ext_getElem?
      intro i
      rw [putL_at (by simp; omega), putL_at (by simp; omega), Array.toList_setIfInBounds, List.length_cons]
      by_cases h2 : i = off + s
      · subst h2
        rw [if_neg (by omega), if_pos (by omega), List.getElem?_set_self hl, Nat.sub_self]; rfl
      · rw [List.getElem?_set_ne (fun e => h2 e.symm)]
        by_cases h3 : off + s + 1 ≤ i ∧ i < off + s + (r.length + 1)
        · rw [if_pos (by omega), if_pos (by omega), show i - (off + s) = (i - (off + (s + 1))) + 1 by omega, List.getElem?_cons_succ]
        · rw [if_neg (by omega), if_neg (by omega)]
  intro v off cells h
  have := key v off 0 cells (by simpa using h)
  simpa using this
theorem putL_head {α : Type} (l m rest : List α) (off : Nat) (h : off = l.length) (done : List α) (hl : m.length ≤ rest.length) : putL off m (l ++ rest) = l ++ m ++ rest.drop m.length := by
  subst h
  rw [putL_eq _ _ _ (by simp; omega), List.take_left, List.drop_append]
  simp
/-- Parts that come in order, each of the size of a row. -/
theorem fill_rows {size : Nat} : ∀ (vs : List Value) (q : Nat) (done rest : List Value), done.length = q * size → rest.length = vs.length * size → (∀ v ∈ vs, v.cells.size = size) →
    Instr.fill (fun i => some (i * size, size)) (done ++ rest).toArray (number q vs) = some (done ++ (vs.map fun v => v.cells.toList).flatten).toArray
  | [], q, done, rest, hd, hr, _ => by
    have : rest = [] := List.eq_nil_of_length_eq_zero (by simpa using hr)
    subst this
    simp [number, Instr.fill]
  | v :: vs, q, done, rest, hd, hr, hv => by
    have h1 : v.cells.size = size := hv v (by simp)
    have hle : size ≤ rest.length := by rw [hr, List.length_cons, Nat.succ_mul]; omega
    have hb : (v.cells.size ≠ size || q * size + v.cells.size > (done ++ rest).toArray.size) = false := by
      rw [h1]; simp [hd]; omega
    have hf := fold_put v.cells.toList (q * size) (done ++ rest).toArray (by simp [h1, hd]; omega)
    have e : (v.cells.zipIdx.foldl (fun cs (c, j) => cs.setIfInBounds (q * size + j) c) (done ++ rest).toArray) = ((done ++ v.cells.toList) ++ rest.drop size).toArray := by
      apply Array.ext'
      rw [← Array.foldl_toList, Array.toList_zipIdx, hf]
      have := putL_head done v.cells.toList rest (q * size) hd.symm done (by simpa [h1] using hle)
      simp only [List.toList_toArray] at this ⊢
      rw [this]
      simp [h1]
    have ih := fill_rows vs (q + 1) (done ++ v.cells.toList) (rest.drop size) (by simp [hd, h1, Nat.succ_mul]) (by simp [hr, Nat.succ_mul]) fun x hx => hv x (by simp [hx])
    show (match some (q * size, size) with | none => none | some (off, sz) => if v.cells.size ≠ sz || off + v.cells.size > (done ++ rest).toArray.size then none else Instr.fill _ _ (number (q + 1) vs)) = _
    simp only
    rw [hb]
    simp only [Bool.false_eq_true, if_false]
    rw [e, ih]
    simp
section
variable {P : Program} {C : Cx} {σ σ' : St} {G G' : Gh} {a : Act} {w w' : World} {o : Oper} {d : Tmp}
theorem run_buildS {T e n m : Nat} {z : Value} {vs : List Value} {parts : Array (Nat × Value)} (hT : P.underlying T = some (.slice e)) (hn : sizeB P e = some n) (hz : (P.info? e).bind (·.zero) = some z) (hp : parts.toList = number 0 vs) (hm : vs.length = m) (hv : ∀ v ∈ vs, v.cells.size = n) (hb : m * n ≤ 16777216) (w : World) :
    (Instr.buildSlice T m parts).run P w = .ok (.slice (some ⟨w.heap.size, 0, none⟩) m m) (w.alloc (.cells (vs.map fun v => v.cells.toList).flatten.toArray e)) := by
  cases hi : P.info? e with
  | none => simp [hi] at hz
  | some i =>
    simp [hi] at hz
    have hfill : ∀ zero : Array Value, Instr.fill (fun i => some (i * n, n)) ((Array.range (m * n)).map (zero[· % zero.size]!)) parts.toList = some (vs.map fun v => v.cells.toList).flatten.toArray := fun zero => by
      have := fill_rows (size := n) vs 0 [] ((Array.range (m * n)).map (zero[· % zero.size]!)).toList (by simp) (by simp [hm]) hv
      rw [hp]
      have e0 : ((Array.range (m * n)).map (zero[· % zero.size]!)) = ([] ++ ((Array.range (m * n)).map (zero[· % zero.size]!)).toList).toArray := by rw [List.nil_append, Array.toArray_toList]
      rw [e0]; exact this
    have h2 : ¬ (m * n > 2 ^ 24) := by simp; omega
    unfold Instr.buildSlice
    by_cases h0 : m * n = 0
    · simp only [Sem.run_bind, run_underlying hT, Result.andThen_ok, run_sizeB hn, if_neg h2, if_pos h0, Sem.run_pure, hfill, newRow, run_newObj]
      rfl
    · simp only [Sem.run_bind, run_underlying hT, Result.andThen_ok, run_sizeB hn, if_neg h2, if_neg h0, Sem.run_pure, zeroValue, typeInfo, run_program, hi, hz, hfill, newRow, run_newObj]
      rfl
/-- Values that can be rows. -/
def rowsB (n : Nat) (l : List AV) : Bool := l.all fun av => av.cellB && Nat.beq av.cells.length n && av.cells.all AV.oneB && av.cells.all AV.pu0
theorem number_map {α β : Type} (f : α → β) : ∀ (n : Nat) (l : List α), (number n l).map (fun x => (x.1, f x.2)) = number n (l.map f)
  | _, [] => rfl
  | n, x :: r => by simp [number, number_map f (n + 1) r]
def numB {α : Type} : Nat → List (Nat × α) → Bool
  | _, [] => true
  | n, x :: r => Nat.beq x.1 n && numB (n + 1) r
theorem numB_eq {α : Type} : ∀ (n : Nat) (l : List (Nat × α)), numB n l = true → l = number n (l.map (·.2))
  | _, [], _ => rfl
  | n, x :: r, h => by
    simp only [numB, Bool.and_eq_true] at h
    rw [List.map_cons, number, ← numB_eq (n + 1) r h.2, ← Nat.eq_of_beq_eq_true h.1]
theorem WO.build0 {T e n m q : Nat} {z : Value} {parts : Array (Nat × Operand)} {xs : List Operand} {avs : List AV} {rows : List (List AV)} (ho : o.op = .buildSlice T m parts) (hT : P.underlying T = some (.slice e)) (hn : sizeB P e = some n) (hz : (P.info? e).bind (·.zero) = some z)
    (hp : parts.toList = number 0 xs) (hm : xs.length = m) (hb : Nat.ble (m * n) 16777216 = true) (hb1 : Nat.ble m 16777216 = true) (hds : o.dst = some d) (hd : Nat.blt d C.N = true) (hx : σ.evs xs = some avs) (hck : rowsB n avs = true) (hr : avs.map AV.cells = rows) (hq : σ.nk = q) :
    WO P C o σ ((σ.new (.row e n rows)).put d (.sl q)) := by
  intro G a w ok N Q' hN
  obtain ⟨e1, e2⟩ := ok.evl hx
  have hck' : ∀ av ∈ avs, av.cellB = true ∧ av.cells.length = n ∧ av.cells.all AV.oneB = true ∧ av.cells.all AV.pu0 = true := fun av hav => by
    have := List.all_eq_true.1 hck av hav
    simp only [Bool.and_eq_true] at this
    exact ⟨this.1.1.1, Nat.eq_of_beq_eq_true this.1.1.2, this.1.2, this.2⟩
  have hv : ∀ v ∈ xs.map a.eval, v.cells.size = n := fun v hv => by
    obtain ⟨i, hi, rfl⟩ := List.getElem_of_mem hv
    have hi2 : i < avs.length := by omega
    obtain ⟨c1, c2, _⟩ := hck' _ (List.getElem_mem hi2)
    rw [(cells_of (e2 i _ _ (List.getElem?_eq_getElem hi2) (List.getElem?_eq_getElem hi)) c1).1, c2]
  have hlm : (xs.map a.eval).length = m := by simpa using hm
  have hrun := run_buildS (P := P) (T := T) (e := e) (n := n) (m := m) (vs := xs.map a.eval) (parts := parts.map fun (i, x) => (i, a.eval x)) hT hn hz (by
    have := number_map a.eval 0 xs
    rw [← this, ← hp]; simp) hlm hv (Nat.le_of_ble_eq_true hb) w
  have hvs : ((xs.map a.eval).map fun v => v.cells.toList).length = rows.length := by rw [← hr]; simp only [List.length_map] at e1 ⊢; exact e1
  have hown := own_built w e n m ((xs.map a.eval).map fun v => v.cells.toList).flatten.toArray (by unfold maxLen; have := Nat.le_of_ble_eq_true hb1; omega) (by
    rw [List.size_toArray, flatten_len (size := n) (fun r hr => by obtain ⟨v, hv', rfl⟩ := List.mem_map.1 hr; simpa using hv v hv')]
    simp [hm])
  obtain ⟨G', hle, hh, hone, ok'⟩ := ok.newRow (w' := w.alloc (.cells ((xs.map a.eval).map fun v => v.cells.toList).flatten.toArray e)) (T := e) (n := n) (rows := rows) (v := .slice (some ⟨w.heap.size, 0, none⟩) m m) (vs := (xs.map a.eval).map fun v => v.cells.toList) (xo := none)
    (fun r hr' => by rw [← hr] at hr'; obtain ⟨av, hav, rfl⟩ := List.mem_map.1 hr'; exact (hck' av hav).2.1) ((Below.refl _ _).alloc ok.bel.size _) (fun x h _ => Below.heap_alloc w _ x h) (fun x h => by cases h)
    (by
      have : ((xs.map a.eval).map fun v => v.cells.toList).length = m := by simpa using hlm
      rw [this]
      exact own_weaken (by simpa using hown) ok.bel.size) (.inr rfl) hvs
    (fun r hr' u hu => by
      obtain ⟨v, hv', rfl⟩ := List.mem_map.1 hr'
      obtain ⟨i, hi, rfl⟩ := List.getElem_of_mem hv'
      have hi2 : i < avs.length := by omega
      obtain ⟨c1, c2, c3, _⟩ := hck' _ (List.getElem_mem hi2)
      obtain ⟨d1, d2⟩ := cells_of (e2 i _ _ (List.getElem?_eq_getElem hi2) (List.getElem?_eq_getElem hi)) c1
      obtain ⟨j, hj, rfl⟩ := List.getElem_of_mem hu
      have hj2 : j < (avs[i]).cells.length := by rw [← d1]; simpa using hj
      exact oneB_of (d2 j _ _ (List.getElem?_eq_getElem hj2) (by simp at hj; simp [hj])) (List.all_eq_true.1 c3 _ (List.getElem_mem hj2)))
    (fun i r r' h1 h2 => by
      rw [← hr, List.getElem?_map] at h1
      rw [List.getElem?_map] at h2
      cases q1 : avs[i]? with
      | none => simp [q1] at h1
      | some av =>
        cases q2 : (xs.map a.eval)[i]? with
        | none => simp [q2] at h2
        | some v =>
          simp [q1] at h1
          simp only [q2, Option.map_some, Option.some.injEq] at h2
          subst h1 h2
          obtain ⟨c1, c2, _, c4⟩ := hck' av (List.mem_of_getElem? q1)
          obtain ⟨d1, d2⟩ := cells_of (e2 i av v q1 q2) c1
          exact ⟨by simpa using d1, fun j x u hx hu => (pu0_bd (List.all_eq_true.1 c4 x (List.mem_of_getElem? hx)) 0).rp (d2 j x u hx (by simpa using hu))⟩)
  unfold Oper.wp execOp
  simp only [ho, Sem.run_bind, hrun, Result.andThen_ok, Sem.run_pure, Oper.upon]
  rw [hds]
  subst hq
  exact hN G' _ _ (ok'.set (d := some d) (hh ▸ R.sl (G := G') σ.nk (by rw [hh]; exact hone)) (.sl _ (Nat.lt_succ_self _)) fun x hx => by cases hx; exact of_blt hd)
theorem WO.build {T e n m q : Nat} {z : Value} {parts : Array (Nat × Operand)} {avs : List AV} {rows : List (List AV)} (ho : o.op = .buildSlice T m parts) (hT : P.underlying T = some (.slice e)) (hn : sizeB P e = some n) (hz : (P.info? e).bind (·.zero) = some z)
    (hp : numB 0 parts.toList = true) (hm : parts.toList.length = m) (hb : Nat.ble (m * n) 16777216 = true) (hb1 : Nat.ble m 16777216 = true) (hds : o.dst = some d) (hd : Nat.blt d C.N = true) (hx : σ.evs (parts.toList.map (·.2)) = some avs) (hck : rowsB n avs = true) (hr : avs.map AV.cells = rows) (hq : σ.nk = q) :
    WO P C o σ ((σ.new (.row e n rows)).put d (.sl q)) :=
  WO.build0 ho hT hn hz (numB_eq 0 _ hp) (by simpa using hm) hb hb1 hds hd hx hck hr hq
end
end Go.Proofs.YteldgllgagjciaaGreat

/- A walk that knows values as trees: struct literals, made slices, strings, parts; operations in regions that draw their order. -/
namespace Go.Proofs.YteldgllgagjciaaGreat
open Go.RowKit
set_option linter.unusedVariables false
set_option linter.unusedSimpArgs false
def placesB (P : Program) (T : TypeId) : Option (List (Nat × Nat)) :=
  match P.underlying T with
  | some (.struct fields) => fields.toList.mapM fun f => (P.info? f.type).map fun i => (f.offset, i.size)
  | _ => none
def fillA (places : List (Nat × Nat)) : List AV → List (Nat × AV) → Option (List AV)
  | cells, [] => some cells
  | cells, (i, av) :: r =>
    match places[i]? with
    | some (off, sz) => bif av.cellB && Nat.beq av.cells.length sz && Nat.ble (off + sz) cells.length then fillA places (putL off av.cells cells) r else none
    | none => none
def pairUp : List (Nat × Operand) → List AV → List (Nat × AV)
  | (i, _) :: r, av :: s => (i, av) :: pairUp r s
  | _, _ => []
section
variable {P : Program} {C : Cx} {σ σ' : St} {G G' : Gh} {a : Act} {w w' : World} {o : Oper} {d : Tmp} {ops : Array Oper} {Q : Exit → St → Prop}
theorem fillA_of {places : List (Nat × Nat)} : ∀ (parts : List (Nat × AV)) (vals : List (Nat × Value)) (cells : List AV) (cs : Array Value) (l : List AV), fillA places cells parts = some l → vals.length = parts.length →
    (∀ (q : Nat) x y, parts[q]? = some x → vals[q]? = some y → y.1 = x.1 ∧ R G x.2 y.2) → cs.size = cells.length → (∀ (i : Nat) x u, cells[i]? = some x → cs[i]? = some u → R G x u) →
    ∃ cs', Instr.fill (places.toArray[·]?) cs vals = some cs' ∧ cs'.size = l.length ∧ ∀ (i : Nat) x u, l[i]? = some x → cs'[i]? = some u → R G x u
  | [], vals, cells, cs, l, h, hl, _, hs, hc => by
    cases h
    have : vals = [] := List.eq_nil_of_length_eq_zero hl
    subst this
    exact ⟨cs, rfl, hs, hc⟩
  | (i, av) :: r, [], cells, cs, l, h, hl, _, hs, hc => by cases hl
  | (i, av) :: r, (j, v) :: vr, cells, cs, l, h, hl, hp, hs, hc => by
    obtain ⟨e1, e2⟩ := hp 0 _ _ rfl rfl
    simp only at e1 e2
    subst e1
    unfold fillA at h
    cases hpl : places[j]? with
    | none => simp [hpl] at h
    | some x =>
      obtain ⟨off, sz⟩ := x
      simp only [hpl] at h
      cases hb : av.cellB && Nat.beq av.cells.length sz && Nat.ble (off + sz) cells.length with
      | false => rw [hb] at h; cases h
      | true =>
        rw [hb] at h
        simp only [cond_true] at h
        simp only [Bool.and_eq_true] at hb
        obtain ⟨⟨b1, b2⟩, b3⟩ := hb
        have b2 := Nat.eq_of_beq_eq_true b2
        have b3 := Nat.le_of_ble_eq_true b3
        obtain ⟨c1, c2⟩ := cells_of e2 b1
        have hfit : off + v.cells.toList.length ≤ cs.size := by rw [hs]; simp [c1, b2]; omega
        have hfit2 : off + av.cells.length ≤ cells.length := by omega
        obtain ⟨cs', f1, f2, f3⟩ := fillA_of r vr (putL off av.cells cells) (putL off v.cells.toList cs.toList).toArray l h (by simpa using hl) (fun q x y a b => hp (q + 1) x y (by simpa using a) (by simpa using b))
          (by rw [List.size_toArray, putL_len (by simpa using hfit), putL_len hfit2]; simpa using hs)
          (fun q x u a b => putL_rel (R G) hfit2 (by rw [Array.length_toList]; exact c1) (by rw [Array.length_toList]; exact hs) (fun q x y a b => c2 q x y a (by simpa using b)) (fun q x y a b => hc q x y a (by simpa using b)) q x u a (by simpa using b))
        refine ⟨cs', ?_, f2, f3⟩
        have hf := fold_put v.cells.toList off cs hfit
        have e : (v.cells.zipIdx.foldl (fun cs (c, j) => cs.setIfInBounds (off + j) c) cs) = (putL off v.cells.toList cs.toList).toArray := by
          apply Array.ext'
          rw [← Array.foldl_toList, Array.toList_zipIdx, hf]
        have hpl' : places.toArray[j]? = some (off, sz) := by simpa using hpl
        show (match places.toArray[j]? with | none => none | some (off, sz) => if v.cells.size ≠ sz || off + v.cells.size > cs.size then none else Instr.fill _ _ vr) = _
        rw [hpl']
        simp only
        have hbad : (v.cells.size ≠ sz || off + v.cells.size > cs.size) = false := by
          rw [c1, b2]; simp; rw [hs]; omega
        rw [hbad]
        simp only [Bool.false_eq_true, if_false]
        rw [e]; exact f1
/-- A struct literal. -/
theorem WV.build {T : TypeId} {parts : Array (Nat × Operand)} {z : Value} {places : List (Nat × Nat)} {avs l : List AV} (ho : o.op = .build T parts) (hz : (P.info? T).bind (·.zero) = some z) (hpl : placesB P T = some places)
    (hx : σ.evs (parts.toList.map (·.2)) = some avs) (hf : fillA places (z.cells.toList.map .sc) (pairUp parts.toList avs) = some l) : WV P C o σ (.ag l) := by
  have main : ∀ G a w, Ok C σ G a w → ∃ cs, (Instr.build T (parts.map fun (i, x) => (i, a.eval x))).run P w = .ok (.agg cs) w ∧ cs.size = l.length ∧ ∀ (i : Nat) x u, l[i]? = some x → cs[i]? = some u → R G x u := by
    intro G a w ok
    obtain ⟨e1, e2⟩ := ok.evl hx
    have hlen : avs.length = parts.toList.length := by simpa using e1.symm
    have hpu : ∀ (ps : List (Nat × Operand)) (ys : List AV), ys.length = ps.length → (pairUp ps ys).length = ps.length ∧ ∀ (q : Nat) x, (pairUp ps ys)[q]? = some x → ∃ p av, ps[q]? = some p ∧ ys[q]? = some av ∧ x = (p.1, av) := by
      intro ps
      induction ps with
      | nil => intro ys h; exact ⟨by cases ys <;> rfl, fun q x hx => by cases ys <;> simp [pairUp] at hx⟩
      | cons p r ih =>
        intro ys h
        cases ys with
        | nil => simp at h
        | cons av s =>
          obtain ⟨h1, h2⟩ := ih s (by simpa using h)
          refine ⟨by simp [pairUp, h1], fun q x hx => ?_⟩
          cases q with
          | zero => cases hx; exact ⟨p, av, rfl, rfl, rfl⟩
          | succ q => exact h2 q x (by simpa [pairUp] using hx)
    obtain ⟨p1, p2⟩ := hpu parts.toList avs hlen
    obtain ⟨cs', f1, f2, f3⟩ := fillA_of (G := G) (pairUp parts.toList avs) (parts.toList.map fun (i, x) => (i, a.eval x)) _ z.cells l hf (by simp [p1]) (fun q x y hxq hy => by
      obtain ⟨p, av, q1, q2, rfl⟩ := p2 q x hxq
      rw [List.getElem?_map, q1] at hy
      simp at hy
      subst hy
      exact ⟨rfl, e2 q av _ q2 (by rw [List.map_map, List.getElem?_map, q1]; rfl)⟩) (by simp) (fun i x u hxi hu => by
      rw [List.getElem?_map, show z.cells.toList[i]? = z.cells[i]? by simp, hu] at hxi
      cases hxi
      exact .pu _ _ (.sc _))
    refine ⟨cs', ?_, f2, f3⟩
    apply run_build
    unfold Program.built
    cases hi : P.info? T with
    | none => simp [hi] at hz
    | some it =>
      simp [hi] at hz
      unfold placesB at hpl
      cases hu : P.underlying T with
      | none => simp [hu] at hpl
      | some u =>
        cases u with
        | struct fields =>
          simp only [hu] at hpl
          simp only [hz, hpl]
          simpa using f1
        | _ => simp [hu] at hpl
  refine WV.val (fun G a w ok => ?_) fun G a w ok => ?_
  · obtain ⟨_, b2⟩ : True ∧ ∀ av ∈ avs, Bd σ.nk av := ⟨trivial, by
      have : ∀ (xs : List Operand) (ys : List AV), σ.evs xs = some ys → ∀ av ∈ ys, Bd σ.nk av := by
        intro xs
        induction xs with
        | nil => intro ys h av hav; cases h; cases hav
        | cons x r ih =>
          intro ys h av hav
          unfold St.evs at h
          cases h1 : σ.ev x with
          | none => simp [h1] at h
          | some y =>
            cases h2 : σ.evs r with
            | none => simp [h1, h2] at h
            | some l' =>
              simp [h1, h2] at h
              subst h
              rcases List.mem_cons.1 hav with rfl | hav
              · exact (ok.evr h1).1
              · exact ih l' h2 av hav
      exact this _ _ hx⟩
    have hfb : ∀ (parts : List (Nat × AV)) (cells l : List AV), fillA places cells parts = some l → (∀ x ∈ parts, Bd σ.nk x.2) → (∀ (i : Nat) x, cells[i]? = some x → Bd σ.nk x) → ∀ (i : Nat) x, l[i]? = some x → Bd σ.nk x := by
      intro parts
      induction parts with
      | nil => intro cells l h _ hc; cases h; exact hc
      | cons p r ih =>
        intro cells l h hp hc
        obtain ⟨i, av⟩ := p
        unfold fillA at h
        cases hpl : places[i]? with
        | none => simp [hpl] at h
        | some x =>
          obtain ⟨off, sz⟩ := x
          simp only [hpl] at h
          cases hb : av.cellB && Nat.beq av.cells.length sz && Nat.ble (off + sz) cells.length with
          | false => rw [hb] at h; cases h
          | true =>
            rw [hb] at h
            simp only [Bool.and_eq_true] at hb
            have b2 := Nat.eq_of_beq_eq_true hb.1.2
            have b3 := Nat.le_of_ble_eq_true hb.2
            refine ih _ _ h (fun x hx => hp x (by simp [hx])) fun q x hx => ?_
            rw [putL_at (by omega)] at hx
            split at hx
            · exact cells_bd (hp (i, av) (by simp)) _ x hx
            · exact hc q x hx
    refine .ag _ (hfb _ _ _ hf (fun x hx => ?_) fun i x hx => ?_)
    · have : ∀ (ps : List (Nat × Operand)) (ys : List AV), x ∈ pairUp ps ys → x.2 ∈ ys := by
        intro ps
        induction ps with
        | nil => intro ys h; cases ys <;> simp [pairUp] at h
        | cons p r ih =>
          intro ys h
          cases ys with
          | nil => simp [pairUp] at h
          | cons av s =>
            rcases List.mem_cons.1 (by simpa [pairUp] using h) with rfl | h
            · simp
            · exact List.mem_cons_of_mem _ (ih s h)
      exact b2 _ (this _ _ hx)
    · rw [List.getElem?_map] at hx
      cases hq : z.cells.toList[i]? with
      | none => simp [hq] at hx
      | some u => simp [hq] at hx; rw [← hx]; exact .sc _
  · obtain ⟨cs, h1, h2, h3⟩ := main G a w ok
    exact ⟨.agg cs, by unfold execOp; simp only [ho, Sem.run_bind, h1, Result.andThen_ok, Sem.run_pure], .ag l cs h2 h3⟩
end
end Go.Proofs.YteldgllgagjciaaGreat

/- A walk that knows values as trees: guards; made slices; strings; parts of slices; what writes in a region that draws its order. -/
namespace Go.Proofs.YteldgllgagjciaaGreat
open Go.RowKit
set_option linter.unusedVariables false
set_option linter.unusedSimpArgs false
def gdn (v : Value) (b : Bool) : Bool :=
  match vb v with
  | some c => !(c == b)
  | none => true
section
variable {P : Program} {C : Cx} {σ σ' : St} {G G' : Gh} {a : Act} {w w' : World} {o oj : Oper} {d d0 : Tmp} {ops : Array Oper} {rest : List Oper} {Q : Exit → St → Prop} {j : Nat} {b c : Bool}
theorem WL.opgv {av : AV} (hg : o.guard = some (j, b)) (hj : ops[j]? = some oj) (hd0 : oj.dst = some d0) (hv : look d0 σ.t = some (.sc (.bool b))) (hds : o.dst = some d) (hd : Nat.blt d C.N = true) (h : WV P C o σ av) (k : WL P C ops rest (σ.put d av) Q) : WL P C ops (o :: rest) σ Q :=
  WL.opg hg hj hd0 hv (WO.of_wv hds hd h) k
theorem WL.opno {v : Value} (hg : o.guard = some (j, b)) (hj : ops[j]? = some oj) (hd0 : oj.dst = some d0) (hv : look d0 σ.t = some (.sc v)) (hb : gdn v b = true) (hds : o.dst = some d) (hd : Nat.blt d C.N = true) (k : WL P C ops rest (σ.put d (.sc undef)) Q) : WL P C ops (o :: rest) σ Q :=
  WL.opn hg hj hd0 hv (by
    unfold gdn at hb
    cases h : vb v with
    | none => simp
    | some c => rw [h] at hb; cases c <;> cases b <;> first | (intro h2; cases h2; done) | cases hb) hds hd k
theorem WL.partG (hg : o.guard = some (j, b)) (hj : ops[j]? = some oj) (hd0 : oj.dst = some d0) (hv : look d0 σ.t = some (.sc (.bool c))) (h1 : c = true → WL P C ops (o :: rest) (σ.put d0 (.sc (.bool true))) Q) (h2 : c = false → WL P C ops (o :: rest) (σ.put d0 (.sc (.bool false))) Q) : WL P C ops (o :: rest) σ Q :=
  WL.part hv h1 h2
theorem W.condT {x : Operand} {p q : Code} (hc : σ.ev x = some (.sc (.bool true))) (h : W P C p σ Q) : W P C (.cond x p q) σ Q := W.cond hc (fun _ => h) (fun h => by cases h)
theorem W.condF {x : Operand} {p q : Code} (hc : σ.ev x = some (.sc (.bool false))) (h : W P C q σ Q) : W P C (.cond x p q) σ Q := W.cond hc (fun h => by cases h) (fun _ => h)
theorem WV.cast {av av' : AV} (h : WV P C o σ av) (e : av = av') : WV P C o σ av' := e ▸ h
/-! What writes, whatever else is known. -/
theorem ev_agree {t : List (Nat × AV)} {M : List (Nat × AO)} {nk : Nat} (H : ∀ q ∈ o.looksAt ops, look q t = look q σ.t) {x : Operand} (hx : x ∈ o.op.operands.toList) : (⟨t, M, nk⟩ : St).ev x = σ.ev x := by
  cases x with
  | tmp q => exact H q (List.mem_append_left _ (List.mem_filterMap.2 ⟨.tmp q, hx, rfl⟩))
  | const v => rfl
  | func f => rfl
  | global g => rfl
theorem src_same {t : List (Nat × AV)} {nk : Nat} (n : Nat) (av : AV) : (⟨t, σ.M, nk⟩ : St).src n av = σ.src n av := by cases av <;> rfl
theorem evs_agree {t : List (Nat × AV)} {M : List (Nat × AO)} {nk : Nat} (H : ∀ q ∈ o.looksAt ops, look q t = look q σ.t) : ∀ {xs : List Operand}, (∀ x ∈ xs, x ∈ o.op.operands.toList) → (⟨t, M, nk⟩ : St).evs xs = σ.evs xs
  | [], _ => rfl
  | x :: r, h => by
    unfold St.evs
    rw [ev_agree H (h x (by simp)), evs_agree H fun y hy => h y (by simp [hy])]
theorem DoesM.append {T e n by_ k m : Nat} {z : Value} {i : TypeInfo} {x y : Operand} {rows rows2 rows' : List (List AV)} {av2 : AV} {M' : List (Nat × AO)} {nk' : Nat} (hg : o.guard = none) (ho : o.op = .call { callee := .builtin .append, args := #[x, y], argTypes := #[T, T] }) (hT : P.underlying T = some (.slice e))
    (hi : P.info? e = some i) (hz : i.zero = some z) (hn : i.size = n) (hby : i.bytes = by_) (hzs : z.cells.size = n) (h0 : Nat.blt 0 n = true) (hds : o.dst = some d) (hd : Nat.blt d C.N = true)
    (hx : σ.ev x = some (.sl k)) (hk : look k σ.M = some (.row e n rows)) (hy : σ.ev y = some av2) (hs : σ.src n av2 = some rows2) (hm : σ.nk = m) (hb1 : rows.length + rows2.length ≤ 1000000000) (hb2 : Nat.ble by_ 100000 = true) (hrr : rows ++ rows2 = rows') (hM : (m, .row e n rows') :: rem k σ.M = M') (hnk : m + 1 = nk') :
    DoesM P C ops o σ d (.sl m) M' nk' := by
  subst hM hnk
  refine ⟨hg, fun t H => ?_⟩
  have hmem : ∀ q ∈ [x, y], q ∈ o.op.operands.toList := fun q hq => by rw [ho]; simp [Op.operands, Call.operands] at hq ⊢; exact hq
  have := WO.append (P := P) (C := C) (σ := ⟨t, σ.M, σ.nk⟩) ho hT hi hz hn hby hzs h0 hds hd ((ev_agree H (hmem x (by simp))).trans hx) hk ((ev_agree H (hmem y (by simp))).trans hy) ((src_same n av2).trans hs) hm hb1 hb2 hrr
  subst hm
  exact this
theorem DoesM.build {T e n m q : Nat} {z : Value} {parts : Array (Nat × Operand)} {avs : List AV} {rows : List (List AV)} {M' : List (Nat × AO)} {nk' : Nat} (hg : o.guard = none) (ho : o.op = .buildSlice T m parts) (hT : P.underlying T = some (.slice e)) (hn : sizeB P e = some n) (hz : (P.info? e).bind (·.zero) = some z)
    (hp : numB 0 parts.toList = true) (hm : parts.toList.length = m) (hb : Nat.ble (m * n) 16777216 = true) (hb1 : Nat.ble m 16777216 = true) (hds : o.dst = some d) (hd : Nat.blt d C.N = true) (hx : σ.evs (parts.toList.map (·.2)) = some avs) (hck : rowsB n avs = true) (hr : avs.map AV.cells = rows) (hq : σ.nk = q) (hM : (q, .row e n rows) :: σ.M = M') (hnk : q + 1 = nk') :
    DoesM P C ops o σ d (.sl q) M' nk' := by
  subst hM hnk
  refine ⟨hg, fun t H => ?_⟩
  have hmem : ∀ x ∈ parts.toList.map (·.2), x ∈ o.op.operands.toList := fun x hx' => by
    rw [ho]
    simp only [Op.operands]
    exact hx'
  have := WO.build (P := P) (C := C) (σ := ⟨t, σ.M, σ.nk⟩) ho hT hn hz hp hm hb hb1 hds hd ((evs_agree H hmem).trans hx) hck hr hq
  subst hq
  exact this
end
/-- A nil slice in a box is one of its own. -/
theorem Tr.nilBox {C : Cx} {σ : St} {k j m : Nat} {T' : TypeId} {cells cells' : List AV} (T : TypeId) (n : Nat) (hk : look k σ.M = some (.box T' cells)) (hj : cells[j]? = some (.sc (.slice none 0 0))) (hm : σ.nk = m) (hc : cells.set j (.sl m) = cells') :
    Tr C σ ((σ.new (.row T n [])).upd k (.box T' cells')) := fun G a w ok => by
  obtain ⟨G', hle, hh, hone, ok'⟩ := ok.newRow (w' := w) (T := T) (n := n) (rows := []) (v := .slice none 0 0) (vs := []) (xo := none) (by simp) (Below.refl _ _) (fun _ _ _ => rfl) (fun x h => by cases h) ⟨by simp, .inl ⟨rfl, rfl⟩⟩ (.inl rfl) rfl (by simp) (fun i r r' h => by simp at h)
  subst hm hc
  have hkn : k ≠ σ.nk := Nat.ne_of_lt (ok.ob k _ hk).1
  have hk' : look k (σ.new (.row T n [])).M = some (.box T' cells) := by
    rw [show look k (σ.new (.row T n [])).M = look k σ.M from look_set_other hkn]; exact hk
  obtain ⟨g1, g2, g3, cs, g4, g5, g6⟩ := ok'.ob k _ hk'
  have hsl : R G' (.sl σ.nk) (.slice none 0 0) := by
    have := R.sl (G := G') σ.nk (by rw [hh]; exact hone)
    rwa [hh] at this
  have hl : ∀ k' o, look k' ((σ.new (.row T n [])).upd k (.box T' (cells.set j (.sl σ.nk)))).M = some o → (k' = k ∧ o = .box T' (cells.set j (.sl σ.nk))) ∨ (k' ≠ k ∧ look k' (σ.new (.row T n [])).M = some o) := fun k' o hx => by
    by_cases e : k' = k
    · subst e
      rw [show look k' (St.upd (σ.new (.row T n [])) k' (.box T' (cells.set j (.sl σ.nk)))).M = some _ from look_set_same] at hx
      cases hx
      exact .inl ⟨rfl, rfl⟩
    · rw [show look k' (St.upd (σ.new (.row T n [])) k (.box T' (cells.set j (.sl σ.nk)))).M = look k' (σ.new (.row T n [])).M from look_set_other e] at hx
      exact .inr ⟨e, hx⟩
  refine ⟨G', ok'.sz, ok'.df, ok'.tm, ok'.bel, ok'.fw, ok'.f0, ok'.f1, fun k' o h => ?_, ?_, ?_⟩
  · rcases hl k' o h with ⟨rfl, rfl⟩ | ⟨e, y⟩
    · refine ⟨g1, fun i av x => ?_, g3, cs, g4, by simpa using g5, fun i av u x y => ?_⟩
      · rw [List.getElem?_set] at x
        split at x
        · split at x
          · cases x; exact .sl _ (Nat.lt_succ_self _)
          · cases x
        · exact g2 i av x
      · by_cases e : j = i
        · subst e
          have hlt : j < cells.length := (List.getElem?_eq_some_iff.1 hj).1
          rw [List.getElem?_set_self hlt] at x
          cases x
          have := (g6 j _ u hj y).sc_eq
          rw [this]; exact hsl
        · rw [List.getElem?_set_ne e] at x
          exact g6 i av u x y
    · exact ok'.ob k' o y
  · intro k1 o1 k2 o2 x h1 h2 h3 h4
    have own_box : ∀ k' o, look k' ((σ.new (.row T n [])).upd k (.box T' (cells.set j (.sl σ.nk)))).M = some o → ∃ o', look k' (σ.new (.row T n [])).M = some o' ∧ o'.own G' k' = o.own G' k' := fun k' o h => by
      rcases hl k' o h with ⟨rfl, rfl⟩ | ⟨e, y⟩
      · exact ⟨_, hk', rfl⟩
      · exact ⟨o, y, rfl⟩
    obtain ⟨p1, a1, b1⟩ := own_box k1 o1 h1
    obtain ⟨p2, a2, b2⟩ := own_box k2 o2 h2
    exact ok'.dj k1 p1 k2 p2 x a1 a2 (b1.trans h3) (b2.trans h4)
  · intro k1 o1 x p u h1 h2 h3
    rcases hl k1 o1 h1 with ⟨rfl, rfl⟩ | ⟨e, y⟩
    · exact ok'.dF k1 _ x p u hk' h2 h3
    · exact ok'.dF k1 o1 x p u y h2 h3
theorem callF {P : Program} {f : FuncId} {fn : Func} (h : P.funcs[f]? = some fn) (hn : (fn.name == "runtime.NumGoroutine") = false) (hb : fn.body.isNone = false) : ∀ vs w, (callFunc f vs).run P w = .ok (.enter f vs) w := fun vs w => by
  unfold callFunc
  simp only [Sem.run_bind, run_program, Result.andThen_ok, h, hn, hb, Bool.false_eq_true, if_false]
  rfl
/-- A struct that lies in a box is handed back. -/
theorem fin_cell {P : Program} {fn : Func} {C : Cx} {σ : St} {t : Tmp} {T T' : TypeId} {k n : Nat} {cells : List AV} {res : AV} (h : fn.results = #[.cell t T]) (hT : aggB P T = some true) (hn : sizeB P T = some n) (ht : look t σ.t = some (.pt k 0 0)) (hk : look k σ.M = some (.box T' cells)) (hl : cells.length = n) (hr : .ag cells = res) (hp : cells.all AV.pu0 = true) :
    QFin P fn C res .ret σ := by
  refine ⟨.inr rfl, fun G a w ok => ?_⟩
  subst hr
  obtain ⟨p, ep, p1, p2, p3⟩ := (ok.tm t _ ht).2.2.pt_of
  obtain ⟨_, _, g3, cs, g4, g5, g6⟩ := ok.ob k _ hk
  obtain rfl := addr_eq p1 p2 p3
  rw [Nat.zero_mul, Nat.zero_add] at ep
  refine ⟨.agg cs, G.F, ?_, fun _ _ h => h, ok.fw, fun _ _ h => .inl h, .ag _ _ g5 fun i av u x y => (pu0_bd (List.all_eq_true.1 hp av (List.mem_of_getElem? x)) 0).rp (g6 i av u x y)⟩
  unfold aggB at hT
  cases hu : P.underlying T with
  | none => simp [hu] at hT
  | some d =>
    refine results_cell_row h a.tmps w (G.b k) T' cs (0, 0) d ep g4 hu ?_ ?_
    · rw [hu] at hT; cases d <;> simp_all
    · have : sizeB P T = some cs.size := by rw [hn, g5, hl]
      exact this
theorem letsOut_mono {Q Q' : Exit → Act → World → Prop} (h : ∀ e a w, Q e a w → Q' e a w) (k : LetsOut Q) : LetsOut Q' := let ⟨a, w, q⟩ := k; ⟨a, w, h _ a w q⟩
theorem wp_monoQ {P : Program} {o : Oper} {a : Act} {w : World} {K K' : Act → World → Prop} {Q Q' : Exit → Act → World → Prop} (hk : ∀ a w, K a w → K' a w) (hq : ∀ e a w, Q e a w → Q' e a w) (h : o.wp P a w K Q) : o.wp P a w K' Q' := by
  unfold Oper.wp at *
  generalize (execOp a.eval o).run P w = r at *
  cases r with
  | ok n w' =>
    cases n <;> simp only [Oper.upon] at h ⊢
    case value v => exact hk _ _ h
    case skip => exact hk _ _ h
    case defer d => exact hk _ _ h
    case enter f args =>
      refine h.mono fun e w'' x => ?_
      cases e with
      | returned v => exact hk _ _ x
      | panicked c => exact hq _ _ _ x
      | outgrown => exact letsOut_mono hq x
    case row r args => exact h.mono fun v w'' x => hk _ _ x
  | halt x w' =>
    cases x <;> simp only [Oper.upon] at h ⊢
    exact hq _ _ _ h
theorem wpList_mono' {P : Program} {ops : Array Oper} {Q Q' : Exit → Act → World → Prop} : ∀ {l : List Oper} {a : Act} {w : World}, wpList P ops Q l a w → (∀ e a w, Q e a w → Q' e a w) → wpList P ops Q' l a w
  | [], a, w, h, hq => hq _ _ _ h
  | o :: rest, a, w, h, hq => by
    unfold wpList at *
    split at h
    · rename_i hw
      rw [if_pos hw]
      rcases h with h | ⟨h1, h2⟩
      · exact .inl (wp_monoQ (fun a w x => wpList_mono' x hq) hq h)
      · exact .inr ⟨h1, letsOut_mono hq h2⟩
    · rename_i hw
      rw [if_neg hw]
      exact wpList_mono' h hq
/-- The ways of a statement meet in one state. -/
theorem W.meet {P : Program} {C : Cx} {σ : St} {Q Q2 : Exit → St → Prop} {x y : Code} (σm : St) (h : W P C x σ (QThen (fun s => Tr C s σm) Q)) (k : W P C y σm Q2) : W P C x σ (QThen (fun s => W P C y s Q2) Q) :=
  W.mono h fun e s q => by
    cases e with
    | normal => exact W.tr q k
    | _ => exact q
/-- The same, in the region ahead of an 'if'. -/
theorem WL.meet2 {P : Program} {C : Cx} {σ : St} {ops : Array Oper} {l : List Oper} {Q Q1 Q2 : Exit → St → Prop} {x y : Code} (σm : St) (h : WL P C ops l σ (QThen (fun s => W P C x s (QThen (fun s => Tr C s σm) Q)) Q1)) (k : W P C y σm Q2) :
    WL P C ops l σ (QThen (fun s => W P C x s (QThen (fun s => W P C y s Q2) Q)) Q1) := fun G a w ok =>
  wpList_mono' (h G a w ok) fun e a w ⟨s, g, q, o⟩ => ⟨s, g, by
    cases e with
    | normal => exact W.meet σm q k
    | _ => exact q, o⟩
end Go.Proofs.YteldgllgagjciaaGreat

/- A walk that knows values as trees: regions that draw their order, walked one operation after the other. -/
namespace Go.Proofs.YteldgllgagjciaaGreat
open Go.RowKit
set_option linter.unusedVariables false
/-- As `DL`, with what follows. -/
def DK (P : Program) (C : Cx) (ops : Array Oper) (l : List Oper) (σ : St) (Q : Exit → St → Prop) : Prop := ∃ σ', DL P C ops l σ σ' ∧ Q .normal σ'
/-- As `DM`, with what follows. -/
def DMK (P : Program) (C : Cx) (ops : Array Oper) (mem : List Bool) (Mc : List (Nat × AO)) (nk0 k : Nat) (l : List Oper) (σ : St) (Q : Exit → St → Prop) : Prop := ∃ σ', DM P C ops mem Mc nk0 k l σ σ' ∧ Q .normal σ'
section
variable {P : Program} {C : Cx} {σ : St} {ops : Array Oper} {l rest : List Oper} {o : Oper} {d : Tmp} {av : AV} {Q : Exit → St → Prop}
theorem W.drawK {id : Nat} (hm : P.follows .mixedOrders = true) (hB : Region.lexB .any l.toArray = true) (h : DK P C l.toArray l σ Q) : W P C (.region id l.toArray true) σ Q :=
  let ⟨_, a, b⟩ := h; W.draw hm hB a b
theorem DK.nil (k : Q .normal σ) : DK P C ops [] σ Q := ⟨σ, .nil σ, k⟩
theorem DK.op (hd : o.dst = some d) (hN : Nat.blt d C.N = true) (h : Does P C ops o σ av) (k : DK P C ops rest (σ.put d av) Q) : DK P C ops (o :: rest) σ Q :=
  let ⟨s, a, b⟩ := k; ⟨s, .op o rest d av σ s hd hN h a, b⟩
theorem DK.val (hd : o.dst = some d) (hN : Nat.blt d C.N = true) (hg : guardK ops o (σ.only (o.looksAt ops)) = some true) (h : WV P C o (σ.only (o.looksAt ops)) av) (k : DK P C ops rest (σ.put d av) Q) : DK P C ops (o :: rest) σ Q := DK.op hd hN (.inl ⟨hg, h⟩) k
theorem DK.no (hd : o.dst = some d) (hN : Nat.blt d C.N = true) (hg : guardK ops o (σ.only (o.looksAt ops)) = some false) (k : DK P C ops rest (σ.put d (.sc undef)) Q) : DK P C ops (o :: rest) σ Q := DK.op hd hN (.inr ⟨hg, rfl⟩) k
theorem W.drawMK {id : Nat} (mem : List Bool) (Mc : List (Nat × AO)) (hm : P.follows .mixedOrders = true) (hB : Region.lexB .any l.toArray = true) (hch : chainB l.toArray mem = true) (hMc : msSub Mc σ.M) (h : DMK P C l.toArray mem Mc σ.nk 0 l σ Q) : W P C (.region id l.toArray true) σ Q :=
  let ⟨_, a, b⟩ := h; W.drawM mem Mc hm hB hch hMc a b
variable {mem : List Bool} {Mc : List (Nat × AO)} {nk0 k : Nat}
theorem DMK.nil (h : Q .normal σ) : DMK P C ops mem Mc nk0 k [] σ Q := ⟨σ, .nil k σ, h⟩
theorem DMK.val (hm : mem.getD k false = false) (hd : o.dst = some d) (hN : Nat.blt d C.N = true) {nk : Nat} (hk : nk = nk0 ∨ (nk = σ.nk ∧ behindB ops mem k = true)) (h : DoesV P C ops o σ.t Mc nk av) (r : DMK P C ops mem Mc nk0 (k + 1) rest (σ.put d av) Q) : DMK P C ops mem Mc nk0 k (o :: rest) σ Q :=
  let ⟨s, a, b⟩ := r; ⟨s, .val k o rest d av nk σ s hm hd hN hk h a, b⟩
theorem DMK.wr {M' : List (Nat × AO)} {nk' : Nat} (hm : mem.getD k false = true) (hd : o.dst = some d) (hn : Nat.ble σ.nk nk' = true) (hs : msSub Mc M') (h : DoesM P C ops o σ d av M' nk') (r : DMK P C ops mem Mc nk0 (k + 1) rest ⟨(d, av) :: σ.t, M', nk'⟩ Q) : DMK P C ops mem Mc nk0 k (o :: rest) σ Q :=
  let ⟨s, a, b⟩ := r; ⟨s, .mem k o rest d av M' nk' σ s hm hd hn hs h a, b⟩
end
end Go.Proofs.YteldgllgagjciaaGreat

/- A walk that knows values as trees: makeSlice of rows of one cell. -/
namespace Go.Proofs.YteldgllgagjciaaGreat
open Go.RowKit
set_option linter.unusedVariables false
theorem flat_rep (z : Value) : ∀ k : Nat, (List.replicate k [z]).flatten = List.replicate k z
  | 0 => rfl
  | k + 1 => by rw [List.replicate_succ, List.replicate_succ, List.flatten_cons, flat_rep z k]; rfl
section
variable {P : Program} {C : Cx} {σ : St} {o : Oper} {d : Tmp}
theorem WO.make1 {T e q k : Nat} {z : Value} {i : TypeInfo} {x y : Operand} (ho : o.op = .makeSlice T x y) (hT : P.underlying T = some (.slice e)) (hi : P.info? e = some i) (hz : i.zero = some z) (hn : i.size = 1) (hby : Nat.ble i.bytes 1000 = true)
    (hc : ∀ k, (madeCells z.cells (k * 1)).toList = List.replicate k z) (hz1 : z.oneCell' = true) (hds : o.dst = some d) (hd : Nat.blt d C.N = true) (hx : σ.ev x = some (.sc (.int .i64 (k : Nat)))) (hy : σ.ev y = some (.sc (.int .i64 (k : Nat)))) (hk : k ≤ 1000000) (hq : σ.nk = q) :
    WO P C o σ ((σ.new (.row e 1 (List.replicate k [.sc z]))).put d (.sl q)) := by
  intro G a w ok N Q' hN
  have hb := Nat.le_of_ble_eq_true hby
  have hbk : i.bytes * k ≤ 281474976710656 := Nat.le_trans (Nat.mul_le_mul hb hk) (by decide)
  obtain ⟨w', hrun, hown, hgr⟩ := run_makeSlice_full (P := P) w C.w0.heap.size T e i z 1 hT hi hz hn .i64 .i64 k (by omega) hbk (by unfold maxLen; omega) ok.bel.size
  have hl : (List.replicate k [z]).length = k := by simp
  obtain ⟨G', hle, hh, hone, ok'⟩ := ok.newRow (w' := w') (T := e) (n := 1) (rows := List.replicate k [.sc z]) (v := .slice (some ⟨w.heap.size, 0, none⟩) k k) (vs := List.replicate k [z]) (xo := none)
    (fun r hr => by rw [List.eq_of_mem_replicate hr]; rfl) ((Below.refl C.w0.heap.size w).grown hgr ok.bel.size (fun _ h => by cases h)) (fun x h h2 => hgr.block x h (fun e => h2 e)) (fun x h => by cases h)
    (by rw [hl, flat_rep, ← hc k]; exact hown) (.inr rfl) (by simp)
    (fun r hr u hu => by
      rw [List.eq_of_mem_replicate hr] at hu
      obtain rfl : u = z := by simpa using hu
      exact hz1)
    (fun j r r' h1 h2 => by
      rw [List.eq_of_mem_replicate (List.mem_of_getElem? h1), List.eq_of_mem_replicate (List.mem_of_getElem? h2)]
      refine ⟨rfl, fun q av u a b => ?_⟩
      match q with
      | 0 => cases a; cases b; exact .sc _
      | q + 1 => simp at a)
  unfold Oper.wp execOp
  simp only [ho, ok.evs hx, ok.evs hy, Sem.run_bind, hrun, Result.andThen_ok, Sem.run_pure, Oper.upon]
  rw [hds]
  subst hq
  exact hN G' _ _ (ok'.set (d := some d) (hh ▸ R.sl (G := G') σ.nk (by rw [hh]; exact hone)) (.sl _ (Nat.lt_succ_self _)) fun x hx => by cases hx; exact of_blt hd)
end
end Go.Proofs.YteldgllgagjciaaGreat

/- A walk that knows values as trees: operations without conditions are carried out by computing. -/
namespace Go.Proofs.YteldgllgagjciaaGreat
open Go.RowKit
set_option linter.unusedVariables false
set_option linter.unusedSimpArgs false
/-- As `rem`, at once. -/
def remS {α : Type} (k : Nat) : List (Nat × α) → Option (List (Nat × α))
  | [] => some []
  | x :: r =>
    match remS k r with
    | some r' => bif Nat.beq k x.1 then some r' else some (x :: r')
    | none => none
theorem remS_eq {α : Type} {k : Nat} : ∀ {l l' : List (Nat × α)}, remS k l = some l' → l' = rem k l
  | [], l', h => by cases h; rfl
  | x :: r, l', h => by
    unfold remS at h
    split at h
    · rename_i r' h2
      have := remS_eq h2
      subst this
      unfold rem
      cases hb : Nat.beq k x.1 with
      | true => rw [hb] at h; cases h; rfl
      | false => rw [hb] at h; cases h; rfl
    · cases h
def boolB (P : Program) (T : TypeId) : Bool :=
  match P.underlying T with
  | some .bool => true
  | _ => false
theorem boolB_of {P : Program} {T : TypeId} (h : boolB P T = true) : P.underlying T = some .bool := by
  unfold boolB at h
  split at h
  · assumption
  · cases h
def cmpI (op : BinOp) (m n : Int) : Option Value :=
  match op with
  | .lss => some (.bool (decide (m < n)))
  | .leq => some (.bool (decide (m ≤ n)))
  | .gtr => some (.bool (decide (n < m)))
  | .geq => some (.bool (decide (n ≤ m)))
  | .eql => some (.bool (decide (m = n)))
  | .neq => some (.bool (!decide (m = n)))
  | _ => none
def cmpB (op : BinOp) (b c : Bool) : Option Value :=
  match op with
  | .eql => some (.bool (b == c))
  | .neq => some (.bool (!(b == c)))
  | _ => none
def cmpS (op : BinOp) (s t : List UInt8) : Option Value :=
  match op with
  | .eql => some (.bool (s == t))
  | .neq => some (.bool (!(s == t)))
  | _ => none
def cmpV (P : Program) (op : BinOp) (T : TypeId) : Value → Value → Option Value
  | .string ⟨⟨s⟩⟩, .string ⟨⟨t⟩⟩ => cmpS op s t
  | .int j m, .int k n =>
    match decEq j k with
    | isTrue _ => cmpI op m n
    | isFalse _ => none
  | .bool b, .bool c => bif boolB P T then cmpB op b c else none
  | _, _ => none
def pickV : AV → AV → AV → Option AV
  | .sc (.bool b), .sc u, .sc v => some (.sc (bif b then u else v))
  | .sc (.bool true), x, _ => some x
  | .sc (.bool false), _, y => some y
  | _, _, _ => none
def takeE : Nat → List AV → Option (List AV)
  | 0, _ => some []
  | n + 1, x :: r =>
    match takeE n r with
    | some l => some (x :: l)
    | none => none
  | _ + 1, [] => none
theorem takeE_of : ∀ {n : Nat} {l l' : List AV}, takeE n l = some l' → l.take n = l' ∧ l'.length = n
  | 0, l, l', h => by cases h; simp
  | n + 1, [], l', h => by cases h
  | n + 1, x :: r, l', h => by
    unfold takeE at h
    split at h
    · rename_i l2 h2
      cases h
      obtain ⟨a, b⟩ := takeE_of h2
      simp [a, b]
    · cases h
def takeV (P : Program) (T : TypeId) (l : List AV) : Option AV :=
  match aggB P T with
  | some false =>
    match l with
    | av :: _ => some av
    | [] => none
  | some true =>
    match sizeB P T with
    | some n =>
      match takeE n l with
      | some l' => some (.ag l')
      | none => none
    | none => none
  | none => none
def loadV (P : Program) (σ : St) (T : TypeId) : AV → Option AV
  | .pt k i j =>
    match look k σ.M with
    | some ob =>
      match ob.from_ i j with
      | some l => takeV P T l
      | none => none
    | none => none
  | .pr cells => takeV P T cells
  | _ => none
def nthL {α : Type} : List α → Nat → Option α
  | [], _ => none
  | x :: _, 0 => some x
  | _ :: r, n + 1 => nthL r n
theorem nthL_eq {α : Type} : ∀ (l : List α) (n : Nat), nthL l n = l[n]?
  | [], n => by simp [nthL]
  | x :: r, 0 => by simp [nthL]
  | x :: r, n + 1 => by simp [nthL, nthL_eq r n]
def dropE {α : Type} : Nat → List α → List α
  | 0, l => l
  | _ + 1, [] => []
  | n + 1, _ :: r => dropE n r
theorem dropE_eq {α : Type} : ∀ (n : Nat) (l : List α), dropE n l = l.drop n
  | 0, l => by simp [dropE]
  | n + 1, [] => by simp [dropE]
  | n + 1, x :: r => by simp [dropE, dropE_eq n r]
def fldE (P : Program) (T i : Nat) : Option Nat :=
  match P.underlying T with
  | some (.struct fs) =>
    match nthL fs.toList i with
    | some f => bif Nat.beq (P.cellsOf f.type) 0 then none else some f.offset
    | none => none
  | _ => none
theorem fldE_of {P : Program} {T i off : Nat} (h : fldE P T i = some off) : fldB P T i = some off := by
  unfold fldE at h
  unfold fldB
  split at h
  · rename_i fs hu
    rw [nthL_eq] at h
    rw [show fs.toList[i]? = fs[i]? by simp] at h
    split at h
    · rename_i f hf
      try rw [hu]
      try simp only [hf]
      cases hb : Nat.beq (P.cellsOf f.type) 0 with
      | true => rw [hb] at h; cases h
      | false =>
        rw [hb] at h
        rw [if_neg (fun e => by rw [e] at hb; cases hb)]
        exact h
    · cases h
  · cases h
def fldV (P : Program) (T i : Nat) : AV → Option AV
  | .pt k r j =>
    match fldE P T i with
    | some off => some (.pt k r (j + off))
    | none => none
  | .pr cells =>
    match fldE P T i with
    | some off => some (.pr (dropE off cells))
    | none => none
  | _ => none
/-- What a value operation yields. -/
def stepV (P : Program) (σ : St) : Op → Option AV
  | .move x => σ.ev x
  | .assign x => σ.ev x
  | .pick c x y =>
    match σ.ev c, σ.ev x, σ.ev y with
    | some ac, some ax, some ay => pickV ac ax ay
    | _, _, _ => none
  | .binOp op T x y _ =>
    match σ.ev x, σ.ev y with
    | some (.sc u), some (.sc v) =>
      match cmpV P op T u v with
      | some r => some (.sc r)
      | none => none
    | _, _ => none
  | .unOp .not _ x =>
    match σ.ev x with
    | some (.sc (.bool b)) => some (.sc (.bool (!b)))
    | _ => none
  | .extract x i =>
    match σ.ev x with
    | some (.tu l) => l[i]?
    | _ => none
  | .fieldAddr T x i =>
    match σ.ev x with
    | some av => fldV P T i av
    | none => none
  | .load T x =>
    match σ.ev x with
    | some av => loadV P σ T av
    | none => none
  | .build T parts =>
    match (P.info? T).bind (·.zero), placesB P T, σ.evs (parts.toList.map (·.2)) with
    | some z, some places, some avs =>
      match fillA places (z.cells.toList.map .sc) (pairUp parts.toList avs) with
      | some l => some (.ag l)
      | none => none
    | _, _, _ => none
  | _ => none
section
variable {P : Program} {C : Cx} {σ σ' : St} {o : Oper} {d : Tmp} {av : AV}
theorem cmpV_of {op : BinOp} {T Ty : TypeId} {x y : Operand} {u v r : Value} (ho : o.op = .binOp op T x y Ty) (hx : σ.ev x = some (.sc u)) (hy : σ.ev y = some (.sc v)) (h : cmpV P op T u v = some r) : WV P C o σ (.sc r) := by
  unfold cmpV at h
  split at h
  · rename_i s t
    unfold cmpS at h
    split at h <;> first | cases h | skip
    · exact WV.seq_ (s := s) (t := t) ho hx hy
    · exact WV.sne (s := s) (t := t) ho hx hy
  · split at h
    · rename_i e _
      subst e
      unfold cmpI at h
      split at h <;> first | cases h | skip
      · exact WV.lss ho hx hy
      · exact WV.leq ho hx hy
      · exact WV.gtr ho hx hy
      · exact WV.geq ho hx hy
      · exact WV.eql ho hx hy
      · exact WV.neq ho hx hy
    · cases h
  · rename_i b c
    cases hb : boolB P T with
    | false => rw [hb] at h; cases h
    | true =>
      rw [hb] at h
      simp only [cond_true] at h
      unfold cmpB at h
      split at h <;> first | cases h | skip
      · exact WV.beq ho (boolB_of hb) hx hy
      · exact WV.bne ho (boolB_of hb) hx hy
  · cases h
theorem pickV_of {c x y : Operand} {ac ax ay : AV} (ho : o.op = .pick c x y) (hc : σ.ev c = some ac) (hx : σ.ev x = some ax) (hy : σ.ev y = some ay) (h : pickV ac ax ay = some av) : WV P C o σ av := by
  unfold pickV at h
  split at h
  · rename_i b u v
    cases h
    have := WV.pickS (P := P) (C := C) ho hc hx hy
    cases b <;> exact this
  · cases h; exact WV.pickT ho hc hx
  · cases h; exact WV.pickF ho hc hy
  · cases h
theorem loadV_of {T : TypeId} {x : Operand} {a : AV} (ho : o.op = .load T x) (hx : σ.ev x = some a) (h : loadV P σ T a = some av) : WV P C o σ av := by
  unfold loadV at h
  split at h
  · rename_i k i j
    split at h
    · rename_i ob hk
      split at h
      · rename_i l hf
        unfold takeV at h
        split at h
        · rename_i hT
          split at h
          · rename_i a r
            cases h
            exact WV.load1 ho hT hx hk hf rfl
          · cases h
        · rename_i hT
          split at h
          · rename_i n hn
            split at h
            · rename_i l' hl
              cases h
              obtain ⟨e1, e2⟩ := takeE_of hl
              exact WV.loadN ho hT hn hx hk hf e1 e2
            · cases h
          · cases h
        · cases h
      · cases h
    · cases h
  · rename_i cells
    unfold takeV at h
    split at h
    · rename_i hT
      split at h
      · rename_i a r
        cases h
        exact WV.load1R ho hT hx rfl
      · cases h
    · rename_i hT
      split at h
      · rename_i n hn
        split at h
        · rename_i l' hl
          cases h
          obtain ⟨e1, e2⟩ := takeE_of hl
          exact WV.loadNR ho hT hn hx e1 e2
        · cases h
      · cases h
    · cases h
  · cases h
theorem fldV_of {T : TypeId} {i : Nat} {x : Operand} {a : AV} (ho : o.op = .fieldAddr T x i) (hx : σ.ev x = some a) (h : fldV P T i a = some av) : WV P C o σ av := by
  unfold fldV at h
  split at h
  · split at h
    · rename_i off hf; cases h; exact WV.fieldP ho (fldE_of hf) hx
    · cases h
  · split at h
    · rename_i off hf; cases h; rw [dropE_eq]; exact WV.fieldR ho (fldE_of hf) hx
    · cases h
  · cases h
theorem stepV_of {op : Op} (ho : o.op = op) (h : stepV P σ op = some av) : WV P C o σ av := by
  unfold stepV at h
  split at h
  · exact WV.move ho h
  · exact WV.assign ho h
  · split at h
    · rename_i h1 h2 h3; exact pickV_of ho h1 h2 h3 h
    · cases h
  · split at h
    · rename_i h1 h2
      split at h
      · rename_i r hr; cases h; exact cmpV_of ho h1 h2 hr
      · cases h
    · cases h
  · split at h
    · rename_i b h1; cases h; exact WV.not ho h1
    · cases h
  · split at h
    · rename_i l h1; exact WV.extract ho h1 h
    · cases h
  · split at h
    · rename_i a h1; exact fldV_of ho h1 h
    · cases h
  · split at h
    · rename_i a h1; exact loadV_of ho h1 h
    · cases h
  · split at h
    · rename_i h1 h2 h3
      split at h
      · rename_i l hl; cases h; exact WV.build ho h1 h2 h3 hl
      · cases h
    · cases h
  · cases h
end
def storeE (P : Program) (M : List (Nat × AO)) (T : TypeId) : AV → AV → Option (Nat × AO)
  | .pt k i j, av =>
    match sizeB P T, look k M with
    | some m, some ob =>
      bif av.cellB && Nat.beq av.cells.length m && av.cells.all AV.oneB then
        match ob.put i j av.cells with
        | some ob' => some (k, ob')
        | none => none
      else none
    | _, _ => none
  | _, _ => none
def buildE (P : Program) (σ : St) (T : TypeId) (m : Nat) (parts : List (Nat × Operand)) : Option AO :=
  match P.underlying T with
  | some (.slice e) =>
    match sizeB P e, (P.info? e).bind (·.zero), σ.evs (parts.map (·.2)) with
    | some n, some _, some avs =>
      bif numB 0 parts && Nat.beq parts.length m && Nat.ble (m * n) 16777216 && Nat.ble m 16777216 && rowsB n avs then some (.row e n (avs.map AV.cells)) else none
    | _, _, _ => none
  | _ => none
/-- An object that stands twice stands once. -/
theorem wo_rem {P : Program} {C : Cx} {σ : St} {o : Oper} {t : List (Nat × AV)} {M : List (Nat × AO)} {nk k : Nat} {ob : AO} (h : WO P C o σ ⟨t, (k, ob) :: M, nk⟩) : WO P C o σ ⟨t, (k, ob) :: rem k M, nk⟩ := fun G a w ok N Q' hN =>
  h G a w ok N Q' fun G' a' w' ok' => hN G' a' w' (by
    have hl : ∀ i, look i ((k, ob) :: rem k M) = look i ((k, ob) :: M) := fun i => by
      by_cases e : i = k
      · subst e; rw [look_set_same, look_set_same]
      · rw [look_set_other e, look_set_other e, look_rem, if_neg e]
    exact ⟨ok'.sz, ok'.df, ok'.tm, ok'.bel, ok'.fw, ok'.f0, ok'.f1, fun i x hx => ok'.ob i x (by rw [← hl]; exact hx), fun i x i' x' y hx hx' => ok'.dj i x i' x' y (by rw [← hl]; exact hx) (by rw [← hl]; exact hx'), fun i x y p u hx => ok'.dF i x y p u (by rw [← hl]; exact hx)⟩)
/-- What an operation without a guard leaves: slots, objects, the next key. -/
def opE (P : Program) (N : Nat) (t : List (Nat × AV)) (M : List (Nat × AO)) (nk : Nat) (o : Oper) : Option (List (Nat × AV) × List (Nat × AO) × Nat) :=
  match o.guard with
  | some _ => none
  | none =>
    match o.dst with
    | none =>
      match o.op with
      | .store T x y =>
        match (⟨t, M, nk⟩ : St).ev x, (⟨t, M, nk⟩ : St).ev y with
        | some ax, some ay =>
          match storeE P M T ax ay with
          | some (k, ob) =>
            match remS k M with
            | some M' => some (t, (k, ob) :: M', nk)
            | none => none
          | none => none
        | _, _ => none
      | _ => none
    | some d =>
      bif Nat.blt d N then
        match o.op with
        | .box T x =>
          match (⟨t, M, nk⟩ : St).ev x with
          | some av => bif av.cellB then some ((d, .pt nk 0 0) :: t, (nk, .box T av.cells) :: M, nk + 1) else none
          | none => none
        | .alloc T =>
          match (P.info? T).bind (·.zero) with
          | some z => some ((d, .pt nk 0 0) :: t, (nk, .box T (z.cells.toList.map .sc)) :: M, nk + 1)
          | none => none
        | .buildSlice T m parts =>
          match buildE P ⟨t, M, nk⟩ T m parts.toList with
          | some ob => some ((d, .sl nk) :: t, (nk, ob) :: M, nk + 1)
          | none => none
        | op =>
          match stepV P ⟨t, M, nk⟩ op with
          | some av => some ((d, av) :: t, M, nk)
          | none => none
      else none
theorem opE_of {P : Program} {C : Cx} {t t' : List (Nat × AV)} {M M' : List (Nat × AO)} {nk nk' : Nat} {o : Oper} (h : opE P C.N t M nk o = some (t', M', nk')) : o.guard = none ∧ WO P C o ⟨t, M, nk⟩ ⟨t', M', nk'⟩ := by
  unfold opE at h
  split at h
  · cases h
  · rename_i hg
    refine ⟨hg, ?_⟩
    split at h
    · rename_i hds
      split at h
      · rename_i T x y ho
        split at h
        · rename_i ax ay hx hy
          split at h
          · rename_i k ob hst
            split at h
            case h_2 => cases h
            rename_i M1 hM1
            cases h
            rw [remS_eq hM1]
            unfold storeE at hst
            split at hst
            · rename_i k i j
              split at hst
              · rename_i m ob0 hm hk
                cases hb : ay.cellB && Nat.beq ay.cells.length m && ay.cells.all AV.oneB with
                | false => rw [hb] at hst; cases hst
                | true =>
                  rw [hb] at hst
                  simp only [cond_true] at hst
                  simp only [Bool.and_eq_true] at hb
                  split at hst
                  · rename_i ob' hp
                    cases hst
                    exact wo_rem (WO.store (σ := ⟨t, M, nk⟩) ho hds hm hx hk hy hb.1.1 rfl (Nat.eq_of_beq_eq_true hb.1.2) hb.2 hp)
                  · cases hst
              · cases hst
            · cases hst
          · cases h
        · cases h
      · cases h
    · rename_i d hds
      cases hd : Nat.blt d C.N with
      | false => rw [hd] at h; cases h
      | true =>
        rw [hd] at h
        simp only [cond_true] at h
        split at h
        · rename_i T x ho
          split at h
          · rename_i av hx
            cases hB : av.cellB with
            | false => rw [hB] at h; cases h
            | true =>
              rw [hB] at h
              cases h
              exact WO.box (σ := ⟨t, M, nk⟩) ho hds hd hx hB rfl rfl
          · cases h
        · rename_i T ho
          split at h
          · rename_i z hz
            cases h
            exact WO.alloc (σ := ⟨t, M, nk⟩) ho hz hds hd rfl rfl
          · cases h
        · rename_i T m parts ho
          split at h
          · rename_i ob hob
            cases h
            unfold buildE at hob
            split at hob
            · rename_i e hT
              split at hob
              · rename_i n z avs hn hz hx
                cases hb : numB 0 parts.toList && Nat.beq parts.toList.length m && Nat.ble (m * n) 16777216 && Nat.ble m 16777216 && rowsB n avs with
                | false => rw [hb] at hob; cases hob
                | true =>
                  rw [hb] at hob
                  simp only [Bool.and_eq_true] at hb
                  cases hob
                  exact WO.build (σ := ⟨t, M, nk⟩) ho hT hn hz hb.1.1.1.1 (Nat.eq_of_beq_eq_true hb.1.1.1.2) hb.1.1.2 hb.1.2 hds hd hx hb.2 rfl rfl
              · cases hob
            · cases hob
          · cases h
        · split at h
          · rename_i av hv
            cases h
            exact WO.of_wv (σ := ⟨t, M, nk⟩) hds hd (stepV_of rfl hv)
          · cases h
/-- A list of operations, as far as it goes. -/
def goL (P : Program) (C : Cx) (ops : Array Oper) (Q : Exit → St → Prop) : List Oper → List (Nat × AV) → List (Nat × AO) → Nat → Prop
  | [], t, M, nk => Q .normal ⟨t, M, nk⟩
  | o :: r, t, M, nk =>
    match opE P C.N t M nk o with
    | some (t', M', nk') => goL P C ops Q r t' M' nk'
    | none => WL P C ops (o :: r) ⟨t, M, nk⟩ Q
theorem goL_of {P : Program} {C : Cx} {ops : Array Oper} {Q : Exit → St → Prop} : ∀ {l : List Oper} {t : List (Nat × AV)} {M : List (Nat × AO)} {nk : Nat}, goL P C ops Q l t M nk → WL P C ops l ⟨t, M, nk⟩ Q
  | [], t, M, nk, h => WL.nil h
  | o :: r, t, M, nk, h => by
    unfold goL at h
    split at h
    · rename_i t' M' nk' hs
      obtain ⟨h1, h2⟩ := opE_of hs
      exact WL.op h1 h2 (goL_of h)
    · exact h
/-- A code, as far as it goes. -/
def goC (P : Program) (C : Cx) : Code → St → (Exit → St → Prop) → Prop
  | .skip, σ, Q => Q .normal σ
  | .exit id, σ, Q => Q (.exit id) σ
  | .seq x y, σ, Q => goC P C x σ (QThen (fun s => W P C y s Q) Q)
  | .block id c, σ, Q => goC P C c σ (QBlock id Q)
  | .region id ops false, ⟨t, M, nk⟩, Q => goL P C ops Q ops.toList t M nk
  | c, σ, Q => W P C c σ Q
theorem goC_of {P : Program} {C : Cx} : ∀ {c : Code} {σ : St} {Q : Exit → St → Prop}, goC P C c σ Q → W P C c σ Q
  | .skip, σ, Q, h => W.skip h
  | .exit id, σ, Q, h => W.exit h
  | .ret, σ, Q, h => h
  | .seq x y, σ, Q, h => W.seq (goC_of (c := x) h)
  | .block id c, σ, Q, h => W.block (goC_of (c := c) h)
  | .region id ops false, ⟨t, M, nk⟩, Q, h => fun G a w ok => wp_region_list (goL_of (P := P) (C := C) (show goL P C ops Q ops.toList t M nk from h) G a w ok)
  | .region id ops true, σ, Q, h => h
  | .cond c x y, σ, Q, h => h
  | .loop c, σ, Q, h => h
  | .rangeFunc f p a b, σ, Q, h => h
  | .scope b, σ, Q, h => h
  | .label l, σ, Q, h => h
  | .goto l, σ, Q, h => h
  | .refuse w, σ, Q, h => h
def goB : Code → Bool
  | .skip => true
  | .exit _ => true
  | .seq _ _ => true
  | .block _ _ => true
  | .region _ _ false => true
  | _ => false
theorem W.go {P : Program} {C : Cx} {c : Code} {σ : St} {Q : Exit → St → Prop} (hc : goB c = true) (h : goC P C c σ Q) : W P C c σ Q := goC_of h
/-- As `goC`, but regions are left as lists. -/
def goD (P : Program) (C : Cx) : Code → St → (Exit → St → Prop) → Prop
  | .skip, σ, Q => Q .normal σ
  | .exit id, σ, Q => Q (.exit id) σ
  | .seq x y, σ, Q => goD P C x σ (QThen (fun s => W P C y s Q) Q)
  | .block id c, σ, Q => goD P C c σ (QBlock id Q)
  | .region id ops false, ⟨t, M, nk⟩, Q => WL P C ops ops.toList ⟨t, M, nk⟩ Q
  | c, σ, Q => W P C c σ Q
theorem goD_of {P : Program} {C : Cx} : ∀ {c : Code} {σ : St} {Q : Exit → St → Prop}, goD P C c σ Q → W P C c σ Q
  | .skip, σ, Q, h => W.skip h
  | .exit id, σ, Q, h => W.exit h
  | .ret, σ, Q, h => h
  | .seq x y, σ, Q, h => W.seq (goD_of (c := x) h)
  | .block id c, σ, Q, h => W.block (goD_of (c := c) h)
  | .region id ops false, ⟨t, M, nk⟩, Q, h => fun G a w ok => wp_region_list ((show WL P C ops ops.toList ⟨t, M, nk⟩ Q from h) G a w ok)
  | .region id ops true, σ, Q, h => h
  | .cond c x y, σ, Q, h => h
  | .loop c, σ, Q, h => h
  | .rangeFunc f p a b, σ, Q, h => h
  | .scope b, σ, Q, h => h
  | .label l, σ, Q, h => h
  | .goto l, σ, Q, h => h
  | .refuse w, σ, Q, h => h
theorem W.gob {P : Program} {C : Cx} {c : Code} {σ : St} {Q : Exit → St → Prop} (hc : goB c = true) (h : goD P C c σ Q) : W P C c σ Q := goD_of h
/-- A guard that is known to let its operation be. -/
theorem WL.gyes {P : Program} {C : Cx} {ops : Array Oper} {o oj : Oper} {rest : List Oper} {σ : St} {Q : Exit → St → Prop} {j : Nat} {b : Bool} {d : Tmp} (hg : o.guard = some (j, b)) (hj : ops[j]? = some oj) (hd : oj.dst = some d) (hv : look d σ.t = some (.sc (.bool b)))
    (k : WL P C ops ({ o with guard := none } :: rest) σ Q) : WL P C ops (o :: rest) σ Q := fun G a w ok => by
  have h := k G a w ok
  have hy := yielded_of (ops := ops) ok hj hd hv
  unfold wpList at h ⊢
  rw [if_pos (by simp [Region.wanted])] at h
  rw [if_pos (by simp [Region.wanted, hg, hy, vb])]
  exact h
/-- Integer arithmetic: a condition, a value. -/
def sideI (op : BinOp) (m n : Int) : Option (Prop × Int) :=
  match op with
  | .add => some (I64 (m + n), m + n)
  | .sub => some (I64 (m - n), m - n)
  | .mul => some (I64 (m * n), m * n)
  | _ => none
def sideV (σ : St) : Op → Option (Prop × Int)
  | .binOp op _ x y _ =>
    match σ.ev x, σ.ev y with
    | some (.sc (.int .i64 m)), some (.sc (.int .i64 n)) => sideI op m n
    | _, _ => none
  | _ => none
/-- Strings put together. -/
def catV (σ : St) : Op → Option (List UInt8 × List UInt8)
  | .binOp .add _ x y _ =>
    match σ.ev x, σ.ev y with
    | some (.sc (.string ⟨⟨s⟩⟩)), some (.sc (.string ⟨⟨t⟩⟩)) => some (s, t)
    | _, _ => none
  | _ => none
/-- Lengths. -/
def lenA (P : Program) (σ : St) (T : TypeId) : AV → Option Nat
  | .sc (.string ⟨⟨s⟩⟩) =>
    match P.underlying T with
    | some .string => some s.length
    | _ => none
  | .ls _ rows =>
    match P.underlying T with
    | some (.slice _) => some rows.length
    | _ => none
  | .sl k =>
    match P.underlying T, look k σ.M with
    | some (.slice _), some (.row _ _ rows) => some rows.length
    | _, _ => none
  | .sc (.slice _ m _) =>
    match P.underlying T with
    | some (.slice _) => some m
    | _ => none
  | _ => none
def lenV (P : Program) (σ : St) : Op → Option Nat
  | .call { callee := .builtin .len, args := ⟨[x]⟩, argTypes := ⟨[T]⟩ } =>
    match σ.ev x with
    | some av => lenA P σ T av
    | none => none
  | _ => none
/-- An index into a list that is written no more: the rows, the index. -/
def idxV (P : Program) (σ : St) : Op → Option (List (List AV) × Int)
  | .indexAddr T x y =>
    match P.underlying T, σ.ev x, σ.ev y with
    | some (.slice e), some (.ls n rows), some (.sc (.int _ z)) =>
      match sizeB P e with
      | some m => bif Nat.beq m n then some (rows, z) else none
      | none => none
    | _, _, _ => none
  | _ => none
/-- An index into a slice of its own. -/
def ixsV (P : Program) (σ : St) : Op → Option (Nat × List (List AV) × Int)
  | .indexAddr T x y =>
    match P.underlying T, σ.ev x, σ.ev y with
    | some (.slice e), some (.sl k), some (.sc (.int _ z)) =>
      match sizeB P e, look k σ.M with
      | some m, some (.row _ n rows) => bif Nat.beq m n then some (k, rows, z) else none
      | _, _ => none
    | _, _, _ => none
  | _ => none
structure AppD where
  T : TypeId
  n : Nat
  k : Nat
  a : List (List AV)
  b : List (List AV)
/-- append(own, ..). -/
def appV (P : Program) (σ : St) : Op → Option AppD
  | .call { callee := .builtin .append, args := ⟨[x, y]⟩, argTypes := ⟨[T, T']⟩ } =>
    match P.underlying T, σ.ev x, σ.ev y with
    | some (.slice e), some (.sl k), some av2 =>
      match P.info? e, look k σ.M with
      | some i, some (.row e' n rows) =>
        match i.zero, σ.src n av2 with
        | some z, some rows2 => bif Nat.beq T T' && Nat.beq e e' && Nat.beq i.size n && Nat.beq z.cells.size n && Nat.blt 0 n && Nat.ble i.bytes 100000 then some ⟨e, n, k, rows, rows2⟩ else none
        | _, _ => none
      | _, _ => none
    | _, _, _ => none
  | _ => none
def dstB (N : Nat) (o : Oper) : Option Tmp :=
  match o.guard, o.dst with
  | none, some d => bif Nat.blt d N then some d else none
  | _, _ => none
section
variable {P : Program} {C : Cx} {ops : Array Oper} {o : Oper} {rest : List Oper} {σ : St} {Q : Exit → St → Prop} {d : Tmp}
theorem dstB_of (h : dstB C.N o = some d) : o.guard = none ∧ o.dst = some d ∧ Nat.blt d C.N = true := by
  unfold dstB at h
  split at h
  · rename_i x h1 h2
    cases hb : Nat.blt x C.N with
    | false => rw [hb] at h; cases h
    | true => rw [hb] at h; cases h; exact ⟨h1, h2, hb⟩
  · cases h
theorem WL.vl {av : AV} (hd : dstB C.N o = some d) (h : WV P C o σ av) (k : WL P C ops rest (σ.put d av) Q) : WL P C ops (o :: rest) σ Q :=
  WL.opv (dstB_of hd).1 (dstB_of hd).2.1 (dstB_of hd).2.2 h k
theorem catV_of {s t : List UInt8} (h : catV σ o.op = some (s, t)) (hl : s.length + t.length < 9223372036854775808) : WV P C o σ (.sc (.string (bs (s ++ t)))) := by
  unfold catV at h
  split at h
  · rename_i T x y Ty ho
    split at h
    · rename_i s t h1 h2
      cases h
      exact WV.cat (s := s) (t := t) ho h1 h2 hl
    · cases h
  · cases h
theorem WL.cat {s t : List UInt8} (hd : dstB C.N o = some d) (h : catV σ o.op = some (s, t)) (hl : s.length + t.length < 9223372036854775808) (k : WL P C ops rest (σ.put d (.sc (.string (bs (s ++ t))))) Q) : WL P C ops (o :: rest) σ Q := WL.vl hd (catV_of h hl) k
theorem lenV_of {m : Nat} (h : lenV P σ o.op = some m) : WV P C o σ (.sc (.int .i64 m)) := by
  unfold lenV at h
  split at h
  · rename_i x T ho
    split at h
    · rename_i av hx
      unfold lenA at h
      split at h
      · split at h
        · rename_i s _ hT; cases h; exact WV.lenB (s := s) ho hT hx
        · cases h
      · split at h
        · rename_i hT; cases h; exact WV.lenL ho hT hx rfl
        · cases h
      · split at h
        · rename_i hT hk; cases h; exact WV.lenS ho hT hx hk rfl
        · cases h
      · split at h
        · rename_i hT; cases h; exact WV.lenN ho hT hx
        · cases h
      · cases h
    · cases h
  · cases h
theorem WL.len {m m' : Nat} (hd : dstB C.N o = some d) (h : lenV P σ o.op = some m) (hm : m = m') (k : WL P C ops rest (σ.put d (.sc (.int .i64 m'))) Q) : WL P C ops (o :: rest) σ Q := by
  subst hm
  exact WL.vl hd (lenV_of h) k
theorem idxV_of {rows : List (List AV)} {z : Int} {r : List AV} (h : idxV P σ o.op = some (rows, z)) (h0 : 0 ≤ z) (hr : rows[z.toNat]? = some r) : WV P C o σ (.pr r) := by
  unfold idxV at h
  split at h
  · rename_i T x y ho
    split at h
    · rename_i e n rows' q z' hT hx hy
      split at h
      · rename_i m hn
        cases hb : Nat.beq m n with
        | false => rw [hb] at h; cases h
        | true =>
          rw [hb] at h
          cases h
          obtain rfl := Nat.eq_of_beq_eq_true hb
          exact WV.indexL ho hT hn hx hy h0 hr
      · cases h
    · cases h
  · cases h
theorem WL.idx {rows : List (List AV)} {z : Int} {r : List AV} (hd : dstB C.N o = some d) (h : idxV P σ o.op = some (rows, z)) (h0 : 0 ≤ z) (hr : rows[z.toNat]? = some r) (k : WL P C ops rest (σ.put d (.pr r)) Q) : WL P C ops (o :: rest) σ Q :=
  WL.vl hd (idxV_of h h0 hr) k
theorem ixsV_of {q : Nat} {rows : List (List AV)} {z : Int} (h : ixsV P σ o.op = some (q, rows, z)) (h0 : 0 ≤ z) (h1 : z < rows.length) : WV P C o σ (.pt q z.toNat 0) := by
  unfold ixsV at h
  split at h
  · rename_i T x y ho
    split at h
    · rename_i e k q' z' hT hx hy
      split at h
      · rename_i m T' n rows' hn hk
        cases hb : Nat.beq m n with
        | false => rw [hb] at h; cases h
        | true =>
          rw [hb] at h
          cases h
          obtain rfl := Nat.eq_of_beq_eq_true hb
          exact WV.indexS ho hT hn hx hy hk h0 h1
      · cases h
    · cases h
  · cases h
theorem WL.ixs {q : Nat} {rows : List (List AV)} {z : Int} (hd : dstB C.N o = some d) (h : ixsV P σ o.op = some (q, rows, z)) (h0 : 0 ≤ z ∧ z < rows.length) (k : WL P C ops rest (σ.put d (.pt q z.toNat 0)) Q) : WL P C ops (o :: rest) σ Q :=
  WL.vl hd (ixsV_of h h0.1 h0.2) k
theorem appV_of {x : AppD} (hd : dstB C.N o = some d) (h : appV P σ o.op = some x) (hl : x.a.length + x.b.length ≤ 1000000000) : WO P C o σ (((σ.drop x.k).new (.row x.T x.n (x.a ++ x.b))).put d (.sl σ.nk)) := by
  obtain ⟨_, hds, hdb⟩ := dstB_of hd
  unfold appV at h
  split at h
  · rename_i x y T T' ho
    split at h
    · rename_i e k av2 hT hx hy
      split at h
      · rename_i i e' n rows hi hk
        split at h
        · rename_i z rows2 hz hs
          cases hb : Nat.beq T T' && Nat.beq e e' && Nat.beq i.size n && Nat.beq z.cells.size n && Nat.blt 0 n && Nat.ble i.bytes 100000 with
          | false => rw [hb] at h; cases h
          | true =>
            rw [hb] at h
            simp only [Bool.and_eq_true] at hb
            cases h
            obtain ⟨⟨⟨⟨⟨b1, b2⟩, b3⟩, b4⟩, b5⟩, b6⟩ := hb
            obtain rfl := Nat.eq_of_beq_eq_true b1
            obtain rfl := Nat.eq_of_beq_eq_true b2
            exact WO.append ho hT hi hz (Nat.eq_of_beq_eq_true b3) rfl (Nat.eq_of_beq_eq_true b4) b5 hds hdb hx hk hy hs rfl hl b6 rfl
        · cases h
      · cases h
    · cases h
  · cases h
theorem WL.app {x : AppD} {t : List (Nat × AV)} {M M' : List (Nat × AO)} {nk : Nat} (hd : dstB C.N o = some d) (h : appV P ⟨t, M, nk⟩ o.op = some x) (hM : remS x.k M = some M') (hl : x.a.length + x.b.length ≤ 1000000000) (k : WL P C ops rest ⟨(d, .sl nk) :: t, (nk, .row x.T x.n (x.a ++ x.b)) :: M', nk + 1⟩ Q) : WL P C ops (o :: rest) ⟨t, M, nk⟩ Q := by
  rw [remS_eq hM] at k
  exact WL.op (dstB_of hd).1 (appV_of hd h hl) k
theorem WL.ev {t : List (Nat × AV)} {M : List (Nat × AO)} {nk : Nat} (h : (opE P C.N t M nk o).isSome = true) (k : goL P C ops Q (o :: rest) t M nk) : WL P C ops (o :: rest) ⟨t, M, nk⟩ Q := goL_of k
/-- A Bool that is known to be true. -/
theorem WL.tt {b : Bool} (hd : dstB C.N o = some d) (h : stepV P σ o.op = some (.sc (.bool b))) (hb : b = true) (k : WL P C ops rest (σ.put d (.sc (.bool true))) Q) : WL P C ops (o :: rest) σ Q := by
  subst hb
  exact WL.vl hd (stepV_of rfl h) k
/-! Regions that draw their order. -/
def stepD (P : Program) (N : Nat) (ops : Array Oper) (σ : St) (o : Oper) : Option (Tmp × AV) :=
  match o.dst with
  | some d =>
    bif Nat.blt d N then
      match guardK ops o (σ.only (o.looksAt ops)) with
      | some true =>
        match stepV P (σ.only (o.looksAt ops)) o.op with
        | some av => some (d, av)
        | none => none
      | some false => some (d, .sc undef)
      | none => none
    else none
  | none => none
theorem DK.st {av : AV} (h : stepD P C.N ops σ o = some (d, av)) (k : DK P C ops rest (σ.put d av) Q) : DK P C ops (o :: rest) σ Q := by
  unfold stepD at h
  split at h
  · rename_i x hds
    cases hb : Nat.blt x C.N with
    | false => rw [hb] at h; cases h
    | true =>
      rw [hb] at h
      simp only [cond_true] at h
      split at h
      · rename_i hg
        split at h
        · rename_i av' hv
          cases h
          exact DK.val hds hb hg (stepV_of rfl hv) k
        · cases h
      · rename_i hg
        cases h
        exact DK.no hds hb hg k
      · cases h
  · cases h
theorem DK.tt {b : Bool} (h : stepD P C.N ops σ o = some (d, .sc (.bool b))) (hb : b = true) (k : DK P C ops rest (σ.put d (.sc (.bool true))) Q) : DK P C ops (o :: rest) σ Q := by
  subst hb; exact DK.st h k
theorem DK.ff {b : Bool} (h : stepD P C.N ops σ o = some (d, .sc (.bool b))) (hb : b = false) (k : DK P C ops rest (σ.put d (.sc (.bool false))) Q) : DK P C ops (o :: rest) σ Q := by
  subst hb; exact DK.st h k
def dstD (N : Nat) (ops : Array Oper) (σ : St) (o : Oper) : Option Tmp :=
  match o.dst, guardK ops o (σ.only (o.looksAt ops)) with
  | some d, some true => bif Nat.blt d N then some d else none
  | _, _ => none
theorem DK.vl {av : AV} (hd : dstD C.N ops σ o = some d) (h : WV P C o (σ.only (o.looksAt ops)) av) (k : DK P C ops rest (σ.put d av) Q) : DK P C ops (o :: rest) σ Q := by
  unfold dstD at hd
  split at hd
  · rename_i x h1 h2
    cases hb : Nat.blt x C.N with
    | false => rw [hb] at hd; cases hd
    | true => rw [hb] at hd; cases hd; exact DK.val h1 hb h2 h k
  · cases hd
theorem DK.len {m m' : Nat} (hd : dstD C.N ops σ o = some d) (h : lenV P (σ.only (o.looksAt ops)) o.op = some m) (hm : m = m') (k : DK P C ops rest (σ.put d (.sc (.int .i64 m'))) Q) : DK P C ops (o :: rest) σ Q := by
  subst hm; exact DK.vl hd (lenV_of h) k
theorem DK.cat {s t : List UInt8} (hd : dstD C.N ops σ o = some d) (h : catV (σ.only (o.looksAt ops)) o.op = some (s, t)) (hl : s.length + t.length < 9223372036854775808) (k : DK P C ops rest (σ.put d (.sc (.string (bs (s ++ t))))) Q) : DK P C ops (o :: rest) σ Q := DK.vl hd (catV_of h hl) k
theorem DK.idx {rows : List (List AV)} {z : Int} {r : List AV} (hd : dstD C.N ops σ o = some d) (h : idxV P (σ.only (o.looksAt ops)) o.op = some (rows, z)) (h0 : 0 ≤ z) (hr : rows[z.toNat]? = some r) (k : DK P C ops rest (σ.put d (.pr r)) Q) : DK P C ops (o :: rest) σ Q :=
  DK.vl hd (idxV_of h h0 hr) k
theorem DK.ixs {q : Nat} {rows : List (List AV)} {z : Int} (hd : dstD C.N ops σ o = some d) (h : ixsV P (σ.only (o.looksAt ops)) o.op = some (q, rows, z)) (h0 : 0 ≤ z ∧ z < rows.length) (k : DK P C ops rest (σ.put d (.pt q z.toNat 0)) Q) : DK P C ops (o :: rest) σ Q :=
  DK.vl hd (ixsV_of h h0.1 h0.2) k
theorem sideV_of {φ : Prop} {z : Int} (h : sideV σ o.op = some (φ, z)) (hφ : φ) : WV P C o σ (.sc (.int .i64 z)) := by
  unfold sideV at h
  split at h
  · rename_i op T x y Ty ho
    split at h
    · rename_i m n h1 h2
      unfold sideI at h
      split at h <;> first | cases h | skip
      · exact WV.add ho h1 h2 hφ
      · exact WV.sub ho h1 h2 hφ
      · exact WV.mul ho h1 h2 hφ
    · cases h
  · cases h
theorem WL.ar {φ : Prop} {z : Int} (hd : dstB C.N o = some d) (h : sideV σ o.op = some (φ, z)) (hφ : φ) (k : WL P C ops rest (σ.put d (.sc (.int .i64 z))) Q) : WL P C ops (o :: rest) σ Q := WL.vl hd (sideV_of h hφ) k
theorem DK.ar {φ : Prop} {z : Int} (hd : dstD C.N ops σ o = some d) (h : sideV (σ.only (o.looksAt ops)) o.op = some (φ, z)) (hφ : φ) (k : DK P C ops rest (σ.put d (.sc (.int .i64 z))) Q) : DK P C ops (o :: rest) σ Q := DK.vl hd (sideV_of h hφ) k
end
end Go.Proofs.YteldgllgagjciaaGreat

namespace Go.Proofs.YteldgllgagjciaaGreat
open Go.RowKit
set_option linter.unusedVariables false
set_option linter.unusedSimpArgs false
section
variable {P : Program} {C : Cx} {ops : Array Oper} {o : Oper} {rest : List Oper} {σ : St} {Q : Exit → St → Prop} {d : Tmp} {mem : List Bool} {Mc : List (Nat × AO)} {nk0 k : Nat}
def memB (N : Nat) (ops : Array Oper) (mem : List Bool) (Mc : List (Nat × AO)) (k nk : Nat) (t : List (Nat × AV)) (o : Oper) : Option (Tmp × Bool) :=
  match o.dst with
  | some d =>
    bif !(mem.getD k false) && Nat.blt d N && msInn nk Mc && tsInn nk (onlyT t (o.looksAt ops)) then
      match guardK ops o ⟨onlyT t (o.looksAt ops), Mc, nk⟩ with
      | some b => some (d, b)
      | none => none
    else none
  | none => none
theorem memB_of {nk : Nat} {t : List (Nat × AV)} {b : Bool} (h : memB C.N ops mem Mc k nk t o = some (d, b)) : mem.getD k false = false ∧ o.dst = some d ∧ Nat.blt d C.N = true ∧ msInn nk Mc = true ∧ tsInn nk (onlyT t (o.looksAt ops)) = true ∧ guardK ops o ⟨onlyT t (o.looksAt ops), Mc, nk⟩ = some b := by
  unfold memB at h
  split at h
  · rename_i x hds
    cases hb : !(mem.getD k false) && Nat.blt x C.N && msInn nk Mc && tsInn nk (onlyT t (o.looksAt ops)) with
    | false => rw [hb] at h; cases h
    | true =>
      rw [hb] at h
      simp only [cond_true] at h
      simp only [Bool.and_eq_true, Bool.not_eq_true'] at hb
      split at h
      · rename_i b' hg
        cases h
        exact ⟨hb.1.1.1, hds, hb.1.1.2, hb.1.2, hb.2, hg⟩
      · cases h
  · cases h
/-- A value, seen ahead of all that is written; behind all of it. -/
theorem DMK.v0 {av : AV} (hd : memB C.N ops mem Mc k nk0 σ.t o = some (d, true)) (h : WV P C o ⟨onlyT σ.t (o.looksAt ops), Mc, nk0⟩ av) (r : DMK P C ops mem Mc nk0 (k + 1) rest (σ.put d av) Q) : DMK P C ops mem Mc nk0 k (o :: rest) σ Q := by
  obtain ⟨a, b, c, e, f, g⟩ := memB_of hd
  exact DMK.val a b c (.inl rfl) ⟨e, f, .inl ⟨g, h⟩⟩ r
theorem DMK.v1 {av : AV} (hd : memB C.N ops mem Mc k σ.nk σ.t o = some (d, true)) (hb : behindB ops mem k = true) (h : WV P C o ⟨onlyT σ.t (o.looksAt ops), Mc, σ.nk⟩ av) (r : DMK P C ops mem Mc nk0 (k + 1) rest (σ.put d av) Q) : DMK P C ops mem Mc nk0 k (o :: rest) σ Q := by
  obtain ⟨a, b, c, e, f, g⟩ := memB_of hd
  exact DMK.val a b c (.inr ⟨rfl, hb⟩) ⟨e, f, .inl ⟨g, h⟩⟩ r
theorem DMK.no0 (hd : memB C.N ops mem Mc k nk0 σ.t o = some (d, false)) (r : DMK P C ops mem Mc nk0 (k + 1) rest (σ.put d (.sc undef)) Q) : DMK P C ops mem Mc nk0 k (o :: rest) σ Q := by
  obtain ⟨a, b, c, e, f, g⟩ := memB_of hd
  exact DMK.val a b c (.inl rfl) ⟨e, f, .inr ⟨g, rfl⟩⟩ r
theorem DMK.st {av : AV} (hd : memB C.N ops mem Mc k nk0 σ.t o = some (d, true)) (h : stepV P ⟨onlyT σ.t (o.looksAt ops), Mc, nk0⟩ o.op = some av) (r : DMK P C ops mem Mc nk0 (k + 1) rest (σ.put d av) Q) : DMK P C ops mem Mc nk0 k (o :: rest) σ Q := DMK.v0 hd (stepV_of rfl h) r
theorem DMK.s1 {av : AV} (hd : memB C.N ops mem Mc k σ.nk σ.t o = some (d, true)) (hb : behindB ops mem k = true) (h : stepV P ⟨onlyT σ.t (o.looksAt ops), Mc, σ.nk⟩ o.op = some av) (r : DMK P C ops mem Mc nk0 (k + 1) rest (σ.put d av) Q) : DMK P C ops mem Mc nk0 k (o :: rest) σ Q := DMK.v1 hd hb (stepV_of rfl h) r
theorem DMK.ar {φ : Prop} {z : Int} (hd : memB C.N ops mem Mc k nk0 σ.t o = some (d, true)) (h : sideV ⟨onlyT σ.t (o.looksAt ops), Mc, nk0⟩ o.op = some (φ, z)) (hφ : φ) (r : DMK P C ops mem Mc nk0 (k + 1) rest (σ.put d (.sc (.int .i64 z))) Q) : DMK P C ops mem Mc nk0 k (o :: rest) σ Q := DMK.v0 hd (sideV_of h hφ) r
theorem DMK.len {m m' : Nat} (hd : memB C.N ops mem Mc k nk0 σ.t o = some (d, true)) (h : lenV P ⟨onlyT σ.t (o.looksAt ops), Mc, nk0⟩ o.op = some m) (hm : m = m') (r : DMK P C ops mem Mc nk0 (k + 1) rest (σ.put d (.sc (.int .i64 m'))) Q) : DMK P C ops mem Mc nk0 k (o :: rest) σ Q := by
  subst hm; exact DMK.v0 hd (lenV_of h) r
theorem DMK.idx {rows : List (List AV)} {z : Int} {x : List AV} (hd : memB C.N ops mem Mc k nk0 σ.t o = some (d, true)) (h : idxV P ⟨onlyT σ.t (o.looksAt ops), Mc, nk0⟩ o.op = some (rows, z)) (h0 : 0 ≤ z) (hr : rows[z.toNat]? = some x) (r : DMK P C ops mem Mc nk0 (k + 1) rest (σ.put d (.pr x)) Q) : DMK P C ops mem Mc nk0 k (o :: rest) σ Q := DMK.v0 hd (idxV_of h h0 hr) r
def wrB (mem : List Bool) (N k : Nat) (o : Oper) : Option Tmp :=
  match o.dst, o.guard with
  | some d, none => bif mem.getD k false && Nat.blt d N then some d else none
  | _, _ => none
theorem wrB_of {N : Nat} (h : wrB mem N k o = some d) : mem.getD k false = true ∧ o.dst = some d ∧ o.guard = none ∧ Nat.blt d N = true := by
  unfold wrB at h
  split at h
  · rename_i x h1 h2
    cases hb : mem.getD k false && Nat.blt x N with
    | false => rw [hb] at h; cases h
    | true =>
      rw [hb] at h
      cases h
      simp only [Bool.and_eq_true] at hb
      exact ⟨hb.1, h1, h2, hb.2⟩
  · cases h
theorem DMK.bd {T m : Nat} {parts : Array (Nat × Operand)} {ob : AO} (hd : wrB mem C.N k o = some d) (ho : o.op = .buildSlice T m parts) (h : buildE P σ T m parts.toList = some ob) (hs : msSub Mc ((σ.nk, ob) :: σ.M)) (r : DMK P C ops mem Mc nk0 (k + 1) rest ⟨(d, .sl σ.nk) :: σ.t, (σ.nk, ob) :: σ.M, σ.nk + 1⟩ Q) : DMK P C ops mem Mc nk0 k (o :: rest) σ Q := by
  obtain ⟨a, b, c, e⟩ := wrB_of hd
  unfold buildE at h
  split at h
  · rename_i el hT
    split at h
    · rename_i n z avs hn hz hx
      cases hb : numB 0 parts.toList && Nat.beq parts.toList.length m && Nat.ble (m * n) 16777216 && Nat.ble m 16777216 && rowsB n avs with
      | false => rw [hb] at h; cases h
      | true =>
        rw [hb] at h
        simp only [Bool.and_eq_true] at hb
        cases h
        exact DMK.wr a b (Nat.ble_eq_true_of_le (Nat.le_succ _)) hs (DoesM.build c ho hT hn hz hb.1.1.1.1 (Nat.eq_of_beq_eq_true hb.1.1.1.2) hb.1.1.2 hb.1.2 b e hx hb.2 rfl rfl rfl rfl) r
    · cases h
  · cases h
theorem DMK.ap {x : AppD} (hd : wrB mem C.N k o = some d) (h : appV P σ o.op = some x) (hl : x.a.length + x.b.length ≤ 1000000000) (hs : msSub Mc ((σ.nk, .row x.T x.n (x.a ++ x.b)) :: rem x.k σ.M)) (r : DMK P C ops mem Mc nk0 (k + 1) rest ⟨(d, .sl σ.nk) :: σ.t, (σ.nk, .row x.T x.n (x.a ++ x.b)) :: rem x.k σ.M, σ.nk + 1⟩ Q) : DMK P C ops mem Mc nk0 k (o :: rest) σ Q := by
  obtain ⟨a, b, c, e⟩ := wrB_of hd
  unfold appV at h
  split at h
  · rename_i x y T T' ho
    split at h
    · rename_i el q av2 hT hx hy
      split at h
      · rename_i i e' n rows hi hk
        split at h
        · rename_i z rows2 hz hs2
          cases hb : Nat.beq T T' && Nat.beq el e' && Nat.beq i.size n && Nat.beq z.cells.size n && Nat.blt 0 n && Nat.ble i.bytes 100000 with
          | false => rw [hb] at h; cases h
          | true =>
            rw [hb] at h
            simp only [Bool.and_eq_true] at hb
            cases h
            obtain ⟨⟨⟨⟨⟨b1, b2⟩, b3⟩, b4⟩, b5⟩, b6⟩ := hb
            obtain rfl := Nat.eq_of_beq_eq_true b1
            obtain rfl := Nat.eq_of_beq_eq_true b2
            exact DMK.wr a b (Nat.ble_eq_true_of_le (Nat.le_succ _)) hs (DoesM.append c ho hT hi hz (Nat.eq_of_beq_eq_true b3) rfl (Nat.eq_of_beq_eq_true b4) b5 b e hx hk hy hs2 rfl hl b6 rfl rfl rfl) r
        · cases h
      · cases h
    · cases h
  · cases h
end
/-- What is kept of a state, with some slots and objects anew. -/
def onlyM (M : List (Nat × AO)) : List Nat → List (Nat × AO)
  | [] => []
  | x :: r =>
    match look x M with
    | some o => (x, o) :: onlyM M r
    | none => onlyM M r
def memOf (l : List Oper) : List Bool := l.map fun o =>
  match o.op with
  | .buildSlice _ _ _ => true
  | .call { callee := .builtin .append, .. } => true
  | _ => false
theorem W.dm {P : Program} {C : Cx} {σ : St} {Q : Exit → St → Prop} {id : Nat} {l : List Oper} (ms : List Nat) (hm : P.follows .mixedOrders = true) (hB : Region.lexB .any l.toArray = true) (hch : chainB l.toArray (memOf l) = true) (hMc : msSub (onlyM σ.M ms) σ.M)
    (h : DMK P C l.toArray (memOf l) (onlyM σ.M ms) σ.nk 0 l σ Q) : W P C (.region id l.toArray true) σ Q := W.drawMK (memOf l) (onlyM σ.M ms) hm hB hch hMc h
def St.keep (σ : St) (ts ms : List Nat) (t : List (Nat × AV)) (M : List (Nat × AO)) : St := ⟨t ++ onlyT σ.t ts, M ++ onlyM σ.M ms, σ.nk⟩
structure StoD where
  k : Nat
  i : Nat
  j : Nat
  T : TypeId
  n : Nat
  rows : List (List AV)
  l : List AV
/-- A store into a row of its own. -/
def stoV (P : Program) (σ : St) : Op → Option StoD
  | .store T x y =>
    match σ.ev x, σ.ev y with
    | some (.pt k i j), some av =>
      match sizeB P T, look k σ.M with
      | some m, some (.row T' n rows) => bif av.cellB && Nat.beq av.cells.length m && av.cells.all AV.oneB && av.cells.all AV.pu0 then some ⟨k, i, j, T', n, rows, av.cells⟩ else none
      | _, _ => none
    | _, _ => none
  | _ => none
section
variable {P : Program} {C : Cx} {ops : Array Oper} {o : Oper} {rest : List Oper} {σ : St} {Q : Exit → St → Prop} {d : Tmp}
theorem WL.sto {x : StoD} {r : List AV} {t : List (Nat × AV)} {M M' : List (Nat × AO)} {nk : Nat} (hg : o.guard = none) (hds : o.dst = none) (h : stoV P ⟨t, M, nk⟩ o.op = some x) (hM : remS x.k M = some M') (hr : x.rows[x.i]? = some r) (hj : x.j + x.l.length ≤ r.length)
    (k : WL P C ops rest ⟨t, (x.k, .row x.T x.n (x.rows.set x.i (putL x.j x.l r))) :: M', nk⟩ Q) : WL P C ops (o :: rest) ⟨t, M, nk⟩ Q := by
  rw [remS_eq hM] at k
  clear hM
  refine WL.op hg ?_ k
  unfold stoV at h
  split at h
  · rename_i T x y ho
    split at h
    · rename_i k i j av hx hy
      split at h
      · rename_i m T' n rows hm hk
        cases hb : av.cellB && Nat.beq av.cells.length m && av.cells.all AV.oneB && av.cells.all AV.pu0 with
        | false => rw [hb] at h; cases h
        | true =>
          rw [hb] at h
          simp only [Bool.and_eq_true] at hb
          cases h
          refine wo_rem (WO.store (σ := ⟨t, M, nk⟩) ho hds hm hx hk hy hb.1.1.1 rfl (Nat.eq_of_beq_eq_true hb.1.1.2) hb.1.2 ?_)
          simp only at hr hj
          simp only [AO.put, hr]
          rw [if_pos ⟨hj, hb.2⟩]
      · cases h
    · cases h
  · cases h
/-- The smaller, the greater of two integers. -/
def mmV (σ : St) : Op → Option (IntKind × Int)
  | .call { callee := .builtin .min, args := ⟨[x, y]⟩, .. } =>
    match σ.ev x, σ.ev y with
    | some (.sc (.int k m)), some (.sc (.int _ n)) => some (k, if n < m then n else m)
    | _, _ => none
  | .call { callee := .builtin .max, args := ⟨[x, y]⟩, .. } =>
    match σ.ev x, σ.ev y with
    | some (.sc (.int k m)), some (.sc (.int _ n)) => some (k, if n > m then n else m)
    | _, _ => none
  | _ => none
theorem WL.mm {k : IntKind} {z z' : Int} (hd : dstB C.N o = some d) (h : mmV σ o.op = some (k, z)) (hz : z = z') (K : WL P C ops rest (σ.put d (.sc (.int k z'))) Q) : WL P C ops (o :: rest) σ Q := by
  subst hz
  refine WL.vl hd ?_ K
  unfold mmV at h
  split at h
  · rename_i x y ts ho
    split at h
    · rename_i k m k' n hx hy
      cases h
      exact WV.sc fun G a w ok => by unfold execOp; simp [ho, resolve, invoke, builtin, ok.evs hx, ok.evs hy, Builtin.min_, Builtin.min2]
    · cases h
  · rename_i x y ts ho
    split at h
    · rename_i k m k' n hx hy
      cases h
      exact WV.sc fun G a w ok => by unfold execOp; simp [ho, resolve, invoke, builtin, ok.evs hx, ok.evs hy, Builtin.max_, Builtin.max2]
    · cases h
  · cases h
/-! Comparisons whose outcome is known. -/
def isCmp : Op → Bool
  | .binOp .lss _ _ _ _ => true
  | .binOp .leq _ _ _ _ => true
  | .binOp .gtr _ _ _ _ => true
  | .binOp .geq _ _ _ _ => true
  | .binOp .eql _ _ _ _ => true
  | _ => false
def isNeq : Op → Bool
  | .binOp .neq _ _ _ _ => true
  | _ => false
theorem WL.bt {φ : Prop} [i : Decidable φ] (hc : isCmp o.op = true) (hd : dstB C.N o = some d) (h : stepV P σ o.op = some (.sc (.bool (decide φ)))) (hφ : φ) (k : WL P C ops rest (σ.put d (.sc (.bool true))) Q) : WL P C ops (o :: rest) σ Q := by
  rw [decide_eq_true hφ] at h
  exact WL.vl hd (stepV_of rfl h) k
theorem WL.bf {φ : Prop} [i : Decidable φ] (hc : isCmp o.op = true) (hd : dstB C.N o = some d) (h : stepV P σ o.op = some (.sc (.bool (decide φ)))) (hφ : ¬ φ) (k : WL P C ops rest (σ.put d (.sc (.bool false))) Q) : WL P C ops (o :: rest) σ Q := by
  rw [decide_eq_false hφ] at h
  exact WL.vl hd (stepV_of rfl h) k
theorem WL.nt {φ : Prop} [i : Decidable φ] (hc : isNeq o.op = true) (hd : dstB C.N o = some d) (h : stepV P σ o.op = some (.sc (.bool (!decide φ)))) (hφ : ¬ φ) (k : WL P C ops rest (σ.put d (.sc (.bool true))) Q) : WL P C ops (o :: rest) σ Q := by
  rw [decide_eq_false hφ] at h
  exact WL.vl hd (stepV_of rfl h) k
theorem WL.nf {φ : Prop} [i : Decidable φ] (hc : isNeq o.op = true) (hd : dstB C.N o = some d) (h : stepV P σ o.op = some (.sc (.bool (!decide φ)))) (hφ : φ) (k : WL P C ops rest (σ.put d (.sc (.bool false))) Q) : WL P C ops (o :: rest) σ Q := by
  rw [decide_eq_true hφ] at h
  exact WL.vl hd (stepV_of rfl h) k
theorem WL.e1 {t t' : List (Nat × AV)} {M M' : List (Nat × AO)} {nk nk' : Nat} (h : opE P C.N t M nk o = some (t', M', nk')) (k : WL P C ops rest ⟨t', M', nk'⟩ Q) : WL P C ops (o :: rest) ⟨t, M, nk⟩ Q :=
  WL.op (opE_of h).1 (opE_of h).2 k
/-! Parts of strings. -/
def cutV (P : Program) (σ : St) : Op → Option (List UInt8 × Int × Int)
  | .slice T x (some y) (some z) none =>
    match P.underlying T, σ.ev x, σ.ev y, σ.ev z with
    | some .string, some (.sc (.string ⟨⟨s⟩⟩)), some (.sc (.int _ i)), some (.sc (.int _ j)) => some (s, i, j)
    | _, _, _, _ => none
  | .slice T x none (some z) none =>
    match P.underlying T, σ.ev x, σ.ev z with
    | some .string, some (.sc (.string ⟨⟨s⟩⟩)), some (.sc (.int _ j)) => some (s, 0, j)
    | _, _, _ => none
  | .slice T x (some y) none none =>
    match P.underlying T, σ.ev x, σ.ev y with
    | some .string, some (.sc (.string ⟨⟨s⟩⟩)), some (.sc (.int _ i)) => some (s, i, s.length)
    | _, _, _ => none
  | _ => none
theorem cut_run {w : World} {T : TypeId} {s t : List UInt8} {lo hi : Option Value} (hT : P.underlying T = some .string) (h : (Instr.slice T (.string (bs s)) lo hi none).run P w = .ok (.string (bs t)) w) :
    ((Instr.sliceAt T (.string (bs s)) lo hi none).run P w).andThen (fun a w' => Sem.run P (pure (Next.value a)) w') = .ok (.value (.string (bs t))) w := by
  have : (Instr.sliceAt T (.string (bs s)) lo hi none).run P w = (Instr.slice T (.string (bs s)) lo hi none).run P w := by
    unfold Instr.sliceAt
    rw [Sem.run_bind, run_underlying hT w]; rfl
  rw [this, h]; rfl
theorem cutV_of {s : List UInt8} {i j : Int} (h : cutV P σ o.op = some (s, i, j)) (hb : 0 ≤ i ∧ i ≤ j ∧ j ≤ s.length) : WV P C o σ (.sc (.string (bs (cut s i j)))) := by
  unfold cutV at h
  split at h
  · rename_i T x y z ho
    split at h
    · rename_i s' k i' k' j' hT hx hy hz
      cases h
      refine WV.sc fun G a w ok => ?_
      unfold execOp
      simp only [ho, Option.map_some, Option.map_none, ok.evs hx, ok.evs hy, ok.evs hz, Sem.run_bind]
      have := run_cut (P := P) w T s k k' i j hT hb.1 hb.2.1 hb.2.2
      exact cut_run hT this
    · cases h
  · rename_i T x z ho
    split at h
    · rename_i s' k' j' hT hx hz
      cases h
      refine WV.sc fun G a w ok => ?_
      unfold execOp
      simp only [ho, Option.map_some, Option.map_none, ok.evs hx, ok.evs hz, Sem.run_bind]
      have := run_cut_to (P := P) w T s k' j hT (by omega) hb.2.2
      exact cut_run hT this
    · cases h
  · rename_i T x y ho
    split at h
    · rename_i s' k i' hT hx hy
      cases h
      refine WV.sc fun G a w ok => ?_
      unfold execOp
      simp only [ho, Option.map_some, Option.map_none, ok.evs hx, ok.evs hy, Sem.run_bind]
      have := run_cut_from (P := P) w T s k i hT hb.1 hb.2.1
      have e : cut s i s.length = s.drop i.toNat := by unfold cut; rw [List.take_of_length_le (by simp)]
      rw [e]
      exact cut_run hT this
    · cases h
  · cases h
theorem WL.cut {s : List UInt8} {i j : Int} (hd : dstB C.N o = some d) (h : cutV P σ o.op = some (s, i, j)) (hb : 0 ≤ i ∧ i ≤ j ∧ j ≤ s.length) (k : WL P C ops rest (σ.put d (.sc (.string (bs (cut s i j))))) Q) : WL P C ops (o :: rest) σ Q :=
  WL.vl hd (cutV_of h hb) k
end
end Go.Proofs.YteldgllgagjciaaGreat
