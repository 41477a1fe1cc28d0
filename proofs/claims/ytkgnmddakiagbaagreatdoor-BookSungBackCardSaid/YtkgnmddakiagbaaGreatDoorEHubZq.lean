/- What a system lacks of a piece: the reference, over trees. -/
import Derived.Test.YtkgnmddakiagbaaGreatDoorBwubZq
import Derived.Test.YtkgnmddakiagbaaGreatDoorProg
import Derived.Deep.Slices
import Derived.Deep.Fields
import Derived.ReadAgain
import Derived.Deep.Draws
import Derived.OwnWalk
import Derived.Maps.AppendAt
import Derived.Deep.AppendLies
import Derived.Laws.OwnMore
import Derived.WalkKit
import Derived.Handy
import Derived.WalkLawsBesides
import Derived.Below
import Derived.ChangeSame
import Derived.Lib.SmallJoins
import Derived.Lib.Hide
import Derived.Deep.RegionHeld3
import Derived.Deep.MidRow
import Derived.BigQuiet
import Derived.Deep.QuietTactic
import Derived.Shelf.Strings.Builder1
import Derived.Shelf.Strings.Builder2
import Derived.Shelf.Small.Strs
import Derived.Shelf.Strings.BuilderF
import Derived.Shelf.Strings.BuilderK
import Derived.Shelf.Strings.Builder2Cap
import Derived.Shelf.Strconv.Itoa0
import Derived.Shelf.Strconv.Itoa1
import Derived.Shelf.LaysM
import Derived.Shelf.Strconv.Itoa2
import Derived.Shelf.Strconv.Itoa3
import Derived.Shelf.Strings.Search1
import Derived.Shelf.Strings.Search2
import Derived.Shelf.Strings.Search3
import Derived.Shelf.Strings.Cut
import Derived.Shelf.Strings.Count
import Derived.Shelf.Strings.Shaped
import Derived.Shelf.Strings.Prefix
import Derived.Shelf.Bits.Mul64
import Derived.Shelf.Strings.Repeat
import Derived.Shelf.Unicode.DecodeSlow
import Derived.Shelf.Strings.BuilderCap
import Derived.Still
import Derived.Lib.FrozenHead
import Derived.Test.YtkgnmddakiagbaaGreatDoorSayZq
import Derived.Lib.ItoaNum
import Derived.Laws.StructEq
import Derived.Test.YtkgnmddakiagbaaGreatDoorEHZq
set_option linter.unusedVariables false
set_option linter.unusedSimpArgs false
namespace Go.Proofs.YtkgnmddakiagbaaGreatDoor
open Go.RowKit Go.WideShapes Go.ChangeShapes Go.Joins Go.Deep
set_option maxRecDepth 100000
section
variable {H : Type} {enc : TypeId × Value → H} {w : World} {base : Nat} {spare : Nat → Bool} {held : Bool}
theorem cellsStop' : Tryz.prog.cellsOf 86 = 5 := by kernel_rfl
theorem cellsEvent : Tryz.prog.cellsOf 78 = 6 := by kernel_rfl
theorem cellsSign' : Tryz.prog.cellsOf 75 = 3 := by kernel_rfl
theorem cellsStops : Tryz.prog.cellsOf 76 = 1 := by kernel_rfl
theorem cellsEvents : Tryz.prog.cellsOf 27 = 1 := by kernel_rfl
theorem cellsPiece : Tryz.prog.cellsOf 29 = 3 := by kernel_rfl
theorem open_stops {n : Nat} {v : Value} {x : DataW H × List MemPlace} (h : DataW.trod enc Tryz.prog w base spare held n 76 [v] = some x) :
    ∃ (A : Option Addr) (c : Nat) (l : List Stp), v = .slice A l.length c ∧ l.length ≤ c ∧ c ≤ maxLen ∧ StpsAt w w.heap.size A l := by
  rcases open_slice (P := Tryz.prog) Tryz.underlying76 h with ⟨h0, _⟩ | ⟨a, len, cap, m, n', D, Pl, hcs, hb, hl, hm, hmm, _, hi⟩
  · obtain rfl : v = .slice none 0 0 := by simpa using h0
    exact ⟨none, 0, [], rfl, by simp, by simp, Rd.none_⟩
  · obtain rfl : v = .slice (some a) len cap := by simpa using hcs
    have hlm : len ≤ m := by rw [hmm]; split <;> omega
    obtain ⟨l, hlen, hq⟩ := list_of (Q := fun i (x : Stp) => ∀ j u, (stpCells x)[j]? = some u → w.cell? (a.add (i * 5 + j)) = some u) len (fun i hil => by
      obtain ⟨cs', hc, ht'⟩ := hi i (by omega)
      rw [cellsStop'] at hc
      obtain ⟨ys, n2, _, _, hlen, hys, hf⟩ := DataW.trod_struct Tryz.underlying86 ht'
      obtain ⟨_, hcl, hat⟩ := World.cells?_some hc
      match cs', hcl with
      | [u0, u1, u2, u3, u4], _ =>
        have f0 : DataW.trod enc Tryz.prog w base spare held n2 3 [u0] = ys[0]? := by simpa [cellsInt] using hf 0 _ rfl
        have f1 : DataW.trod enc Tryz.prog w base spare held n2 3 [u1] = ys[1]? := by simpa [cellsInt] using hf 1 _ rfl
        have f2 : DataW.trod enc Tryz.prog w base spare held n2 3 [u2] = ys[2]? := by simpa [cellsInt] using hf 2 _ rfl
        have f3 : DataW.trod enc Tryz.prog w base spare held n2 3 [u3] = ys[3]? := by simpa [cellsInt] using hf 3 _ rfl
        have f4 : DataW.trod enc Tryz.prog w base spare held n2 3 [u4] = ys[4]? := by simpa [cellsInt] using hf 4 _ rfl
        have gy : ∀ j, j < 5 → ∃ y, ys[j]? = some y := fun j hj => ⟨_, List.getElem?_eq_getElem (by rw [hys]; exact hj)⟩
        obtain ⟨y0, hy0⟩ := gy 0 (by omega)
        obtain ⟨y1, hy1⟩ := gy 1 (by omega)
        obtain ⟨y2, hy2⟩ := gy 2 (by omega)
        obtain ⟨y3, hy3⟩ := gy 3 (by omega)
        obtain ⟨y4, hy4⟩ := gy 4 (by omega)
        rw [hy0] at f0; rw [hy1] at f1; rw [hy2] at f2; rw [hy3] at f3; rw [hy4] at f4
        obtain ⟨a0, e0, _, _⟩ := DataW.trod_int Tryz.underlying3 f0
        obtain ⟨a1, e1, _, _⟩ := DataW.trod_int Tryz.underlying3 f1
        obtain ⟨a2, e2, _, _⟩ := DataW.trod_int Tryz.underlying3 f2
        obtain ⟨a3, e3, _, _⟩ := DataW.trod_int Tryz.underlying3 f3
        obtain ⟨a4, e4, _, _⟩ := DataW.trod_int Tryz.underlying3 f4
        simp only [List.cons.injEq, and_true] at e0 e1 e2 e3 e4
        subst e0 e1 e2 e3 e4
        refine ⟨(a0, a1, a2, a3, a4), fun j u hu => ?_⟩
        have hj : j < 5 := (List.getElem?_eq_some_iff.1 hu).1
        have := hat j hj
        rw [add_of_add] at this
        rw [this]
        exact hu)
    refine ⟨some a, cap, l, by rw [hlen], by omega, hm, fun hpos => ⟨a, rfl, ?_, ?_⟩⟩
    · have hpos' : 0 < l.length := by simpa using hpos
      have := World.block_lt_of_cell? w _ (hq 0 hpos' 0 _ rfl)
      rwa [block_of_add] at this
    · intro k r hr j u hu
      rw [List.getElem?_map] at hr
      cases hk : l[k]? with
      | none => rw [hk] at hr; cases hr
      | some x =>
        rw [hk] at hr
        obtain rfl : stpCells x = r := by simpa using hr
        obtain ⟨hkl, hkx⟩ := List.getElem?_eq_some_iff.1 hk
        have q := hq k hkl
        rw [hkx] at q
        exact q j u hu
end
end Go.Proofs.YtkgnmddakiagbaaGreatDoor
namespace Go.Proofs.YtkgnmddakiagbaaGreatDoor
open Go.RowKit Go.WideShapes Go.ChangeShapes Go.Joins Go.Deep
set_option maxRecDepth 100000
theorem rp_mem {α : Type} {w : World} {n : Nat} {l : List α} {e : α → List AV} {f : α → List Value} {A : Option Addr} {c B : Nat} (hr : Rd w B n A (l.map f)) (hc : l.length ≤ c)
    (hf : ∀ x, (e x).length = n) (hef : ∀ x (j : Nat) av, (e x)[j]? = some av → ∃ u, av = .sc u ∧ (f x)[j]? = some u ∧ u.oneCell' = true) : RP (fun q => w.cell? q) (.ls n (l.map e)) (.slice A l.length c) := by
  have hcell : ∀ ad, A = some ad → ∀ (k : Nat) x, l[k]? = some x → ∀ (j : Nat) u, (f x)[j]? = some u → w.cell? (ad.add (k * n + j)) = some u := fun ad had k x hk j u hu => by
    have hl : 0 < (l.map f).length := by have := (List.getElem?_eq_some_iff.1 hk).1; simp; omega
    obtain ⟨ad', e', _, h2⟩ := hr hl
    rw [had] at e'
    cases e'
    exact h2 k (f x) (by rw [List.getElem?_map, hk]; rfl) j u hu
  have key : ∀ (i : Nat) r (j : Nat) av, (l.map e)[i]? = some r → r[j]? = some av → ∃ x u, l[i]? = some x ∧ av = .sc u ∧ (f x)[j]? = some u ∧ u.oneCell' = true := fun i r j av hr' hav => by
    rw [List.getElem?_map] at hr'
    cases hx : l[i]? with
    | none => simp [hx] at hr'
    | some x =>
      rw [hx] at hr'
      obtain rfl : e x = r := by simpa using hr'
      obtain ⟨u, a, b, c⟩ := hef x j av hav
      exact ⟨x, u, rfl, a, b, c⟩
  have hlen : l.length = (l.map e).length := by simp
  rw [hlen]
  refine .ls n (l.map e) A c (A.getD ⟨0, 0, none⟩) (fun i j => ((l[i]?).bind fun x => (f x)[j]?).getD undef) (by simpa using hc) (fun r hr' => ?_) (fun hp => ?_) (fun i r j av hr' hav => ?_) (fun i r j av hr' hav => ?_)
  · obtain ⟨x, _, rfl⟩ := List.mem_map.1 hr'; exact hf x
  · obtain ⟨ad, e', _⟩ := hr (by simpa using hp)
    rw [e']; rfl
  · obtain ⟨x, u, h1, h2, h3, h4⟩ := key i r j av hr' hav
    obtain ⟨ad, e', _⟩ := hr (by have := (List.getElem?_eq_some_iff.1 h1).1; simp; omega)
    simp only [h1, Option.bind_some, h3, Option.getD_some]
    rw [e']
    exact ⟨hcell ad e' i x h1 j u h3, h4⟩
  · obtain ⟨x, u, h1, h2, h3, h4⟩ := key i r j av hr' hav
    simp only [h1, Option.bind_some, h3, Option.getD_some, h2]
    exact .sc u
theorem eStp_of (x : Stp) (j : Nat) (av : AV) (h : (eStp x)[j]? = some av) : ∃ u, av = .sc u ∧ (stpCells x)[j]? = some u ∧ u.oneCell' = true := by
  match j with
  | 0 => cases h; exact ⟨_, rfl, rfl, rfl⟩
  | 1 => cases h; exact ⟨_, rfl, rfl, rfl⟩
  | 2 => cases h; exact ⟨_, rfl, rfl, rfl⟩
  | 3 => cases h; exact ⟨_, rfl, rfl, rfl⟩
  | 4 => cases h; exact ⟨_, rfl, rfl, rfl⟩
  | j + 5 => simp [eStp] at h
section
variable {H : Type} {enc : TypeId × Value → H} {w : World} {base : Nat} {spare : Nat → Bool} {held : Bool}
theorem cap_of_trod {n k c : Nat} {T e : TypeId} {A : Option Addr} {x : DataW H × List MemPlace} (hu : Tryz.prog.underlying T = some (.slice e)) (h : DataW.trod enc Tryz.prog w base spare held n T [.slice A k c] = some x) : k ≤ c := by
  rcases open_slice (P := Tryz.prog) hu h with ⟨h0, _⟩ | ⟨a, len, cap, m, n', D, Pl, hcs, hb, hl, hm, hmm, _, hi⟩
  · simp at h0; omega
  · simp at hcs; omega
theorem open_events_rp {n : Nat} {v : Value} {x : DataW H × List MemPlace} (h : DataW.trod enc Tryz.prog w base spare held n 27 [v] = some x) :
    ∃ evs : List Ev, RP (fun q => w.cell? q) (.ls 6 (evs.map eEv)) v := by
  rcases open_slice (P := Tryz.prog) Tryz.underlying27 h with ⟨h0, _⟩ | ⟨a, len, cap, m, n', D, Pl, hcs, hb, hl, hm, hmm, _, hi⟩
  · obtain rfl : v = .slice none 0 0 := by simpa using h0
    exact ⟨[], .ls 6 [] none 0 ⟨0, 0, none⟩ (fun _ _ => undef) (by simp) (by simp) (fun h => absurd h (by simp)) (fun i r j av h => by simp at h) (fun i r j av h => by simp at h)⟩
  · obtain rfl : v = .slice (some a) len cap := by simpa using hcs
    have hlm : len ≤ m := by rw [hmm]; split <;> omega
    obtain ⟨l, hlen, hq⟩ := list_of (Q := fun i (x : Ev × (Option Addr × Nat)) => (∀ j u, (evCells x.1 x.2)[j]? = some u → w.cell? (a.add (i * 6 + j)) = some u) ∧ StpsAt w w.heap.size x.2.1 x.1.stops ∧ x.1.stops.length ≤ x.2.2) len (fun i hil => by
      obtain ⟨cs', hc, ht'⟩ := hi i (by omega)
      rw [cellsEvent] at hc
      obtain ⟨ys, n2, _, _, hlen, hys, hf⟩ := DataW.trod_struct Tryz.underlying78 ht'
      obtain ⟨_, hcl, hat⟩ := World.cells?_some hc
      match cs', hcl with
      | [u0, u1, u2, u3, u4, u5], _ =>
        have f0 : DataW.trod enc Tryz.prog w base spare held n2 4 [u0] = ys[0]? := by simpa [cellsBool] using hf 0 _ rfl
        have f1 : DataW.trod enc Tryz.prog w base spare held n2 75 [u1, u2, u3] = ys[1]? := by simpa [cellsSign'] using hf 1 _ rfl
        have f2 : DataW.trod enc Tryz.prog w base spare held n2 4 [u4] = ys[2]? := by simpa [cellsBool] using hf 2 _ rfl
        have f3 : DataW.trod enc Tryz.prog w base spare held n2 76 [u5] = ys[3]? := by simpa [cellsStops] using hf 3 _ rfl
        have gy : ∀ j, j < 4 → ∃ y, ys[j]? = some y := fun j hj => ⟨_, List.getElem?_eq_getElem (by rw [hys]; exact hj)⟩
        obtain ⟨y0, hy0⟩ := gy 0 (by omega)
        obtain ⟨y1, hy1⟩ := gy 1 (by omega)
        obtain ⟨y2, hy2⟩ := gy 2 (by omega)
        obtain ⟨y3, hy3⟩ := gy 3 (by omega)
        rw [hy0] at f0; rw [hy1] at f1; rw [hy2] at f2; rw [hy3] at f3
        obtain ⟨zs, n3, _, _, _, hzs, hg⟩ := DataW.trod_struct Tryz.underlying75 f1
        have s0 : DataW.trod enc Tryz.prog w base spare held n3 3 [u1] = zs[0]? := by simpa [cellsInt] using hg 0 _ rfl
        have s1 : DataW.trod enc Tryz.prog w base spare held n3 4 [u2] = zs[1]? := by simpa [cellsBool] using hg 1 _ rfl
        have s2 : DataW.trod enc Tryz.prog w base spare held n3 4 [u3] = zs[2]? := by simpa [cellsBool] using hg 2 _ rfl
        have gz : ∀ j, j < 3 → ∃ y, zs[j]? = some y := fun j hj => ⟨_, List.getElem?_eq_getElem (by rw [hzs]; exact hj)⟩
        obtain ⟨z0, hz0⟩ := gz 0 (by omega)
        obtain ⟨z1, hz1⟩ := gz 1 (by omega)
        obtain ⟨z2, hz2⟩ := gz 2 (by omega)
        rw [hz0] at s0; rw [hz1] at s1; rw [hz2] at s2
        obtain ⟨b0, e0, _⟩ := DataW.trod_bool Tryz.underlying4 f0
        obtain ⟨b1, e1, _, _⟩ := DataW.trod_int Tryz.underlying3 s0
        obtain ⟨b2, e2, _⟩ := DataW.trod_bool Tryz.underlying4 s1
        obtain ⟨b3, e3, _⟩ := DataW.trod_bool Tryz.underlying4 s2
        obtain ⟨b4, e4, _⟩ := DataW.trod_bool Tryz.underlying4 f2
        obtain ⟨S, c, l, e5, hlc, _, hS⟩ := open_stops f3
        simp only [List.cons.injEq, and_true] at e0 e1 e2 e3 e4
        subst e0 e1 e2 e3 e4 e5
        refine ⟨(⟨b0, b1, b2, b3, b4, l⟩, (S, c)), fun j u hu => ?_, hS, hlc⟩
        have hj : j < 6 := (List.getElem?_eq_some_iff.1 hu).1
        have := hat j hj
        rw [add_of_add] at this
        rw [this]
        exact hu)
    refine ⟨l.map (·.1), ?_⟩
    have hll : len = ((l.map (·.1)).map eEv).length := by simp [hlen]
    have key : ∀ (i : Nat) r (j : Nat) av, ((l.map (·.1)).map eEv)[i]? = some r → r[j]? = some av → ∃ x u, l[i]? = some x ∧ (evCells x.1 x.2)[j]? = some u ∧ w.cell? (a.add (i * 6 + j)) = some u ∧ u.oneCell' = true ∧ RP (fun q => w.cell? q) av u := fun i r j av hr hav => by
      rw [List.map_map, List.getElem?_map] at hr
      cases hx : l[i]? with
      | none => simp [hx] at hr
      | some x =>
        rw [hx] at hr
        obtain rfl : eEv x.1 = r := by simpa using hr
        obtain ⟨hkl, hkx⟩ := List.getElem?_eq_some_iff.1 hx
        have q := hq i hkl
        rw [hkx] at q
        have fin : ∀ u, (evCells x.1 x.2)[j]? = some u → u.oneCell' = true → RP (fun q => w.cell? q) av u → ∃ x' u, some x = some x' ∧ (evCells x'.1 x'.2)[j]? = some u ∧ w.cell? (a.add (i * 6 + j)) = some u ∧ u.oneCell' = true ∧ RP (fun q => w.cell? q) av u := fun u h1 h2 h3 => ⟨x, u, rfl, h1, q.1 j u h1, h2, h3⟩
        match j with
        | 0 => cases hav; exact fin _ rfl rfl (.sc _)
        | 1 => cases hav; exact fin _ rfl rfl (.sc _)
        | 2 => cases hav; exact fin _ rfl rfl (.sc _)
        | 3 => cases hav; exact fin _ rfl rfl (.sc _)
        | 4 => cases hav; exact fin _ rfl rfl (.sc _)
        | 5 => cases hav; exact fin _ rfl rfl (rp_mem q.2.1 q.2.2 (fun _ => rfl) eStp_of)
        | j + 6 => simp [eEv] at hav
    rw [hll]
    refine .ls 6 _ (some a) cap a (fun i j => ((l[i]?).bind fun x => (evCells x.1 x.2)[j]?).getD undef) (by rw [← hll]; exact hl) (fun r hr => ?_) (fun _ => rfl) (fun i r j av hr hav => ?_) (fun i r j av hr hav => ?_)
    · obtain ⟨x, _, rfl⟩ := List.mem_map.1 hr; rfl
    · obtain ⟨x, u, h1, h2, h3, h4, _⟩ := key i r j av hr hav
      simp only [h1, Option.bind_some, h2, Option.getD_some]
      exact ⟨h3, h4⟩
    · obtain ⟨x, u, h1, h2, _, _, h5⟩ := key i r j av hr hav
      simp only [h1, Option.bind_some, h2, Option.getD_some]
      exact h5
theorem open_piece_rp {r : Reach} {b0 : Nat} {v : Value} {d : DataW H} {p : List MemPlace} (hv : Value.okWide Tryz.prog w r b0 29 v) (h : DataW.Trod enc Tryz.prog w base spare held 29 v d p) :
    ∃ pc : Pce, RP (fun q => w.cell? q) (ePce pc) v := by
  obtain ⟨cs, rfl, hsz⟩ := okWide_struct Tryz.underlying29 hv
  obtain ⟨l⟩ := cs
  match l, hsz.trans cellsPiece with
  | [c0, c1, c2], _ =>
    obtain ⟨fuel, hf⟩ := h
    obtain ⟨ys, n2, _, _, _, hys, hg⟩ := DataW.trod_struct Tryz.underlying29 (by simpa [Value.cells] using hf : DataW.trod enc Tryz.prog w base spare held fuel 29 [c0, c1, c2] = some (d, p))
    have f0 : DataW.trod enc Tryz.prog w base spare held n2 26 [c0, c1] = ys[0]? := by simpa [cellsInstrument] using hg 0 _ rfl
    have f1 : DataW.trod enc Tryz.prog w base spare held n2 27 [c2] = ys[1]? := by simpa [cellsEvents] using hg 1 _ rfl
    obtain ⟨y0, hy0⟩ : ∃ y, ys[0]? = some y := ⟨_, List.getElem?_eq_getElem (by rw [hys]; decide)⟩
    obtain ⟨y1, hy1⟩ : ∃ y, ys[1]? = some y := ⟨_, List.getElem?_eq_getElem (by rw [hys]; decide)⟩
    rw [hy0] at f0; rw [hy1] at f1
    obtain ⟨zs, n3, _, _, _, hzs, hz⟩ := DataW.trod_struct Tryz.underlying26 f0
    have g0 : DataW.trod enc Tryz.prog w base spare held n3 23 [c0] = zs[0]? := by simpa [cellsCourses] using hz 0 _ rfl
    have g1 : DataW.trod enc Tryz.prog w base spare held n3 24 [c1] = zs[1]? := by simpa [cellsInts] using hz 1 _ rfl
    obtain ⟨z0, hz0⟩ : ∃ y, zs[0]? = some y := ⟨_, List.getElem?_eq_getElem (by rw [hzs]; decide)⟩
    obtain ⟨z1, hz1⟩ : ∃ y, zs[1]? = some y := ⟨_, List.getElem?_eq_getElem (by rw [hzs]; decide)⟩
    rw [hz0] at g0; rw [hz1] at g1
    obtain ⟨A1, A2, k1, k2, cs, st, rfl, rfl, l1, l2, hI⟩ := open_ins f0
    obtain ⟨evs, hE⟩ := open_events_rp f1
    have hc1 := cap_of_trod Tryz.underlying23 g0
    have hc2 := cap_of_trod Tryz.underlying24 g1
    refine ⟨⟨cs, st, evs⟩, .ag _ _ rfl fun i av u a b => ?_⟩
    match i with
    | 0 => cases a; cases b; exact rp_mem hI.1 hc1 (fun _ => rfl) eCrs_of
    | 1 => cases a; cases b; exact rp_mem hI.2 hc2 (fun _ => rfl) eInt_of
    | 2 => cases a; cases b; exact hE
    | i + 3 => simp at a
end
end Go.Proofs.YtkgnmddakiagbaaGreatDoor
namespace Go.Proofs.YtkgnmddakiagbaaGreatDoor
open Go.RowKit
set_option maxHeartbeats 8000000
set_option maxRecDepth 100000
def lastOf (l : List Stp) (k : Nat) : Int := if k = 0 then 0 else (l.getD (k - 1) (0, 0, 0, 0, 0)).1
theorem lastOf_succ {l : List Stp} {k : Nat} (h : k < l.length) : lastOf l (k + 1) = l[k].1 := by
  unfold lastOf
  rw [if_neg (by omega), Nat.add_sub_cancel, List.getD_eq_getElem?_getD, List.getElem?_eq_getElem h]; rfl
theorem evE_sign' {p : Pce} {i : Int} {e : Ev} (h : sgOk e.val e.dot e.three = false ∨ (i = 0 ∧ e.val = 0)) : evE p i e = 20 := if_pos h
theorem evE_tie' {p : Pce} {i : Int} {e : Ev} (h : ¬ (sgOk e.val e.dot e.three = false ∨ (i = 0 ∧ e.val = 0))) (h1 : e.tie = true ∧ (0 < e.stops.length ∨ i = 0)) : evE p i e = 21 := by unfold evE; rw [if_neg h, if_pos h1]
theorem evE_stops' {p : Pce} {i : Int} {e : Ev} (h : ¬ (sgOk e.val e.dot e.three = false ∨ (i = 0 ∧ e.val = 0))) (h1 : ¬ (e.tie = true ∧ (0 < e.stops.length ∨ i = 0))) : evE p i e = stopsE p i 0 e.stops := by unfold evE; rw [if_neg h, if_neg h1]
theorem rEvent_FS (p : Pce) (i : Nat) (hi : i < p.evs.length) (hO : PcOk p) : Ctr Tryz.prog 94 [ePce p, .sc (.int .i64 i)] (.sc (.int .i64 (evE p i p.evs[i]))) := by
  have h20 := hO.n4 i hi
  have hn3 := hO.n3
  have hn1 := hO.n1
  have hR := rRight2_FS p.evs[i].val p.evs[i].dot p.evs[i].three
  by_cases hA : sgOk p.evs[i].val p.evs[i].dot p.evs[i].three = false ∨ ((i : Int) = 0 ∧ p.evs[i].val = 0)
  · rw [evE_sign' hA]
    by_cases hs : sgOk p.evs[i].val p.evs[i].dot p.evs[i].three = false
    · rw [hs] at hR
      refine Ctr.intro Tryz.func94 rfl Tryz.ntmps94 (Nat.le_of_ble_eq_true rfl) (bd_all rfl) fun w0 F0 => ?_; dsimp only [St.init, number, Nat.reduceAdd]
      repeat (first | refine W.gob rfl ?_ | refine WL.nil ?_ | refine WL.e1 rfl ?_ | refine WL.idx rfl rfl (by omega) (by first | exact map_at (by omega) | exact map_atZ (by omega) (by omega)) ?_)
      refine (?_ : WL _ _ _ _ _ _)
      dsimp only [St.put, Nat.reduceAdd]
      refine WL.vl rfl (WV.call rfl (callF Tryz.func153 rfl rfl) rfl rfl hR) ?_
      repeat (first | refine W.gob rfl ?_ | refine WL.nil ?_ | refine WL.e1 rfl ?_ | refine WL.opno rfl rfl rfl rfl rfl rfl rfl ?_ | refine W.condT rfl ?_)
      refine (?_ : W _ _ _ _ _)
      dsimp only [St.put, Nat.reduceAdd]
      exact W.ret (fin1 rfl rfl rfl rfl)
    · obtain ⟨h1, h2⟩ := hA.resolve_left hs
      rw [show sgOk p.evs[i].val p.evs[i].dot p.evs[i].three = true by simpa using hs] at hR
      refine Ctr.intro Tryz.func94 rfl Tryz.ntmps94 (Nat.le_of_ble_eq_true rfl) (bd_all rfl) fun w0 F0 => ?_; dsimp only [St.init, number, Nat.reduceAdd]
      repeat (first | refine W.gob rfl ?_ | refine WL.nil ?_ | refine WL.e1 rfl ?_ | refine WL.idx rfl rfl (by omega) (by first | exact map_at (by omega) | exact map_atZ (by omega) (by omega)) ?_)
      refine (?_ : WL _ _ _ _ _ _)
      dsimp only [St.put, Nat.reduceAdd]
      refine WL.vl rfl (WV.call rfl (callF Tryz.func153 rfl rfl) rfl rfl hR) ?_
      repeat (first | refine W.gob rfl ?_ | refine WL.nil ?_ | refine WL.bt rfl rfl rfl (by omega) ?_ | refine WL.e1 rfl ?_ | refine WL.gyes rfl rfl rfl rfl ?_ | refine W.condT rfl ?_)
      refine (?_ : W _ _ _ _ _)
      dsimp only [St.put, Nat.reduceAdd]
      exact W.ret (fin1 rfl rfl rfl rfl)
  have hs : sgOk p.evs[i].val p.evs[i].dot p.evs[i].three = true := by
    cases h : sgOk p.evs[i].val p.evs[i].dot p.evs[i].three with
    | true => rfl
    | false => exact absurd (.inl h) hA
  rw [hs] at hR
  refine Ctr.intro Tryz.func94 rfl Tryz.ntmps94 (Nat.le_of_ble_eq_true rfl) (bd_all rfl) fun w0 F0 => ?_; dsimp only [St.init, number, Nat.reduceAdd]
  repeat (first | refine W.gob rfl ?_ | refine WL.nil ?_ | refine WL.e1 rfl ?_ | refine WL.idx rfl rfl (by omega) (by first | exact map_at (by omega) | exact map_atZ (by omega) (by omega)) ?_)
  refine (?_ : WL _ _ _ _ _ _)
  dsimp only [St.put, Nat.reduceAdd]
  refine WL.meet2 ⟨[(1, .sc (.int .i64 i)), (2, .pt 0 0 0), (5, .pt 1 0 0)], [(0, .box 29 (ePce p).cells), (1, .box 78 (eEv p.evs[i]))], 2⟩ ?_ ?_
  · refine WL.vl rfl (WV.call rfl (callF Tryz.func153 rfl rfl) rfl rfl hR) ?_
    by_cases h1 : (i : Int) = 0
    · have h2 : ¬ p.evs[i].val = 0 := fun h => hA (.inr ⟨h1, h⟩)
      repeat (first | refine W.gob rfl ?_ | refine WL.nil ?_ | refine WL.bt rfl rfl rfl (by omega) ?_ | refine WL.bf rfl rfl rfl (by omega) ?_ | refine WL.e1 rfl ?_ | refine WL.gyes rfl rfl rfl rfl ?_ | refine W.condF rfl ?_)
      dsimp only [St.put, Nat.reduceAdd]
      refine (?_ : Tr _ _ _)
      exact (Tr.ren id (by repeat (first | exact trivial | refine ⟨⟨?_, ?_⟩, ?_⟩ | rfl)) (by repeat (first | exact trivial | refine ⟨⟨?_, ?_, ?_⟩, ?_⟩ | rfl)) rfl)
    · repeat (first | refine W.gob rfl ?_ | refine WL.nil ?_ | refine WL.bf rfl rfl rfl (by omega) ?_ | refine WL.e1 rfl ?_ | refine WL.gyes rfl rfl rfl rfl ?_ | refine WL.opno rfl rfl rfl rfl rfl rfl rfl ?_ | refine W.condF rfl ?_)
      dsimp only [St.put, Nat.reduceAdd]
      refine (?_ : Tr _ _ _)
      exact (Tr.ren id (by repeat (first | exact trivial | refine ⟨⟨?_, ?_⟩, ?_⟩ | rfl)) (by repeat (first | exact trivial | refine ⟨⟨?_, ?_, ?_⟩, ?_⟩ | rfl)) rfl)
  by_cases hB : p.evs[i].tie = true ∧ (0 < p.evs[i].stops.length ∨ (i : Int) = 0)
  · rw [evE_tie' hA hB]
    obtain ⟨h1, h2⟩ := hB
    repeat (first | refine W.gob rfl ?_ | refine WL.e1 rfl ?_)
    refine (?_ : WL _ _ _ _ _ _)
    dsimp only [St.put, Nat.reduceAdd]
    rw [h1]
    by_cases h3 : 0 < p.evs[i].stops.length
    · repeat (first | refine W.gob rfl ?_ | refine WL.nil ?_ | refine WL.bt rfl rfl rfl (by omega) ?_ | refine WL.e1 rfl ?_ | refine WL.gyes rfl rfl rfl rfl ?_ | refine WL.opno rfl rfl rfl rfl rfl rfl rfl ?_ | refine WL.len rfl rfl (by first | exact List.length_map _ | exact List.length_replicate | rfl) ?_ | refine W.condT rfl ?_)
      refine (?_ : W _ _ _ _ _)
      dsimp only [St.put, Nat.reduceAdd]
      exact W.ret (fin1 rfl rfl rfl rfl)
    · have h4 := h2.resolve_left h3
      repeat (first | refine W.gob rfl ?_ | refine WL.nil ?_ | refine WL.bt rfl rfl rfl (by omega) ?_ | refine WL.bf rfl rfl rfl (by omega) ?_ | refine WL.e1 rfl ?_ | refine WL.gyes rfl rfl rfl rfl ?_ | refine WL.len rfl rfl (by first | exact List.length_map _ | exact List.length_replicate | rfl) ?_ | refine W.condT rfl ?_)
      refine (?_ : W _ _ _ _ _)
      dsimp only [St.put, Nat.reduceAdd]
      exact W.ret (fin1 rfl rfl rfl rfl)
  rw [evE_stops' hA hB]
  repeat (first | refine W.gob rfl ?_ | refine WL.e1 rfl ?_)
  refine (?_ : WL _ _ _ _ _ _)
  dsimp only [St.put, Nat.reduceAdd]
  refine WL.meet2 ⟨[(1, .sc (.int .i64 i)), (2, .pt 0 0 0), (5, .pt 1 0 0)], [(0, .box 29 (ePce p).cells), (1, .box 78 (eEv p.evs[i]))], 2⟩ ?_ ?_
  · cases h1 : p.evs[i].tie with
    | true =>
      have h2 : ¬ 0 < p.evs[i].stops.length := fun h => hB ⟨h1, .inl h⟩
      have h3 : ¬ (i : Int) = 0 := fun h => hB ⟨h1, .inr h⟩
      repeat (first | refine W.gob rfl ?_ | refine WL.nil ?_ | refine WL.bf rfl rfl rfl (by omega) ?_ | refine WL.e1 rfl ?_ | refine WL.gyes rfl rfl rfl rfl ?_ | refine WL.len rfl rfl (by first | exact List.length_map _ | exact List.length_replicate | rfl) ?_ | refine W.condF rfl ?_)
      dsimp only [St.put, Nat.reduceAdd]
      refine (?_ : Tr _ _ _)
      exact (Tr.ren id (by repeat (first | exact trivial | refine ⟨⟨?_, ?_⟩, ?_⟩ | rfl)) (by repeat (first | exact trivial | refine ⟨⟨?_, ?_, ?_⟩, ?_⟩ | rfl)) rfl)
    | false =>
      repeat (first | refine W.gob rfl ?_ | refine WL.nil ?_ | refine WL.e1 rfl ?_ | refine WL.opno rfl rfl rfl rfl rfl rfl rfl ?_ | refine W.condF rfl ?_)
      dsimp only [St.put, Nat.reduceAdd]
      refine (?_ : Tr _ _ _)
      exact (Tr.ren id (by repeat (first | exact trivial | refine ⟨⟨?_, ?_⟩, ?_⟩ | rfl)) (by repeat (first | exact trivial | refine ⟨⟨?_, ?_, ?_⟩, ?_⟩ | rfl)) rfl)
  obtain ⟨l, hl⟩ : ∃ l, p.evs[i].stops = l := ⟨_, rfl⟩
  have hev : eEv p.evs[i] = [.sc (.bool p.evs[i].bar), .sc (.int .i64 p.evs[i].val), .sc (.bool p.evs[i].dot), .sc (.bool p.evs[i].three), .sc (.bool p.evs[i].tie), .ls 5 (l.map eStp)] := by rw [← hl]; rfl
  rw [hl] at h20
  rw [hev, hl]
  repeat (first | refine W.gob rfl ?_ | refine WL.nil ?_ | refine WL.e1 rfl ?_)
  refine (?_ : W _ _ _ _ _)
  refine W.loop (fun k : Nat => k ≤ l.length ∧ stopsE p i 0 l = stopsE p i (lastOf l k) (l.drop k)) (fun k => ⟨[(1, .sc (.int .i64 i)), (2, .pt 0 0 0), (5, .pt 1 0 0), (6, .sc (.int .i64 k))], [(0, .box 29 (ePce p).cells), (1, .box 78 [.sc (.bool p.evs[i].bar), .sc (.int .i64 p.evs[i].val), .sc (.bool p.evs[i].dot), .sc (.bool p.evs[i].three), .sc (.bool p.evs[i].tie), .ls 5 (l.map eStp)])], 2⟩) (fun k => l.length - k) 0 ⟨by omega, rfl⟩ (Tr.ren id (by repeat (first | exact trivial | refine ⟨⟨?_, ?_⟩, ?_⟩ | rfl)) (by repeat (first | exact trivial | refine ⟨⟨?_, ?_, ?_⟩, ?_⟩ | rfl)) rfl) fun k hk => ?_
  obtain ⟨hk, hE⟩ := hk
  by_cases hlt : k < l.length
  rotate_left
  · obtain rfl : k = l.length := by omega
    rw [List.drop_length] at hE
    rw [show stopsE p i 0 l = 0 from hE]
    repeat (first | refine W.gob rfl ?_ | refine WL.nil ?_ | refine WL.bf rfl rfl rfl (by omega) ?_ | refine WL.e1 rfl ?_ | refine WL.len rfl rfl (by first | exact List.length_map _ | exact List.length_replicate | rfl) ?_ | refine W.condF rfl ?_)
    refine (?_ : W _ _ _ _ _)
    dsimp only [St.put, Nat.reduceAdd]
    exact W.ret (fin1 rfl rfl rfl rfl)
  rw [stopsE_at hlt] at hE
  have hls := lastOf_succ hlt
  have hLo := rLong_FS p hO i l[k].1
  have hprev : ∀ h : 0 < k, lastOf l k = (l[k - 1]'(by omega)).1 := fun h => by
    unfold lastOf
    rw [if_neg (by omega), List.getD_eq_getElem?_getD, List.getElem?_eq_getElem (by omega)]; rfl
  have hlast0 : k = 0 → lastOf l k = 0 := fun h => if_pos h
  by_cases c1 : l[k].1 < 1 ∨ (p.cs.length : Int) < l[k].1
  · rw [stopE_crs c1, if_pos (by decide)] at hE
    rw [hE]
    by_cases c : l[k].1 < 1
    · repeat (first | refine W.gob rfl ?_ | refine WL.nil ?_ | refine WL.bt rfl rfl rfl (by omega) ?_ | refine WL.e1 rfl ?_ | refine WL.opno rfl rfl rfl rfl rfl rfl rfl ?_ | refine WL.len rfl rfl (by first | exact List.length_map _ | exact List.length_replicate | rfl) ?_ | refine WL.idx rfl rfl (by omega) (by first | exact map_at (by omega) | exact map_atZ (by omega) (by omega)) ?_ | refine W.condT rfl ?_)
      refine (?_ : W _ _ _ _ _)
      dsimp only [St.put, Nat.reduceAdd]
      exact W.ret (fin1 rfl rfl rfl rfl)
    · have c' : l[k].1 > (p.cs.length : Int) := by omega
      repeat (first | refine W.gob rfl ?_ | refine WL.nil ?_ | refine WL.bt rfl rfl rfl (by omega) ?_ | refine WL.bf rfl rfl rfl (by omega) ?_ | refine WL.e1 rfl ?_ | refine WL.gyes rfl rfl rfl rfl ?_ | refine WL.len rfl rfl (by first | exact List.length_map _ | exact List.length_replicate | rfl) ?_ | refine WL.idx rfl rfl (by omega) (by first | exact map_at (by omega) | exact map_atZ (by omega) (by omega)) ?_ | refine W.condT rfl ?_)
      refine (?_ : W _ _ _ _ _)
      dsimp only [St.put, Nat.reduceAdd]
      exact W.ret (fin1 rfl rfl rfl rfl)
  have c1a : ¬ l[k].1 < 1 := by omega
  have c1b : ¬ l[k].1 > (p.cs.length : Int) := by omega
  have hck : (l[k].1 - 1).toNat < p.cs.length := by omega
  have hfe : fretsOf p.cs l[k].1 = p.cs[(l[k].1 - 1).toNat].2.1 := by
    have := fretsOf_at hck
    rw [← this]; congr 1; omega
  repeat (first | refine W.gob rfl ?_ | refine WL.nil ?_ | refine WL.bt rfl rfl rfl (by omega) ?_ | refine WL.bf rfl rfl rfl (by omega) ?_ | refine WL.e1 rfl ?_ | refine WL.gyes rfl rfl rfl rfl ?_ | refine WL.len rfl rfl (by first | exact List.length_map _ | exact List.length_replicate | rfl) ?_ | refine WL.idx rfl rfl (by omega) (by first | exact map_at (by omega) | exact map_atZ (by omega) (by omega)) ?_ | refine W.condT rfl ?_ | refine W.condF rfl ?_)
  refine (?_ : W _ _ _ _ _)
  dsimp only [St.put, Nat.reduceAdd]
  by_cases c2 : l[k].2.1 < 0 ∨ fretsOf p.cs l[k].1 < l[k].2.1
  · rw [stopE_fret c1 c2, if_pos (by decide)] at hE
    rw [hE]
    rw [hfe] at c2
    by_cases c : l[k].2.1 < 0
    · refine W.drawK (by kernel_rfl) (by kernel_rfl) ?_
      repeat (first | refine DK.bt rfl rfl (by omega) ?_ | refine DK.tt rfl (by first | (simp; done) | fail) ?_ | refine DK.st rfl ?_ | refine DK.nil ?_)
      repeat (first | refine W.gob rfl ?_ | refine WL.nil ?_ | refine WL.e1 rfl ?_ | refine W.condT rfl ?_)
      refine (?_ : W _ _ _ _ _)
      dsimp only [St.put, Nat.reduceAdd]
      exact W.ret (fin1 rfl rfl rfl rfl)
    · have c' : l[k].2.1 > p.cs[(l[k].1 - 1).toNat].2.1 := by omega
      refine W.drawK (by kernel_rfl) (by kernel_rfl) ?_
      repeat (first | refine DK.bt rfl rfl (by omega) ?_ | refine DK.bf rfl rfl (by omega) ?_ | refine DK.tt rfl (by first | (simp; done) | fail) ?_ | refine DK.ff rfl (by first | (simp; done) | fail) ?_ | refine DK.st rfl ?_ | refine DK.ar rfl rfl (by unfold I64; omega) ?_ | refine DK.idx rfl rfl (by omega) (by first | exact map_at (by omega) | exact map_atZ (by omega) (by omega)) ?_ | refine DK.nil ?_)
      repeat (first | refine W.gob rfl ?_ | refine WL.nil ?_ | refine WL.e1 rfl ?_ | refine W.condT rfl ?_)
      refine (?_ : W _ _ _ _ _)
      dsimp only [St.put, Nat.reduceAdd]
      exact W.ret (fin1 rfl rfl rfl rfl)
  have c2a : ¬ l[k].2.1 < 0 := by omega
  have c2b : ¬ l[k].2.1 > p.cs[(l[k].1 - 1).toNat].2.1 := by rw [← hfe]; omega
  refine W.drawK (by kernel_rfl) (by kernel_rfl) ?_
  repeat (first | refine DK.bf rfl rfl (by omega) ?_ | refine DK.ff rfl (by first | (simp; done) | fail) ?_ | refine DK.st rfl ?_ | refine DK.ar rfl rfl (by unfold I64; omega) ?_ | refine DK.idx rfl rfl (by omega) (by first | exact map_at (by omega) | exact map_atZ (by omega) (by omega)) ?_ | refine DK.nil ?_)
  repeat (first | refine W.gob rfl ?_ | refine W.condF rfl ?_)
  refine (?_ : W _ _ _ _ _)
  dsimp only [St.put, Nat.reduceAdd]
  refine W.meet ⟨[(1, .sc (.int .i64 i)), (2, .pt 0 0 0), (5, .pt 1 0 0), (6, .sc (.int .i64 k)), (7, .pt 2 0 0), (93, .sc (.bool (decide (l[k].1 ≤ lastOf l k))))], [(0, .box 29 (ePce p).cells), (1, .box 78 [.sc (.bool p.evs[i].bar), .sc (.int .i64 p.evs[i].val), .sc (.bool p.evs[i].dot), .sc (.bool p.evs[i].three), .sc (.bool p.evs[i].tie), .ls 5 (l.map eStp)]), (2, .box 86 (eStp l[k]))], 3⟩ ?_ ?_
  · by_cases h0 : k = 0
    · rw [hlast0 h0, decide_eq_false (by omega)]
      have h0' : ¬ (k : Int) > 0 := by omega
      refine W.drawK (by kernel_rfl) (by kernel_rfl) ?_
      repeat (first | refine DK.bf rfl rfl (by omega) ?_ | refine DK.ff rfl (by first | (simp; done) | fail) ?_ | refine DK.st rfl ?_ | refine DK.nil ?_)
      refine (?_ : Tr _ _ _)
      exact (Tr.ren id (by repeat (first | exact trivial | refine ⟨⟨?_, ?_⟩, ?_⟩ | rfl)) (by repeat (first | exact trivial | refine ⟨⟨?_, ?_, ?_⟩, ?_⟩ | rfl)) rfl)
    · rw [hprev (by omega)]
      have h0' : (k : Int) > 0 := by omega
      have ek : ((k : Int) - 1).toNat = k - 1 := by omega
      refine W.drawK (by kernel_rfl) (by kernel_rfl) ?_
      repeat (first | refine DK.bt rfl rfl (by omega) ?_ | refine DK.tt rfl (by first | (simp; done) | fail) ?_ | refine DK.st rfl ?_ | refine DK.ar rfl rfl (by unfold I64; omega) ?_ | refine DK.idx rfl rfl (by omega) (by first | exact map_at (by omega) | exact map_atZ (by omega) (by omega)) ?_ | refine DK.nil ?_)
      simp only [ek]
      refine (?_ : Tr _ _ _)
      exact (Tr.ren id (by repeat (first | exact trivial | refine ⟨⟨?_, ?_⟩, ?_⟩ | rfl)) (by repeat (first | exact trivial | refine ⟨⟨?_, ?_, ?_⟩, ?_⟩ | rfl)) rfl)
  by_cases c3 : l[k].1 ≤ lastOf l k
  · rw [stopE_order c1 c2 c3, if_pos (by decide)] at hE
    rw [hE, decide_eq_true c3]
    repeat (first | refine W.gob rfl ?_ | refine WL.nil ?_ | refine WL.e1 rfl ?_ | refine W.condT rfl ?_)
    refine (?_ : W _ _ _ _ _)
    exact W.ret (fin1 rfl rfl rfl rfl)
  rw [decide_eq_false c3]
  by_cases c4 : (l[k].2.2.1 < 0 ∨ 3 < l[k].2.2.1) ∨ (l[k].2.2.2.1 < 0 ∨ 4 < l[k].2.2.2.1)
  · rw [stopE_mark c1 c2 c3 c4, if_pos (by decide)] at hE
    rw [hE]
    by_cases d1 : l[k].2.2.1 < 0
    · repeat (first | refine W.gob rfl ?_ | refine WL.nil ?_ | refine WL.bt rfl rfl rfl (by omega) ?_ | refine WL.e1 rfl ?_ | refine WL.opno rfl rfl rfl rfl rfl rfl rfl ?_ | refine W.condT rfl ?_ | refine W.condF rfl ?_)
      refine (?_ : W _ _ _ _ _)
      dsimp only [St.put, Nat.reduceAdd]
      exact W.ret (fin1 rfl rfl rfl rfl)
    by_cases d2 : l[k].2.2.1 > 3
    · repeat (first | refine W.gob rfl ?_ | refine WL.nil ?_ | refine WL.bt rfl rfl rfl (by omega) ?_ | refine WL.bf rfl rfl rfl (by omega) ?_ | refine WL.e1 rfl ?_ | refine WL.gyes rfl rfl rfl rfl ?_ | refine WL.opno rfl rfl rfl rfl rfl rfl rfl ?_ | refine W.condT rfl ?_ | refine W.condF rfl ?_)
      refine (?_ : W _ _ _ _ _)
      dsimp only [St.put, Nat.reduceAdd]
      exact W.ret (fin1 rfl rfl rfl rfl)
    by_cases d3 : l[k].2.2.2.1 < 0
    · repeat (first | refine W.gob rfl ?_ | refine WL.nil ?_ | refine WL.bt rfl rfl rfl (by omega) ?_ | refine WL.bf rfl rfl rfl (by omega) ?_ | refine WL.e1 rfl ?_ | refine WL.gyes rfl rfl rfl rfl ?_ | refine WL.opno rfl rfl rfl rfl rfl rfl rfl ?_ | refine W.condT rfl ?_ | refine W.condF rfl ?_)
      refine (?_ : W _ _ _ _ _)
      dsimp only [St.put, Nat.reduceAdd]
      exact W.ret (fin1 rfl rfl rfl rfl)
    · have d4 : l[k].2.2.2.1 > 4 := by omega
      repeat (first | refine W.gob rfl ?_ | refine WL.nil ?_ | refine WL.bt rfl rfl rfl (by omega) ?_ | refine WL.bf rfl rfl rfl (by omega) ?_ | refine WL.e1 rfl ?_ | refine WL.gyes rfl rfl rfl rfl ?_ | refine W.condT rfl ?_ | refine W.condF rfl ?_)
      refine (?_ : W _ _ _ _ _)
      dsimp only [St.put, Nat.reduceAdd]
      exact W.ret (fin1 rfl rfl rfl rfl)
  have d1 : ¬ l[k].2.2.1 < 0 := by omega
  have d2 : ¬ l[k].2.2.1 > 3 := by omega
  have d3 : ¬ l[k].2.2.2.1 < 0 := by omega
  have d4 : ¬ l[k].2.2.2.1 > 4 := by omega
  repeat (first | refine W.gob rfl ?_ | refine WL.nil ?_ | refine WL.bf rfl rfl rfl (by omega) ?_ | refine WL.e1 rfl ?_ | refine WL.gyes rfl rfl rfl rfl ?_ | refine W.condF rfl ?_)
  refine (?_ : W _ _ _ _ _)
  dsimp only [St.put, Nat.reduceAdd]
  obtain ⟨z, hz⟩ : ∃ z : Int, (longestN p.evs i l[k].1 : Int) = z := ⟨_, rfl⟩
  rw [hz] at hLo
  by_cases c5 : (l[k].2.2.2.2 < 0 ∨ (longestN p.evs i l[k].1 : Int) < l[k].2.2.2.2) ∨ (0 < l[k].2.2.2.2 ∧ l[k].2.1 = 0)
  · rw [stopE_hold c1 c2 c3 c4 c5, if_pos (by decide)] at hE
    rw [hE]
    rw [hz] at c5
    by_cases e1 : l[k].2.2.2.2 < 0
    · refine W.drawK (by kernel_rfl) (by kernel_rfl) ?_
      repeat (first | refine DK.bt rfl rfl (by omega) ?_ | refine DK.tt rfl (by first | (simp; done) | fail) ?_ | refine DK.st rfl ?_ | refine DK.nil ?_)
      repeat (first | refine W.gob rfl ?_ | refine WL.nil ?_ | refine WL.e1 rfl ?_ | refine W.condT rfl ?_)
      refine (?_ : W _ _ _ _ _)
      dsimp only [St.put, Nat.reduceAdd]
      exact W.ret (fin1 rfl rfl rfl rfl)
    by_cases e2 : l[k].2.2.2.2 > z
    · refine W.drawK (by kernel_rfl) (by kernel_rfl) ?_
      repeat (first | refine DK.bf rfl rfl (by omega) ?_ | refine DK.ff rfl (by first | (simp; done) | fail) ?_ | refine DK.st rfl ?_)
      refine DK.vl rfl (WV.call rfl (callF Tryz.func154 rfl rfl) rfl rfl hLo) ?_
      repeat (first | refine DK.bt rfl rfl (by omega) ?_ | refine DK.tt rfl (by first | (simp; done) | fail) ?_ | refine DK.st rfl ?_ | refine DK.nil ?_)
      repeat (first | refine W.gob rfl ?_ | refine WL.nil ?_ | refine WL.e1 rfl ?_ | refine W.condT rfl ?_)
      refine (?_ : W _ _ _ _ _)
      dsimp only [St.put, Nat.reduceAdd]
      exact W.ret (fin1 rfl rfl rfl rfl)
    · have e3 : l[k].2.2.2.2 > 0 := by omega
      have e4 : l[k].2.1 = 0 := by omega
      refine W.drawK (by kernel_rfl) (by kernel_rfl) ?_
      repeat (first | refine DK.bf rfl rfl (by omega) ?_ | refine DK.ff rfl (by first | (simp; done) | fail) ?_ | refine DK.st rfl ?_)
      refine DK.vl rfl (WV.call rfl (callF Tryz.func154 rfl rfl) rfl rfl hLo) ?_
      repeat (first | refine DK.bt rfl rfl (by omega) ?_ | refine DK.bf rfl rfl (by omega) ?_ | refine DK.tt rfl (by first | (simp; done) | fail) ?_ | refine DK.ff rfl (by first | (simp; done) | fail) ?_ | refine DK.st rfl ?_ | refine DK.nil ?_)
      repeat (first | refine W.gob rfl ?_ | refine WL.nil ?_ | refine WL.e1 rfl ?_ | refine W.condT rfl ?_)
      refine (?_ : W _ _ _ _ _)
      dsimp only [St.put, Nat.reduceAdd]
      exact W.ret (fin1 rfl rfl rfl rfl)
  have hok : stopE p i l[k] (lastOf l k) = 0 := stopE_ok c1 c2 c3 c4 c5
  rw [hok, if_neg (by decide), ← hls] at hE
  rw [hz] at c5
  have e1 : ¬ l[k].2.2.2.2 < 0 := by omega
  have e2 : ¬ l[k].2.2.2.2 > z := by omega
  by_cases e3 : l[k].2.2.2.2 > 0
  · have e4 : ¬ l[k].2.1 = 0 := by omega
    refine W.drawK (by kernel_rfl) (by kernel_rfl) ?_
    repeat (first | refine DK.bf rfl rfl (by omega) ?_ | refine DK.ff rfl (by first | (simp; done) | fail) ?_ | refine DK.st rfl ?_)
    refine DK.vl rfl (WV.call rfl (callF Tryz.func154 rfl rfl) rfl rfl hLo) ?_
    repeat (first | refine DK.bt rfl rfl (by omega) ?_ | refine DK.bf rfl rfl (by omega) ?_ | refine DK.tt rfl (by first | (simp; done) | fail) ?_ | refine DK.ff rfl (by first | (simp; done) | fail) ?_ | refine DK.st rfl ?_ | refine DK.nil ?_)
    repeat (first | refine W.gob rfl ?_ | refine WL.nil ?_ | refine WL.e1 rfl ?_ | refine WL.ar rfl rfl (by unfold I64; omega) ?_ | refine W.condF rfl ?_)
    dsimp only [St.put, Nat.reduceAdd]
    exact ⟨k + 1, ⟨by omega, hE⟩, by omega, (Tr.ren id (by repeat (first | exact trivial | refine ⟨⟨?_, ?_⟩, ?_⟩ | rfl)) (by repeat (first | exact trivial | refine ⟨⟨?_, ?_, ?_⟩, ?_⟩ | rfl)) rfl)⟩
  · refine W.drawK (by kernel_rfl) (by kernel_rfl) ?_
    repeat (first | refine DK.bf rfl rfl (by omega) ?_ | refine DK.ff rfl (by first | (simp; done) | fail) ?_ | refine DK.st rfl ?_)
    refine DK.vl rfl (WV.call rfl (callF Tryz.func154 rfl rfl) rfl rfl hLo) ?_
    repeat (first | refine DK.bf rfl rfl (by omega) ?_ | refine DK.ff rfl (by first | (simp; done) | fail) ?_ | refine DK.st rfl ?_ | refine DK.nil ?_)
    repeat (first | refine W.gob rfl ?_ | refine WL.nil ?_ | refine WL.e1 rfl ?_ | refine WL.ar rfl rfl (by unfold I64; omega) ?_ | refine W.condF rfl ?_)
    dsimp only [St.put, Nat.reduceAdd]
    exact ⟨k + 1, ⟨by omega, hE⟩, by omega, (Tr.ren id (by repeat (first | exact trivial | refine ⟨⟨?_, ?_⟩, ?_⟩ | rfl)) (by repeat (first | exact trivial | refine ⟨⟨?_, ?_, ?_⟩, ?_⟩ | rfl)) rfl)⟩
theorem rCheck_FS (p : Pce) (hO : PcOk p) : Ctr Tryz.prog 35 [ePce p] (.sc (.int .i64 (pceE p))) := by
  have hn3 := hO.n3
  have hI := rInsCheck_FS p.cs p.st
  by_cases h0 : insE p.cs p.st = 0
  rotate_left
  · rw [pceE_ins h0]
    obtain ⟨E, hE⟩ : ∃ E, insE p.cs p.st = E := ⟨_, rfl⟩
    rw [hE] at hI h0 ⊢
    refine Ctr.intro Tryz.func35 rfl Tryz.ntmps35 (Nat.le_of_ble_eq_true rfl) (bd_all rfl) fun w0 F0 => ?_; dsimp only [St.init, number, Nat.reduceAdd]
    repeat (first | refine W.gob rfl ?_ | refine WL.nil ?_ | refine WL.e1 rfl ?_)
    refine (?_ : WL _ _ _ _ _ _)
    dsimp only [St.put, Nat.reduceAdd]
    refine WL.vl rfl (WV.call rfl (callF Tryz.func93 rfl rfl) rfl rfl hI) ?_
    repeat (first | refine W.gob rfl ?_ | refine WL.nil ?_ | refine WL.nt rfl rfl rfl (by omega) ?_ | refine WL.e1 rfl ?_ | refine W.condT rfl ?_)
    refine (?_ : W _ _ _ _ _)
    dsimp only [St.put, Nat.reduceAdd]
    exact W.ret (fin1 rfl rfl rfl rfl)
  rw [h0] at hI
  by_cases h4 : 400 < p.evs.length
  · rw [pceE_many (by omega) h4]
    have h4' : (p.evs.length : Int) > 400 := by omega
    refine Ctr.intro Tryz.func35 rfl Tryz.ntmps35 (Nat.le_of_ble_eq_true rfl) (bd_all rfl) fun w0 F0 => ?_; dsimp only [St.init, number, Nat.reduceAdd]
    repeat (first | refine W.gob rfl ?_ | refine WL.nil ?_ | refine WL.e1 rfl ?_)
    refine (?_ : WL _ _ _ _ _ _)
    dsimp only [St.put, Nat.reduceAdd]
    refine WL.vl rfl (WV.call rfl (callF Tryz.func93 rfl rfl) rfl rfl hI) ?_
    repeat (first | refine W.gob rfl ?_ | refine WL.nil ?_ | refine WL.bt rfl rfl rfl (by omega) ?_ | refine WL.nf rfl rfl rfl (by omega) ?_ | refine WL.e1 rfl ?_ | refine WL.len rfl rfl (by first | exact List.length_map _ | exact List.length_replicate | rfl) ?_ | refine W.condT rfl ?_ | refine W.condF rfl ?_)
    refine (?_ : W _ _ _ _ _)
    dsimp only [St.put, Nat.reduceAdd]
    exact W.ret (fin1 rfl rfl rfl rfl)
  rw [pceE_evs (by omega) h4]
  refine Ctr.intro Tryz.func35 rfl Tryz.ntmps35 (Nat.le_of_ble_eq_true rfl) (bd_all rfl) fun w0 F0 => ?_; dsimp only [St.init, number, Nat.reduceAdd]
  repeat (first | refine W.gob rfl ?_ | refine WL.nil ?_ | refine WL.e1 rfl ?_)
  refine (?_ : WL _ _ _ _ _ _)
  dsimp only [St.put, Nat.reduceAdd]
  refine WL.vl rfl (WV.call rfl (callF Tryz.func93 rfl rfl) rfl rfl hI) ?_
  repeat (first | refine W.gob rfl ?_ | refine WL.nil ?_ | refine WL.bf rfl rfl rfl (by omega) ?_ | refine WL.nf rfl rfl rfl (by omega) ?_ | refine WL.e1 rfl ?_ | refine WL.len rfl rfl (by first | exact List.length_map _ | exact List.length_replicate | rfl) ?_ | refine W.condF rfl ?_)
  refine (?_ : W _ _ _ _ _)
  dsimp only [St.put, Nat.reduceAdd]
  refine W.loop (fun k : Nat => k ≤ p.evs.length ∧ evsE p 0 p.evs = evsE p k (p.evs.drop k)) (fun k => ⟨[(1, .pt 0 0 0), (4, .sc (.int .i64 k))], [(0, .box 29 (ePce p).cells)], 1⟩) (fun k => p.evs.length - k) 0 ⟨by omega, rfl⟩ (Tr.ren id (by repeat (first | exact trivial | refine ⟨⟨?_, ?_⟩, ?_⟩ | rfl)) (by repeat (first | exact trivial | refine ⟨⟨?_, ?_, ?_⟩, ?_⟩ | rfl)) rfl) fun k hk => ?_
  obtain ⟨hk, hE⟩ := hk
  by_cases hlt : k < p.evs.length
  rotate_left
  · obtain rfl : k = p.evs.length := by omega
    rw [List.drop_length] at hE
    rw [show evsE p 0 p.evs = 0 from hE]
    repeat (first | refine W.gob rfl ?_ | refine WL.nil ?_ | refine WL.bf rfl rfl rfl (by omega) ?_ | refine WL.e1 rfl ?_ | refine WL.len rfl rfl (by first | exact List.length_map _ | exact List.length_replicate | rfl) ?_ | refine W.condF rfl ?_)
    refine (?_ : W _ _ _ _ _)
    dsimp only [St.put, Nat.reduceAdd]
    exact W.ret (fin1 rfl rfl rfl rfl)
  rw [evsE_at hlt] at hE
  have hEv := rEvent_FS p k hlt hO
  obtain ⟨z, hz⟩ : ∃ z, evE p k p.evs[k] = z := ⟨_, rfl⟩
  rw [hz] at hE hEv
  repeat (first | refine W.gob rfl ?_ | refine WL.nil ?_ | refine WL.bt rfl rfl rfl (by omega) ?_ | refine WL.e1 rfl ?_ | refine WL.len rfl rfl (by first | exact List.length_map _ | exact List.length_replicate | rfl) ?_ | refine W.condT rfl ?_)
  refine (?_ : WL _ _ _ _ _ _)
  dsimp only [St.put, Nat.reduceAdd]
  refine WL.vl rfl (WV.call rfl (callF Tryz.func94 rfl rfl) rfl rfl hEv) ?_
  by_cases hz0 : z = 0
  · rw [if_neg (by omega)] at hE
    repeat (first | refine W.gob rfl ?_ | refine WL.nil ?_ | refine WL.nf rfl rfl rfl (by omega) ?_ | refine WL.e1 rfl ?_ | refine WL.ar rfl rfl (by unfold I64; omega) ?_ | refine W.condF rfl ?_)
    dsimp only [St.put, Nat.reduceAdd]
    exact ⟨k + 1, ⟨by omega, hE⟩, by omega, (Tr.ren id (by repeat (first | exact trivial | refine ⟨⟨?_, ?_⟩, ?_⟩ | rfl)) (by repeat (first | exact trivial | refine ⟨⟨?_, ?_, ?_⟩, ?_⟩ | rfl)) rfl)⟩
  · rw [if_pos hz0] at hE
    rw [hE]
    repeat (first | refine W.gob rfl ?_ | refine WL.nil ?_ | refine WL.nt rfl rfl rfl (by omega) ?_ | refine WL.e1 rfl ?_ | refine W.condT rfl ?_)
    refine (?_ : W _ _ _ _ _)
    dsimp only [St.put, Nat.reduceAdd]
    exact W.ret (fin1 rfl rfl rfl rfl)
end Go.Proofs.YtkgnmddakiagbaaGreatDoor
namespace Go.Proofs.YtkgnmddakiagbaaGreatDoor
open Go.RowKit
set_option maxRecDepth 100000
set_option maxHeartbeats 8000000
def hd1 (s i : Int) (e : Ev) : List Lck := if s = 4 ∧ e.three = true then [(i, 0, 5)] else []
end Go.Proofs.YtkgnmddakiagbaaGreatDoor
