/- Arguments opened: pieces. -/
import Derived.Test.YteldgllgagjciaaOp
import Derived.Test.YteldgllgagjciaaPieP
namespace Go.Proofs.Yteldgllgagjciaa
open Go.RowKit Go.WideShapes Go.ChangeShapes Go.Joins Go.Deep
set_option linter.unusedVariables false
set_option maxRecDepth 100000
section
variable {H : Type} {enc : TypeId × Value → H} {w : World} {base : Nat} {spare : Nat → Bool} {held : Bool}
theorem cellsStop' : Try.prog.cellsOf 40 = 5 := by kernel_rfl
theorem cellsEvent : Try.prog.cellsOf 68 = 6 := by kernel_rfl
theorem cellsSign' : Try.prog.cellsOf 56 = 3 := by kernel_rfl
theorem cellsStops : Try.prog.cellsOf 66 = 1 := by kernel_rfl
theorem cellsEvents : Try.prog.cellsOf 61 = 1 := by kernel_rfl
theorem cellsPiece : Try.prog.cellsOf 63 = 3 := by kernel_rfl
/-- A list of stops, opened. -/
theorem open_stops {n : Nat} {v : Value} {x : DataW H × List MemPlace} (h : DataW.trod enc Try.prog w base spare held n 66 [v] = some x) :
    ∃ (A : Option Addr) (c : Nat) (l : List Stp), v = .slice A l.length c ∧ l.length ≤ c ∧ c ≤ maxLen ∧ StpsAt w w.heap.size A l := by
  rcases open_slice (P := Try.prog) Try.underlying66 h with ⟨h0, _⟩ | ⟨a, len, cap, m, n', D, Pl, hcs, hb, hl, hm, hmm, _, hi⟩
  · obtain rfl : v = .slice none 0 0 := by simpa using h0
    exact ⟨none, 0, [], rfl, by simp, by simp, Rd.none_⟩
  · obtain rfl : v = .slice (some a) len cap := by simpa using hcs
    have hlm : len ≤ m := by rw [hmm]; split <;> omega
    obtain ⟨l, hlen, hq⟩ := list_of (Q := fun i (x : Stp) => ∀ j u, (stpCells x)[j]? = some u → w.cell? (a.add (i * 5 + j)) = some u) len (fun i hil => by
      obtain ⟨cs', hc, ht'⟩ := hi i (by omega)
      rw [cellsStop'] at hc
      obtain ⟨ys, n2, _, _, hlen, hys, hf⟩ := DataW.trod_struct Try.underlying40 ht'
      obtain ⟨_, hcl, hat⟩ := World.cells?_some hc
      match cs', hcl with
      | [u0, u1, u2, u3, u4], _ =>
        have f0 : DataW.trod enc Try.prog w base spare held n2 3 [u0] = ys[0]? := by simpa [cellsInt] using hf 0 _ rfl
        have f1 : DataW.trod enc Try.prog w base spare held n2 3 [u1] = ys[1]? := by simpa [cellsInt] using hf 1 _ rfl
        have f2 : DataW.trod enc Try.prog w base spare held n2 3 [u2] = ys[2]? := by simpa [cellsInt] using hf 2 _ rfl
        have f3 : DataW.trod enc Try.prog w base spare held n2 3 [u3] = ys[3]? := by simpa [cellsInt] using hf 3 _ rfl
        have f4 : DataW.trod enc Try.prog w base spare held n2 3 [u4] = ys[4]? := by simpa [cellsInt] using hf 4 _ rfl
        have gy : ∀ j, j < 5 → ∃ y, ys[j]? = some y := fun j hj => ⟨_, List.getElem?_eq_getElem (by rw [hys]; exact hj)⟩
        obtain ⟨y0, hy0⟩ := gy 0 (by omega)
        obtain ⟨y1, hy1⟩ := gy 1 (by omega)
        obtain ⟨y2, hy2⟩ := gy 2 (by omega)
        obtain ⟨y3, hy3⟩ := gy 3 (by omega)
        obtain ⟨y4, hy4⟩ := gy 4 (by omega)
        rw [hy0] at f0; rw [hy1] at f1; rw [hy2] at f2; rw [hy3] at f3; rw [hy4] at f4
        obtain ⟨a0, e0, _, _⟩ := DataW.trod_int Try.underlying3 f0
        obtain ⟨a1, e1, _, _⟩ := DataW.trod_int Try.underlying3 f1
        obtain ⟨a2, e2, _, _⟩ := DataW.trod_int Try.underlying3 f2
        obtain ⟨a3, e3, _, _⟩ := DataW.trod_int Try.underlying3 f3
        obtain ⟨a4, e4, _, _⟩ := DataW.trod_int Try.underlying3 f4
        simp only [List.cons.injEq, and_true] at e0 e1 e2 e3 e4
        subst e0 e1 e2 e3 e4
        refine ⟨(a0, a1, a2, a3, a4), fun j u hu => ?_⟩
        have hj : j < 5 := (List.getElem?_eq_some_iff.1 hu).1
        have := hat j hj
        rw [add_of_add] at this
        rw [this]
        exact hu)
    refine ⟨some a, cap, l, by rw [hlen], by omega, hm, fun hpos => ⟨a, rfl, ?_, ?_⟩⟩
    · have hpos' : 0 < l.length := by simpa using hpos
      have := World.block_lt_of_cell? w _ (hq 0 hpos' 0 _ rfl)
      rwa [block_of_add] at this
    · intro k r hr j u hu
      rw [List.getElem?_map] at hr
      cases hk : l[k]? with
      | none => rw [hk] at hr; cases hr
      | some x =>
        rw [hk] at hr
        obtain rfl : stpCells x = r := by simpa using hr
        obtain ⟨hkl, hkx⟩ := List.getElem?_eq_some_iff.1 hk
        have q := hq k hkl
        rw [hkx] at q
        exact q j u hu
/-- A list of events, opened. -/
theorem open_events {n : Nat} {v : Value} {x : DataW H × List MemPlace} (h : DataW.trod enc Try.prog w base spare held n 61 [v] = some x) :
    ∃ (A : Option Addr) (c : Nat) (evs : List Ev), v = .slice A evs.length c ∧ evs.length ≤ c ∧ EvsAt w w.heap.size A evs := by
  rcases open_slice (P := Try.prog) Try.underlying61 h with ⟨h0, _⟩ | ⟨a, len, cap, m, n', D, Pl, hcs, hb, hl, hm, hmm, _, hi⟩
  · obtain rfl : v = .slice none 0 0 := by simpa using h0
    exact ⟨none, 0, [], rfl, by simp, [], rfl, Rd.none_, fun k e m he => by simp at he⟩
  · obtain rfl : v = .slice (some a) len cap := by simpa using hcs
    have hlm : len ≤ m := by rw [hmm]; split <;> omega
    obtain ⟨l, hlen, hq⟩ := list_of (Q := fun i (x : Ev × (Option Addr × Nat)) => (∀ j u, (evCells x.1 x.2)[j]? = some u → w.cell? (a.add (i * 6 + j)) = some u) ∧ StpsAt w w.heap.size x.2.1 x.1.stops) len (fun i hil => by
      obtain ⟨cs', hc, ht'⟩ := hi i (by omega)
      rw [cellsEvent] at hc
      obtain ⟨ys, n2, _, _, hlen, hys, hf⟩ := DataW.trod_struct Try.underlying68 ht'
      obtain ⟨_, hcl, hat⟩ := World.cells?_some hc
      match cs', hcl with
      | [u0, u1, u2, u3, u4, u5], _ =>
        have f0 : DataW.trod enc Try.prog w base spare held n2 4 [u0] = ys[0]? := by simpa [cellsBool] using hf 0 _ rfl
        have f1 : DataW.trod enc Try.prog w base spare held n2 56 [u1, u2, u3] = ys[1]? := by simpa [cellsSign'] using hf 1 _ rfl
        have f2 : DataW.trod enc Try.prog w base spare held n2 4 [u4] = ys[2]? := by simpa [cellsBool] using hf 2 _ rfl
        have f3 : DataW.trod enc Try.prog w base spare held n2 66 [u5] = ys[3]? := by simpa [cellsStops] using hf 3 _ rfl
        have gy : ∀ j, j < 4 → ∃ y, ys[j]? = some y := fun j hj => ⟨_, List.getElem?_eq_getElem (by rw [hys]; exact hj)⟩
        obtain ⟨y0, hy0⟩ := gy 0 (by omega)
        obtain ⟨y1, hy1⟩ := gy 1 (by omega)
        obtain ⟨y2, hy2⟩ := gy 2 (by omega)
        obtain ⟨y3, hy3⟩ := gy 3 (by omega)
        rw [hy0] at f0; rw [hy1] at f1; rw [hy2] at f2; rw [hy3] at f3
        obtain ⟨zs, n3, _, _, _, hzs, hg⟩ := DataW.trod_struct Try.underlying56 f1
        have s0 : DataW.trod enc Try.prog w base spare held n3 3 [u1] = zs[0]? := by simpa [cellsInt] using hg 0 _ rfl
        have s1 : DataW.trod enc Try.prog w base spare held n3 4 [u2] = zs[1]? := by simpa [cellsBool] using hg 1 _ rfl
        have s2 : DataW.trod enc Try.prog w base spare held n3 4 [u3] = zs[2]? := by simpa [cellsBool] using hg 2 _ rfl
        have gz : ∀ j, j < 3 → ∃ y, zs[j]? = some y := fun j hj => ⟨_, List.getElem?_eq_getElem (by rw [hzs]; exact hj)⟩
        obtain ⟨z0, hz0⟩ := gz 0 (by omega)
        obtain ⟨z1, hz1⟩ := gz 1 (by omega)
        obtain ⟨z2, hz2⟩ := gz 2 (by omega)
        rw [hz0] at s0; rw [hz1] at s1; rw [hz2] at s2
        obtain ⟨b0, e0, _⟩ := DataW.trod_bool Try.underlying4 f0
        obtain ⟨b1, e1, _, _⟩ := DataW.trod_int Try.underlying3 s0
        obtain ⟨b2, e2, _⟩ := DataW.trod_bool Try.underlying4 s1
        obtain ⟨b3, e3, _⟩ := DataW.trod_bool Try.underlying4 s2
        obtain ⟨b4, e4, _⟩ := DataW.trod_bool Try.underlying4 f2
        obtain ⟨S, c, l, e5, hlc, _, hS⟩ := open_stops f3
        simp only [List.cons.injEq, and_true] at e0 e1 e2 e3 e4
        subst e0 e1 e2 e3 e4 e5
        refine ⟨(⟨b0, b1, b2, b3, b4, l⟩, (S, c)), fun j u hu => ?_, hS⟩
        have hj : j < 6 := (List.getElem?_eq_some_iff.1 hu).1
        have := hat j hj
        rw [add_of_add] at this
        rw [this]
        exact hu)
    have hz : List.zipWith evCells (l.map (·.1)) (l.map (·.2)) = l.map fun x => evCells x.1 x.2 := by
      rw [List.zipWith_map, List.zipWith_self]
    refine ⟨some a, cap, l.map (·.1), by rw [List.length_map, hlen], by rw [List.length_map]; omega, l.map (·.2), by simp, ?_, ?_⟩
    · rw [hz]
      refine fun hpos => ⟨a, rfl, ?_, ?_⟩
      · have hpos' : 0 < l.length := by simpa using hpos
        have := World.block_lt_of_cell? w _ ((hq 0 hpos').1 0 _ rfl)
        rwa [block_of_add] at this
      · intro k r hr j u hu
        rw [List.getElem?_map] at hr
        cases hk : l[k]? with
        | none => rw [hk] at hr; cases hr
        | some x =>
          rw [hk] at hr
          obtain rfl : evCells x.1 x.2 = r := by simpa using hr
          obtain ⟨hkl, hkx⟩ := List.getElem?_eq_some_iff.1 hk
          have q := (hq k hkl).1
          rw [hkx] at q
          exact q j u hu
    · intro k e m he hm'
      rw [List.getElem?_map] at he hm'
      cases hk : l[k]? with
      | none => rw [hk] at he; cases he
      | some x =>
        rw [hk] at he hm'
        obtain rfl : x.1 = e := by simpa using he
        obtain rfl : x.2 = m := by simpa using hm'
        obtain ⟨hkl, hkx⟩ := List.getElem?_eq_some_iff.1 hk
        have q := (hq k hkl).2
        rw [hkx] at q
        exact q
theorem open_piece_arg {r : Reach} {b0 : Nat} {v : Value} {d : DataW H} {p : List MemPlace} (hv : Value.okWide Try.prog w r b0 63 v) (h : DataW.Trod enc Try.prog w base spare held 63 v d p) :
    ∃ (M : PM) (pc : Pce), v = pcValue M pc ∧ PcAt w w.heap.size M pc := by
  obtain ⟨cs, rfl, hsz⟩ := okWide_struct Try.underlying63 hv
  obtain ⟨l⟩ := cs
  match l, hsz.trans cellsPiece with
  | [c0, c1, c2], _ =>
    obtain ⟨fuel, hf⟩ := h
    obtain ⟨ys, n2, _, _, _, hys, hg⟩ := DataW.trod_struct Try.underlying63 (by simpa [Value.cells] using hf : DataW.trod enc Try.prog w base spare held fuel 63 [c0, c1, c2] = some (d, p))
    have f0 : DataW.trod enc Try.prog w base spare held n2 51 [c0, c1] = ys[0]? := by simpa [cellsInstrument] using hg 0 _ rfl
    have f1 : DataW.trod enc Try.prog w base spare held n2 61 [c2] = ys[1]? := by simpa [cellsEvents] using hg 1 _ rfl
    obtain ⟨y0, hy0⟩ : ∃ y, ys[0]? = some y := ⟨_, List.getElem?_eq_getElem (by rw [hys]; decide)⟩
    obtain ⟨y1, hy1⟩ : ∃ y, ys[1]? = some y := ⟨_, List.getElem?_eq_getElem (by rw [hys]; decide)⟩
    rw [hy0] at f0; rw [hy1] at f1
    obtain ⟨A1, A2, k1, k2, cs, st, rfl, rfl, l1, l2, hI⟩ := open_ins f0
    obtain ⟨A3, k3, evs, rfl, hle, hE⟩ := open_events f1
    exact ⟨⟨A1, A2, A3, k1, k2, k3⟩, ⟨cs, st, evs⟩, rfl, hI, hE, hle⟩
end
end Go.Proofs.Yteldgllgagjciaa
