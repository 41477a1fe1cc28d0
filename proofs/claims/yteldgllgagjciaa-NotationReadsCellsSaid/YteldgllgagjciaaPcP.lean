/- What ParseCell returns: the plain part. -/
import Derived.Test.YteldgllgagjciaaInj
import Derived.Test.YteldgllgagjciaaStP
namespace Go.Proofs.Yteldgllgagjciaa
open Go.RowKit
set_option linter.unusedVariables false
set_option linter.unusedSimpArgs false
/-- A stop that stands at the spot and whose cell is the text. -/
def pcOk (s crs L : Int) (l : List UInt8) (c f r g h : Nat) : Prop := (1 ≤ c ∧ c ≤ 14) ∧ f ≤ 18 ∧ standsB s crs c = true ∧ stM s c f l L r g h = true
def pcVal (c f r g h e : Int) : Value := .tuple #[.agg #[.int .i64 c, .int .i64 f, .int .i64 r, .int .i64 g, .int .i64 h], .int .i64 e]
def PcV (s crs L : Int) (l : List UInt8) (v : Value) : Prop :=
  (spotErr s crs ≠ 0 ∧ v = pcVal 0 0 0 0 0 (spotErr s crs)) ∨ (spotErr s crs = 0 ∧ (L < 0 ∨ 15 < L) ∧ v = pcVal 0 0 0 0 0 24) ∨
  (spotErr s crs = 0 ∧ (0 ≤ L ∧ L ≤ 15) ∧ ((∃ c f r g h : Nat, pcOk s crs L l c f r g h ∧ v = pcVal c f r g h 0) ∨ ((∀ c f r g h : Nat, ¬ pcOk s crs L l c f r g h) ∧ v = pcVal 0 0 0 0 0 4)))
theorem pcOk_uniq {s crs L : Int} {l : List UInt8} {c f r g h c' f' r' g' h' : Nat} (hsp : spotErr s crs = 0) (hL : 0 ≤ L ∧ L ≤ 15) (a : pcOk s crs L l c f r g h) (b : pcOk s crs L l c' f' r' g' h') :
    c = c' ∧ f = f' ∧ r = r' ∧ g = g' ∧ h = h' := by
  obtain ⟨a1, a2, a3, a4⟩ := a
  obtain ⟨b1, b2, b3, b4⟩ := b
  obtain ⟨a5, a6, a7⟩ := stM_ok a4
  obtain ⟨b5, b6, b7⟩ := stM_ok b4
  have k := cell_inj s crs c f r g h c' f' r' g' h' L hsp (by omega) (by omega) (by omega) (by omega) (by omega) (by omega) (by omega) (by omega) (by omega) (by omega) a3 b3 a6 b6 (a7.trans b7.symm)
  omega
theorem pcV_uniq {s crs L : Int} {l : List UInt8} {v v' : Value} (a : PcV s crs L l v) (b : PcV s crs L l v') : v = v' := by
  rcases a with ⟨a1, rfl⟩ | ⟨a1, a2, rfl⟩ | ⟨a1, a2, a⟩
  · rcases b with ⟨b1, rfl⟩ | ⟨b1, b2, rfl⟩ | ⟨b1, b2, b⟩
    · rfl
    · exact absurd b1 a1
    · exact absurd b1 a1
  · rcases b with ⟨b1, rfl⟩ | ⟨b1, b2, rfl⟩ | ⟨b1, b2, b⟩
    · exact absurd a1 b1
    · rfl
    · omega
  · rcases b with ⟨b1, rfl⟩ | ⟨b1, b2, rfl⟩ | ⟨b1, b2, b⟩
    · exact absurd a1 b1
    · omega
    · rcases a with ⟨c, f, r, g, h, a3, rfl⟩ | ⟨a3, rfl⟩
      · rcases b with ⟨c', f', r', g', h', b3, rfl⟩ | ⟨b3, rfl⟩
        · obtain ⟨rfl, rfl, rfl, rfl, rfl⟩ := pcOk_uniq a1 a2 a3 b3
          rfl
        · exact absurd a3 (b3 _ _ _ _ _)
      · rcases b with ⟨c', f', r', g', h', b3, rfl⟩ | ⟨b3, rfl⟩
        · exact absurd b3 (a3 _ _ _ _ _)
        · rfl
/-- The parts of what ParseCell returns. -/
noncomputable def pcX (s crs L : Int) (l : List UInt8) : Int × Int × Int × Int × Int × Int :=
  Classical.epsilon fun x => PcV s crs L l (pcVal x.1 x.2.1 x.2.2.1 x.2.2.2.1 x.2.2.2.2.1 x.2.2.2.2.2)
noncomputable def pcA (s crs L : Int) (l : List UInt8) : Int := (pcX s crs L l).1
noncomputable def pcB (s crs L : Int) (l : List UInt8) : Int := (pcX s crs L l).2.1
noncomputable def pcC (s crs L : Int) (l : List UInt8) : Int := (pcX s crs L l).2.2.1
noncomputable def pcD (s crs L : Int) (l : List UInt8) : Int := (pcX s crs L l).2.2.2.1
noncomputable def pcE (s crs L : Int) (l : List UInt8) : Int := (pcX s crs L l).2.2.2.2.1
noncomputable def pcF (s crs L : Int) (l : List UInt8) : Int := (pcX s crs L l).2.2.2.2.2
noncomputable def pcR (s crs L : Int) (l : List UInt8) : Value := .tuple #[.agg #[.int .i64 (pcA s crs L l), .int .i64 (pcB s crs L l), .int .i64 (pcC s crs L l), .int .i64 (pcD s crs L l), .int .i64 (pcE s crs L l)], .int .i64 (pcF s crs L l)]
theorem pcV_shape {s crs L : Int} {l : List UInt8} {v : Value} (a : PcV s crs L l v) : ∃ x : Int × Int × Int × Int × Int × Int, v = pcVal x.1 x.2.1 x.2.2.1 x.2.2.2.1 x.2.2.2.2.1 x.2.2.2.2.2 := by
  rcases a with ⟨a1, rfl⟩ | ⟨a1, a2, rfl⟩ | ⟨a1, a2, ⟨c, f, r, g, h, a3, rfl⟩ | ⟨a3, rfl⟩⟩
  · exact ⟨(0, 0, 0, 0, 0, spotErr s crs), rfl⟩
  · exact ⟨(0, 0, 0, 0, 0, 24), rfl⟩
  · exact ⟨(c, f, r, g, h, 0), rfl⟩
  · exact ⟨(0, 0, 0, 0, 0, 4), rfl⟩
theorem pcV_eq {s crs L : Int} {l : List UInt8} {v : Value} (a : PcV s crs L l v) : v = pcR s crs L l := by
  obtain ⟨x, rfl⟩ := pcV_shape a
  have h : PcV s crs L l (pcVal (pcX s crs L l).1 (pcX s crs L l).2.1 (pcX s crs L l).2.2.1 (pcX s crs L l).2.2.2.1 (pcX s crs L l).2.2.2.2.1 (pcX s crs L l).2.2.2.2.2) :=
    Classical.epsilon_spec (p := fun x : Int × Int × Int × Int × Int × Int => PcV s crs L l (pcVal x.1 x.2.1 x.2.2.1 x.2.2.2.1 x.2.2.2.2.1 x.2.2.2.2.2)) ⟨x, a⟩
  exact pcV_uniq a h
/-- What Cell writes, ParseCell reads. -/
theorem pc_back (s c f r g h L : Int) (h0 : cellErr s c f r g h L = 0) :
    pcA s (spotOf s c) L (cellTxt s c f r g h L) = c ∧ pcB s (spotOf s c) L (cellTxt s c f r g h L) = f ∧ pcC s (spotOf s c) L (cellTxt s c f r g h L) = r ∧ pcD s (spotOf s c) L (cellTxt s c f r g h L) = g ∧ pcE s (spotOf s c) L (cellTxt s c f r g h L) = h ∧ pcF s (spotOf s c) L (cellTxt s c f r g h L) = 0 := by
  have et : cellTxt s c f r g h L = cellS s c f r g h L := if_pos h0
  rw [et]
  by_cases hs : 1 ≤ s ∧ s ≤ 4
  · by_cases hb : (c < 1 ∨ 14 < c) ∨ (f < 0 ∨ 18 < f)
    · have := (cellErr_place s c f r g h L hs hb).2
      rw [h0, symErr_bad s c f hs hb] at this
      split at this <;> cases this
    · have hc : 1 ≤ c ∧ c ≤ 14 := by omega
      have hf : 0 ≤ f ∧ f ≤ 18 := by omega
      by_cases h1 : (r < 0 ∨ 3 < r) ∨ (g < 0 ∨ 4 < g)
      · have := (cellErr_marks s c f r g h L hs hc hf h1).2
        rw [h0] at this; cases this
      · by_cases h2 : ((L < 0 ∨ 15 < L) ∨ (h < 0 ∨ L < h)) ∨ (0 < h ∧ f = 0)
        · have := (cellErr_holds s c f r g h L hs hc hf h1 h2).2
          rw [h0] at this; cases this
        · have hk : cellOk s c f r g h L = true := by
            cases hk : cellOk s c f r g h L with
            | true => rfl
            | false =>
              have e := cellErr_ok s c f r g h L hs hc hf h1 h2
              rw [hk, h0] at e
              simp at e
          obtain ⟨c', rfl⟩ : ∃ n : Nat, c = n := ⟨c.toNat, by omega⟩
          obtain ⟨f', rfl⟩ : ∃ n : Nat, f = n := ⟨f.toNat, by omega⟩
          obtain ⟨r', rfl⟩ : ∃ n : Nat, r = n := ⟨r.toNat, by omega⟩
          obtain ⟨g', rfl⟩ : ∃ n : Nat, g = n := ⟨g.toNat, by omega⟩
          obtain ⟨h', rfl⟩ : ∃ n : Nat, h = n := ⟨h.toNat, by omega⟩
          have hsp : spotErr s (spotOf s c') = 0 ∧ standsB s (spotOf s c') c' = true := by
            unfold spotErr standsB spotOf
            rw [if_neg (fun k => k hs)]
            by_cases q : s = 4 ∨ 6 < (c' : Int)
            · rw [if_pos q]
              refine ⟨if_neg (by omega), ?_⟩
              rw [if_neg (by omega)]
              rcases q with q | q <;> simp [q]
            · rw [if_neg q]
              refine ⟨if_neg (by omega), ?_⟩
              rw [if_pos (by omega)]; simp
          have hP : PcV s (spotOf s c') L (cellS s c' f' r' g' h' L) (pcVal c' f' r' g' h' 0) :=
            .inr (.inr ⟨hsp.1, by omega, .inl ⟨c', f', r', g', h', ⟨by omega, by omega, hsp.2, stM_mk (by omega) hk rfl⟩, rfl⟩⟩)
          have e := pcV_eq hP
          unfold pcVal pcR at e
          simp only [Value.tuple.injEq, Value.agg.injEq, Value.int.injEq, Array.mk.injEq, List.cons.injEq, true_and, and_true] at e
          obtain ⟨⟨x1, x2, x3, x4, x5⟩, x6⟩ := e
          exact ⟨x1.symm, x2.symm, x3.symm, x4.symm, x5.symm, x6.symm⟩
  · have e0 : symErr s c f = 30 := if_pos hs
    unfold cellErr at h0
    rw [e0, if_pos (by decide)] at h0
    cases h0
def NoC (s crs L : Int) (l : List UInt8) (n : Nat) : Prop := ∀ c f r g h : Nat, c < n → ¬ pcOk s crs L l c f r g h
def NoF (s crs L : Int) (l : List UInt8) (c n : Nat) : Prop := ∀ f r g h : Nat, f < n → ¬ pcOk s crs L l c f r g h
theorem NoC.start (s crs L : Int) (l : List UInt8) : NoC s crs L l 1 := fun c f r g h hc a => by have := a.1; omega
theorem NoF.start (s crs L : Int) (l : List UInt8) (c : Nat) : NoF s crs L l c 0 := fun f r g h hf => by omega
theorem NoF.step {s crs L : Int} {l : List UInt8} {c n : Nat} (h : NoF s crs L l c n) (hn : ∀ r g k : Nat, stM s c n l L r g k = false) : NoF s crs L l c (n + 1) := fun f r g k hf a => by
  by_cases e : f < n
  · exact h f r g k e a
  · obtain rfl : f = n := by omega
    have := a.2.2.2
    rw [hn] at this; cases this
theorem NoC.step {s crs L : Int} {l : List UInt8} {n : Nat} (h : NoC s crs L l n) (hn : NoF s crs L l n 19) : NoC s crs L l (n + 1) := fun c f r g k hc a => by
  by_cases e : c < n
  · exact h c f r g k e a
  · obtain rfl : c = n := by omega
    exact hn f r g k (by have := a.2.1; omega) a
theorem NoC.skip {s crs L : Int} {l : List UInt8} {n : Nat} (h : NoC s crs L l n) (hn : standsB s crs n = false) : NoC s crs L l (n + 1) := fun c f r g k hc a => by
  by_cases e : c < n
  · exact h c f r g k e a
  · obtain rfl : c = n := by omega
    have := a.2.2.1
    rw [hn] at this; cases this
theorem pc_found {s crs L : Int} {l : List UInt8} {c f r g h : Nat} (hsp : spotErr s crs = 0) (hL : 0 ≤ L ∧ L ≤ 15) (hc : 1 ≤ c ∧ c ≤ 14) (hf : f ≤ 18) (hst : standsB s crs c = true) (hm : stM s c f l L r g h = true) :
    pcVal c f r g h 0 = pcR s crs L l := pcV_eq (.inr (.inr ⟨hsp, hL, .inl ⟨c, f, r, g, h, ⟨hc, hf, hst, hm⟩, rfl⟩⟩))
theorem pc_none {s crs L : Int} {l : List UInt8} (hsp : spotErr s crs = 0) (hL : 0 ≤ L ∧ L ≤ 15) (hn : NoC s crs L l 15) : pcVal 0 0 0 0 0 4 = pcR s crs L l :=
  pcV_eq (.inr (.inr ⟨hsp, hL, .inr ⟨fun c f r g h a => hn c f r g h (by have := a.1; omega) a, rfl⟩⟩))
theorem pc_bad {s crs L : Int} {l : List UInt8} (hsp : spotErr s crs ≠ 0) : pcVal 0 0 0 0 0 (spotErr s crs) = pcR s crs L l := pcV_eq (.inl ⟨hsp, rfl⟩)
theorem pc_hold {s crs L : Int} {l : List UInt8} (hsp : spotErr s crs = 0) (hL : L < 0 ∨ 15 < L) : pcVal 0 0 0 0 0 24 = pcR s crs L l := pcV_eq (.inr (.inl ⟨hsp, hL, rfl⟩))
/-- Whether a text begins with another one. -/
def pfx (p l : List UInt8) : Bool := p.isPrefixOf l
end Go.Proofs.Yteldgllgagjciaa
