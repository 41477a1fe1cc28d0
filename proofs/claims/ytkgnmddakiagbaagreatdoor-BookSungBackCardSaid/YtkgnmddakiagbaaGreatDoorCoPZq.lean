/- The column of an event: plain words. -/
import Derived.Test.YtkgnmddakiagbaaGreatDoorSayZq
import Derived.Below
import Derived.ChangeSame
import Derived.Lib.SmallJoins
import Derived.Deep.Fields
import Derived.Test.YtkgnmddakiagbaaGreatDoorRefZq
import Derived.Deep.Draws
import Derived.OwnWalk
import Derived.Maps.AppendAt
import Derived.Deep.AppendLies
import Derived.Laws.OwnMore
import Derived.WalkKit
import Derived.Handy
import Derived.WalkLawsBesides
import Derived.Test.YtkgnmddakiagbaaGreatDoorProg
import Derived.Deep.Slices
import Derived.ReadAgain
import Derived.Test.YtkgnmddakiagbaaGreatDoorMsPZq
import Derived.RangeFuncNested
import Derived.RangeFuncBound
import Derived.RangeFuncCalls
import Derived.RangeFuncLeaves
import Derived.RangeFuncBox
import Derived.Shelf.Abstract
import Derived.Shelf.RegionOpen
import Derived.OwnWalkIn
import Derived.TacticsInMore
import Derived.LoopNIn
import Derived.LoopIn
import Derived.Lib.Hide
import Derived.BigQuiet
import Derived.Deep.QuietTactic
import Derived.Deep.RegionHeld3
import Derived.Shelf.Strings.Builder1
import Derived.Shelf.Strings.Builder2
import Derived.Shelf.Small.Strs
import Derived.Shelf.Strings.BuilderF
import Derived.Shelf.Strings.BuilderK
import Derived.Shelf.Strings.Builder2Cap
import Derived.Shelf.Strconv.Itoa0
import Derived.Shelf.Strconv.Itoa1
import Derived.Shelf.LaysM
import Derived.Shelf.Strconv.Itoa2
import Derived.Shelf.Strconv.Itoa3
import Derived.Shelf.Strings.Search1
import Derived.Shelf.Strings.Search2
import Derived.Shelf.Strings.Search3
import Derived.Shelf.Strings.Cut
import Derived.Shelf.Strings.Count
import Derived.Shelf.Strings.Shaped
import Derived.Shelf.Strings.Prefix
import Derived.Shelf.Bits.Mul64
import Derived.Shelf.Strings.Repeat
import Derived.Shelf.Unicode.DecodeSlow
import Derived.Shelf.Strings.BuilderCap
import Derived.Deep.RegionWith
import Derived.Deep.MidRow
import Derived.Test.YtkgnmddakiagbaaGreatDoorSndZq
import Derived.Still
import Derived.Lib.FrozenHead
import Derived.Test.YtkgnmddakiagbaaGreatDoorJnZq
import Derived.Shelf.Strings.OnBuilder
import Derived.Test.YtkgnmddakiagbaaGreatDoorGdZq
set_option linter.unusedVariables false
set_option linter.unusedSimpArgs false
namespace Go.Proofs.YtkgnmddakiagbaaGreatDoor
open Go.RowKit Go.WideShapes Go.ChangeShapes Go.Joins Go.Deep
set_option maxRecDepth 100000
theorem list_of {α : Type} {Q : Nat → α → Prop} : ∀ (n : Nat), (∀ i, i < n → ∃ x, Q i x) → ∃ l : List α, l.length = n ∧ ∀ i (h : i < l.length), Q i l[i] := by
  intro n
  induction n with
  | zero => intro _; exact ⟨[], rfl, fun i h => absurd h (by simp)⟩
  | succ n ih =>
    intro h
    obtain ⟨l, hl, hq⟩ := ih fun i hi => h i (by omega)
    obtain ⟨x, hx⟩ := h n (by omega)
    refine ⟨l ++ [x], by simp [hl], fun i hi => ?_⟩
    by_cases e : i < l.length
    · rw [List.getElem_append_left e]; exact hq i e
    · have : i = n := by simp at hi; omega
      subst this
      rw [List.getElem_append_right (by omega)]
      simpa [hl] using hx
section
variable {H : Type} {enc : TypeId × Value → H} {P : Program} {w w' : World} {base : Nat} {spare : Nat → Bool} {held : Bool}
theorem trodAll_carry : ∀ {ts : List TypeId} {vs : List Value} {ds : List (DataW H)} {ps : List MemPlace}, DataW.TrodAll enc P w base spare held ts vs ds ps → (∀ p ∈ ps, w.sameAt w' p) → DataW.TrodAll enc P w' base spare held ts vs ds ps
  | [], [], [], _, h, _ => h
  | _ :: _, _ :: _, _ :: _, _, ⟨p, q, ⟨n, h1⟩, h2, e⟩, hs => ⟨p, q, ⟨n, DataW.trod_carry n _ _ _ h1 (fun x hx => hs x (by rw [e]; exact List.mem_append_left _ hx))⟩, trodAll_carry h2 (fun x hx => hs x (by rw [e]; exact List.mem_append_right _ hx)), e⟩
theorem args_keep {W W' : World} {T : TypeId → Prop} {sp : Nat → Bool} (K : Kids P T) (hz : ∀ t e, T t → P.underlying t = some (.slice e) → 0 < P.cellsOf e) {ts : List TypeId} {vs : List Value} {ds : List (DataW H)} {ps : List MemPlace} (hT : ∀ t ∈ ts, T t)
    (h : DataW.TrodAll enc P W 0 (fun _ => true) true ts vs ds ps) (hb : Below W.heap.size W W') (hlt : ∀ p ∈ ps, p.block < W.heap.size) (hs : ∀ p ∈ ps, sp p.block = true) : DataW.TrodAll enc P W' 0 sp true ts vs ds ps :=
  DataW.TrodAll.respare K hz hT (trodAll_carry h fun p hp => hb.same (hlt p hp)) hs
end
theorem typesKids : Kids Tryz.prog (· < Tryz.prog.types.size) := kids_rows (by kernel_rfl) (by kernel_rfl)
theorem slicesFull : ∀ t e, t < Tryz.prog.types.size → Tryz.prog.underlying t = some (.slice e) → 0 < Tryz.prog.cellsOf e := slices_full_of Tryz.prog (by kernel_rfl)
section
variable {H : Type} {enc : TypeId × Value → H} {w : World} {base : Nat} {spare : Nat → Bool} {held : Bool}
theorem cellsInt : Tryz.prog.cellsOf 3 = 1 := by kernel_rfl
end
end Go.Proofs.YtkgnmddakiagbaaGreatDoor
namespace Go.Proofs.YtkgnmddakiagbaaGreatDoor
open Go.RowKit Go.Shelf
set_option maxHeartbeats 8000000
set_option maxRecDepth 100000
attribute [local go_sem] Oper.semAt_some
attribute [-go_sem] Builtin.append_
theorem Tryz.infoMea : (Tryz.prog.info? 69).map (fun i => (i.zero, i.size, i.bytes)) = some (some (.agg #[.int .i64 0, .int .i64 0, .int .i64 0]), 3, 24) := by kernel_rfl
theorem Tryz.underMea : Tryz.prog.underlying 65 = some (.slice 69) := by kernel_rfl
def MsI (w1 : World) (evs : List Ev) (k : Nat) (W : World) : Prop := (∃ v, Boxed W w1.heap.size 65 v ∧ W.ownsRow w1.heap.size 69 3 v (mea evs k).length (mCells (mea evs k)) ∧ True) ∧ Below w1.heap.size w1 W
theorem msI_own (w1 : World) (evs : List Ev) (B : Nat) (hB : w1.heap.size ≤ B) : OwnFrom B (MsI w1 evs) :=
  OwnFrom.and (Own.from (holdsRow_own w1.heap.size w1.heap.size 65 69 3 (fun k => (mea evs k).length) (fun k => mCells (mea evs k)) (fun _ _ => True)) _) (ownFrom_below (Nat.le_refl _) hB)
theorem ms_grown {w1 W W2 : World} {evs : List Ev} {k : Nat} {l : List (Int × Int × Int)} {x : Int × Int × Int} {g cap : Nat} {T : Int} {a : Act} (hT : frc 0 (evs.take (k + 1)) = T) (hl : (if newM evs k then mea evs k ++ [((k : Int), 0, 0)] else mea evs k) = l ++ [x])
    (hv : Boxed W2 w1.heap.size 65 (.slice (some ⟨g, 0, none⟩) (l.length + 1) cap)) (hrow : W2.ownsRow w1.heap.size 69 3 (.slice (some ⟨g, 0, none⟩) (l.length + 1) cap) (l.length + 1) (mCells (l ++ [x])))
    (hB : Below w1.heap.size w1 W) (hk : KeepsOthers W W2) (hb : Below w1.heap.size W W2) :
    rngPost w1.heap.size (MsI w1 evs) k W .normal a ((W2.setCell ⟨g, l.length * 3 + 1, none⟩ (.int .i64 (x.2.1 + 1))).setCell ⟨g, l.length * 3 + 2, none⟩ (.int .i64 (x.2.2 + T))) := by
  have hne := hv.not_row (by decide) hrow
  obtain ⟨r1, g1⟩ := hrow.stored (l.length * 3 + 1) (.int .i64 (x.2.1 + 1))
  rw [mCells_set1] at r1
  obtain ⟨r2, g2⟩ := r1.stored (l.length * 3 + 2) (.int .i64 (x.2.2 + T))
  rw [mCells_set2 l (x.1, x.2.1 + 1, x.2.2)] at r2
  have hm : mea evs (k + 1) = l ++ [(x.1, x.2.1 + 1, x.2.2 + T)] := by
    show bumpM (frc 0 (evs.take (k + 1))) _ = _
    rw [hT, hl, bumpM_snoc]
  have hg : w1.heap.size ≤ g := by
    rcases hrow.2 with ⟨h, _⟩ | ⟨g', cap', cur, h, hb, _⟩
    · cases h
    · cases h; exact hb
  have hb2 : Below w1.heap.size W ((W2.setCell ⟨g, l.length * 3 + 1, none⟩ (.int .i64 (x.2.1 + 1))).setCell ⟨g, l.length * 3 + 2, none⟩ (.int .i64 (x.2.2 + T))) := (hb.setCell (p := ⟨g, l.length * 3 + 1, none⟩) hg _).setCell (p := ⟨g, l.length * 3 + 2, none⟩) hg _
  refine ⟨(hk.trans (KeepsOthers.setCell _ _ _)).trans (KeepsOthers.setCell _ _ _), hb2, ⟨_, (hv.kept g1 hne).kept g2 hne, ?_, trivial⟩, hB.trans hb2⟩
  rw [hm]
  simpa using r2
theorem pMeasures_ok (M : PM) (p : Pce) (w : World) (hP : PcAt w w.heap.size M p) (hO : PcOk p) (h0 : pceE p = 0) : Calls Tryz.prog 37 #[pcValue M p] w fun e w' =>
    ∃ v, e = .returned (.tuple #[v, .int .i64 0]) ∧ w'.ownsRow w.heap.size 69 3 v (mea p.evs p.evs.length).length (mCells (mea p.evs p.evs.length)) ∧ Below w.heap.size w w' := by
  have hC := fun (w' : World) (hb : Below w.heap.size w w') => pCheck_any M p w' (hP.after hb) hO
  rw [h0] at hC
  have hn3 := hO.n3
  have hT := fun w' => timed_any M p w'
  obtain ⟨A1, A2, A3, c1, c2, c3⟩ := M
  obtain ⟨n1, hn1⟩ : ∃ n, p.cs.length = n := ⟨_, rfl⟩
  obtain ⟨n2, hn2⟩ : ∃ n, p.st.length = n := ⟨_, rfl⟩
  obtain ⟨n3, hnn⟩ : ∃ n, p.evs.length = n := ⟨_, rfl⟩
  unfold pcValue at *
  simp only at *
  rw [hn1, hn2, hnn] at hC hT
  rw [hnn] at hn3
  rw [hn1, hn2, hnn]
  have HC := Lib.hid hC
  have HT := Lib.hid hT
  have HP := Lib.hid hP
  have HN := Lib.hid hnn
  obtain ⟨i0, hi, hz0, hz1, hz2⟩ := info_parts Tryz.infoMea
  clear hC hT hP hnn hn1 hn2 hO h0
  refine (callsIn_wide (n := 4)).1 ?_
  refine callsIn_of_wp_marks Tryz.func37 rfl trivial ?_ rfl
  simp only [Tryz.ntmps37, List.size_toArray, List.length_cons, List.length_nil, Nat.reduceAdd, Nat.reduceSub, Array.replicate_succ, Array.replicate_zero, List.push_toArray, List.append_toArray, List.nil_append, List.cons_append]
  gi_wp2_with (first
    | (refine ⟨trivial, ?_⟩; gi_at_call 45; refine (callsIn_wide.2 (HC.out _ (by repeat (first | exact Below.refl _ _ | assumption | refine bel_drewN ?_ _ | refine Below.drew ?_ | refine bel_alloc ?_ _ | refine Below.setCell ?_ (by first | omega | (simp; done) | (simp; omega)) _ | refine bel_step ?_ (by assumption))))).mono ?_; rintro e' w1 ⟨rfl, hb1⟩; have k1 := (Blk.new _ _ _).after hb1; have x0 : w1.cell? ⟨w.heap.size, 0, none⟩ = some (.slice A1 n1 c1) := k1.cell 0; have x1 : w1.cell? ⟨w.heap.size, 1, none⟩ = some (.slice A2 n2 c2) := k1.cell 1; have x2 : w1.cell? ⟨w.heap.size, 2, none⟩ = some (.slice A3 n3 c3) := k1.cell 2; have l1 : w.heap.size < w1.heap.size := k1.lt; have K1 := Lib.hid k1; clear k1)
    | (refine ⟨trivial, ?_⟩; gi_at_call 97; refine (callsIn_wide.2 (HT.out _)).mono ?_; rintro e' w2 ⟨rfl, rfl⟩))
  have hB0 : Below w.heap.size w w1 := ((Below.refl _ w).alloc (Nat.le_refl _) _).trans (hb1.mono (by simp))
  obtain ⟨W0, hW0⟩ : ∃ W0, (w1.alloc (Obj.cells #[Value.slice none 0 0] 65)).alloc (Obj.cells #[Value.slice A1 n1 c1, Value.slice A2 n2 c2, Value.slice A3 n3 c3] 29) = W0 := ⟨_, rfl⟩
  have hB3 : Below w1.heap.size w1 W0 := by rw [← hW0]; exact ((Below.refl _ w1).alloc (Nat.le_refl _) _).alloc (by simp) _
  have hs3 : w1.heap.size + 2 = W0.heap.size := by rw [← hW0]; simp
  have kb : Blk W0 (w1.heap.size + 1) 29 #[Value.slice A1 n1 c1, Value.slice A2 n2 c2, Value.slice A3 n3 c3] := by
    have := Blk.new (w1.alloc (Obj.cells #[Value.slice none 0 0] 65)) 29 #[Value.slice A1 n1 c1, Value.slice A2 n2 c2, Value.slice A3 n3 c3]
    rwa [World.size_alloc, hW0] at this
  have h00 : MsI w1 p.evs 0 W0 := by
    refine ⟨⟨.slice none 0 0, ?_, ⟨rfl, .inl ⟨rfl, rfl⟩⟩, trivial⟩, hB3⟩
    rw [← hW0]
    exact (Boxed.new w1 65 (.slice none 0 0)).alloc _
  rw [hW0]
  refine wp_range (n := 4) (gf := 159) (lb := #[Value.pointer (some ⟨w1.heap.size + 1, 0, none⟩)]) rfl (enters_of Tryz.func159 (by kernel_rfl) rfl)
    (encs := fun k => #[.int .i64 (k : Int), .int .i64 (frc 0 (p.evs.take (k + 1)))]) (len := n3) (n₀ := w1.heap.size) (by omega)
    (fun l J W hW hJ hY h0 => timed1_in 3 (by omega) l (w1.heap.size + 1) w1.heap.size n3 c3 A3 p.evs HN.out hn3 _ J hJ hY W (by have := hW.size; omega)
      ((hW.cell (p := ⟨w1.heap.size + 1, 2, none⟩) (by simp; omega)).trans (kb.cell 2))
      (((HP.out.2.1.below (hB0.trans (hB3.mono hB0.size))).below (hW.mono (by omega))).more hB0.size) h0)
    (fun _ => rfl)
    (MsI w1 p.evs) (msI_own w1 p.evs _ (by omega)) h00
    (fun k => { tmps := #[Value.agg #[Value.slice A1 n1 c1, Value.slice A2 n2 c2, Value.slice A3 n3 c3],
          Value.pointer (some { block := w.heap.size, off := 0 }), Value.slice none 0 0, Value.int IntKind.i64 0,
          Value.int IntKind.i64 0, Value.pointer (some { block := w1.heap.size, off := 0 }), .int .i64 (k : Int), .int .i64 (frc 0 (p.evs.take (k + 1))), undef,
          Value.agg #[Value.slice A1 n1 c1, Value.slice A2 n2 c2, Value.slice A3 n3 c3], Value.int IntKind.i64 0,
          Value.int IntKind.i64 0, Value.bool false, undef,
          Value.agg #[Value.slice A1 n1 c1, Value.slice A2 n2 c2, Value.slice A3 n3 c3],
          Value.func (Fn.func 159) #[] #[Value.pointer (some { block := w1.heap.size + 1, off := 0 })], .int .i64 (k : Int),
          .int .i64 (frc 0 (p.evs.take (k + 1))), undef, undef, undef, undef, undef, undef, undef, undef, undef, undef, undef, undef, undef, undef, undef, undef, undef, undef, undef, undef, undef, undef, undef, undef, undef, undef, undef, undef, undef, undef, undef, undef, undef, undef, undef, undef], defers := [] }) ?assign ?body ?done
  case assign =>
    intro l k W K hK
    gi_wp2
    exact hK
  case body =>
    rintro l0 k W ⟨⟨v, hv, hrow, _⟩, hB⟩ hlt
    have hk2 : k < p.evs.length := by have := HN.out; omega
    obtain ⟨ad, S, c', hA, hb, e0, _⟩ := ((HP.out.2.1.below hB0).more hB0.size |>.below hB).ev hk2
    subst hA
    have y2 : W.cell? ⟨w.heap.size, 2, none⟩ = some (.slice (some ad) n3 c3) := (hB.cell (by simpa using l1)).trans x2
    have hlen := mea_length p.evs k
    obtain ⟨T, hT⟩ : ∃ T, frc 0 (p.evs.take (k + 1)) = T := ⟨_, rfl⟩
    rw [hT]
    obtain ⟨bar, hbar⟩ : ∃ b, p.evs[k].bar = b := ⟨_, rfl⟩
    rw [hbar] at e0
    have hnew : newM p.evs k = (k == 0 || bar) := by unfold newM; rw [List.getElem?_eq_getElem hk2]; simp [hbar]
    have hfo : Tryz.prog.follows .mixedOrders = true := by kernel_rfl
    have hTb : 0 ≤ T ∧ T ≤ 1000 := by rw [← hT]; exact frc_le 0 _ ⟨by decide, by decide⟩
    have hwr : wrap64 T = T := by first | exact Go.IntWalk.i64_in T ⟨by omega, by omega⟩ | (unfold wrap64; omega)
    by_cases hN : newM p.evs k = true
    · -- a new measure
      obtain ⟨m, hm⟩ : ∃ m, (mea p.evs k).length = m := ⟨_, rfl⟩
      rw [hm] at hrow hlen
      have hc := hv.cell
      obtain ⟨v', w4, hrun, r1, r2, r3⟩ := run_append_own (P := Tryz.prog) (W.alloc (Obj.cells #[.int .i64 k, .int .i64 0, .int .i64 0] 69)) w1.heap.size 65 65 69 i0 (.agg #[.int .i64 0, .int .i64 0, .int .i64 0]) 3 24 Tryz.underMea hi hz0 hz1 hz2 rfl (by decide) v m _ (hrow.alloc _) ⟨W.heap.size, 0, none⟩ 1 1 [.int .i64 k, .int .i64 0, .int .i64 0] rfl
        (fun j u h => by
          have := cell_of_row (W.alloc (Obj.cells #[.int .i64 k, .int .i64 0, .int .i64 0] 69)) W.heap.size j #[.int .i64 k, .int .i64 0, .int .i64 0] 69 (0, 0) (World.alloc_heap_new W _)
          have e : (⟨W.heap.size, 0, none⟩ : Addr).add j = ⟨W.heap.size, j, none⟩ := by
            by_cases hz : j = 0
            · subst hz; rfl
            · simp [Addr.add, hz]
          rw [e, this]; simpa using h) (by simp [Value.oneCell']) (by unfold maxLen; omega) (by omega) (by have := hB.size; simp; omega)
      obtain ⟨g, cap, rfl⟩ := ownsRow_succ r1
      obtain ⟨hv1, hv2, hr2, hk2', hb2⟩ := hv.appended (tmp := Obj.cells #[.int .i64 k, .int .i64 0, .int .i64 0] 69) (by decide) hrow hB.size (Nat.le_refl _) r1 ⟨r2.os, r2.tape, r2.output, r2.size, r2.block⟩
      have hc1 := hv1.cell
      have hf1 := hv1.frozen
      have em : mCells (mea p.evs k) ++ [.int .i64 k, .int .i64 0, .int .i64 0] = mCells (mea p.evs k ++ [((k : Int), 0, 0)]) := (mCells_snoc (mea p.evs k) ((k : Int), 0, 0)).symm
      rw [em] at hr2
      subst hm
      have hf2 := hr2.frozenAt ((mea p.evs k).length * 3 + 1)
      have hf3 := hr2.frozenAt ((mea p.evs k).length * 3 + 2)
      have ha1 := hr2.cellAt ((mea p.evs k).length * 3 + 1) (by omega)
      have ha2 := hr2.cellAt ((mea p.evs k).length * 3 + 2) (by omega)
      rw [mCells_at1] at ha1
      rw [mCells_at2] at ha2
      by_cases hk0 : k = 0
      · have q1 : ((k : Int) == 0) = true := by simp [hk0]
        clear hk0
        gi_wp2
        rw [← Int.zero_add T]
        exact ms_grown (x := ((k : Int), 0, 0)) hT (if_pos hN) hv2 hr2 hB hk2' hb2
      · have q1 : ((k : Int) == 0) = false := by simp [hk0]
        have q2 : ¬ (k : Int) = 0 := by omega
        obtain rfl : bar = true := by rw [hnew] at hN; simpa [hk0] using hN
        clear hk0
        gi_wp2
        rw [← Int.zero_add T]
        exact ms_grown (x := ((k : Int), 0, 0)) hT (if_pos hN) hv2 hr2 hB hk2' hb2
    · -- the last one goes on
      have hk0 : ¬ k = 0 := fun e => hN (by rw [hnew, e]; rfl)
      obtain rfl : bar = false := by
        cases bar with
        | false => rfl
        | true => exact absurd (by rw [hnew]; simp) hN
      have hne := mea_ne p.evs k
      rw [if_neg hN] at hne
      obtain ⟨l, x, hlx⟩ : ∃ l x, mea p.evs k = l ++ [x] := ⟨_, _, (List.dropLast_concat_getLast hne).symm⟩
      rw [hlx] at hrow
      have hll : (l ++ [x]).length = l.length + 1 := by simp
      rw [hll] at hrow
      obtain ⟨g, cap, rfl⟩ := ownsRow_succ hrow
      have hc := hv.cell
      have q1 : ((k : Int) == 0) = false := by simp [hk0]
      have q2 : ¬ (k : Int) = 0 := by omega
      clear hk0
      have hf2 := hrow.frozenAt (l.length * 3 + 1)
      have hf3 := hrow.frozenAt (l.length * 3 + 2)
      have ha1 := hrow.cellAt (l.length * 3 + 1) (by omega)
      have ha2 := hrow.cellAt (l.length * 3 + 2) (by omega)
      rw [mCells_at1] at ha1
      rw [mCells_at2] at ha2
      have hbd := mea_bd p.evs k x (by rw [hlx]; simp)
      rw [hlx, hll] at hlen
      obtain ⟨x1, x2, x3⟩ := x
      simp only at ha1 ha2 hbd
      obtain ⟨_, ⟨b1, b2⟩, b3, b4⟩ := hbd
      have b5 : x2 + 1 ≤ 1000 := by omega
      have b6 : x3 + T ≤ 1000000 := by omega
      have b7 : l.length ≤ 1000 := by omega
      have hw2 : wrap64 (x3 + T) = x3 + T := by unfold wrap64; omega
      have hw1 : wrap64 (x2 + 1) = x2 + 1 := by unfold wrap64; omega
      gi_wp2
      exact ms_grown hT ((if_neg hN).trans hlx) hv hrow hB (KeepsOthers.refl _) (Below.refl _ _)
  case done =>
    rintro D W hD ⟨⟨v, hv, hrow, _⟩, hB⟩ hK
    have hc := hv.cell
    gi_wp2
    refine ⟨by simp, .inl ⟨_, _, rfl, run_takeDeferred hK, ?_⟩⟩
    refine ⟨_, results_tmp2 rfl _ _ _, v, rfl, ?_, ?_⟩
    · exact ownsRow_putObj (own_weaken hrow (by omega)) _ hK rfl
    · exact (hB0.trans (hB.mono (by omega))).trans (belowK_b (w := w) (Nat.le_refl _) W D _ _ (by omega) hK rfl rfl)
end Go.Proofs.YtkgnmddakiagbaaGreatDoor
namespace Go.Proofs.YtkgnmddakiagbaaGreatDoor
open Go.RowKit
def eMea (x : Int × Int × Int) : List AV := [.sc (.int .i64 x.1), .sc (.int .i64 x.2.1), .sc (.int .i64 x.2.2)]
theorem eMea_of (x : Int × Int × Int) : ∀ (i : Nat) av, (eMea x)[i]? = some av → ∃ u, av = .sc u ∧ (mCell x)[i]? = some u ∧ u.oneCell' = true := by
  intro i av a
  match i with
  | 0 => cases a; exact ⟨_, rfl, rfl, rfl⟩
  | 1 => cases a; exact ⟨_, rfl, rfl, rfl⟩
  | 2 => cases a; exact ⟨_, rfl, rfl, rfl⟩
  | i + 3 => simp [eMea] at a
def meaR (p : Pce) : List (Int × Int × Int) := if pceE p = 0 then mea p.evs p.evs.length else []
theorem pMeasures_FS (p : Pce) (hO : PcOk p) : Ctr Tryz.prog 37 [ePce p] (.tu [.ls 3 ((meaR p).map eMea), .sc (.int .i64 (pceE p))]) := by
  intro w F vs hF hR
  match vs, hR.1 with
  | [v], _ =>
    obtain ⟨M, rfl, hM⟩ := pc_of_rp hF (hR.2 0 _ v rfl rfl)
    unfold meaR
    by_cases h0 : pceE p = 0
    · rw [if_pos h0, h0]
      refine (pMeasures_ok M p w hM hO h0).mono fun e w' ⟨v, he, hrow, hb⟩ => ?_
      obtain ⟨L, hL⟩ : ∃ L, mea p.evs p.evs.length = L := ⟨_, rfl⟩
      rw [hL] at hrow ⊢
      have hfl : mCells L = (L.map mCell).flatten := by unfold mCells; rw [List.flatMap_def]
      rw [hfl] at hrow
      obtain ⟨A, c, rfl, hrd, hat, hc⟩ := rd_of_own (l := L.map mCell) hrow (fun r hr => by obtain ⟨x, _, rfl⟩ := List.mem_map.1 hr; rfl) rfl (by simp)
      refine ⟨_, newF F w w', he, hb, newF_le hF, newF_fw hF hb, newF_new, .tu _ _ rfl fun i av u a b => ?_⟩
      match i with
      | 0 =>
        cases a; cases b
        exact rp_of_rd (F := F) (w := w) hrd (fun ad e => (hat ad e).2) hc (e := eMea) (fun _ => rfl) eMea_of
      | 1 => cases a; cases b; exact .sc _
      | i + 2 => simp at a
    · rw [if_neg h0]
      refine (pMeasures_bad M p w hM hO h0).mono fun e w' ⟨he, hb⟩ => ?_
      refine ⟨_, newF F w w', he, hb, newF_le hF, newF_fw hF hb, newF_new, .tu _ _ rfl fun i av u a b => ?_⟩
      match i with
      | 0 => cases a; cases b; exact .ls 3 [] none 0 ⟨0, 0, none⟩ (fun _ _ => undef) (by simp) (by simp) (by simp) (by simp) (by simp)
      | 1 => cases a; cases b; exact .sc _
      | i + 2 => simp at a
end Go.Proofs.YtkgnmddakiagbaaGreatDoor
namespace Go.Proofs.YtkgnmddakiagbaaGreatDoor
open Go.RowKit
def sp (t : List UInt8) : List UInt8 := 32 :: t
def stT (s : Int) (L : Int → Nat) (x : Stp) : List UInt8 := cellS s x.1 x.2.1 x.2.2.1 x.2.2.2.1 x.2.2.2.2 (L x.1)
def stOn (l : List Stp) (c : Int) : Option Stp := l.find? fun x => x.1 == c
def stF (s : Int) (L : Int → Nat) (l : List Stp) (c : Int) : List UInt8 :=
  match stOn l c with
  | some x => stT s L x
  | none => [45]
def asc : Int → List Stp → Prop
  | _, [] => True
  | m, x :: r => m < x.1 ∧ asc x.1 r
theorem asc_of {p : Pce} {i : Int} : ∀ {l : List Stp} {last : Int}, stopsE p i last l = 0 → asc last l
  | [], _, _ => trivial
  | x :: r, last, h => by
    unfold stopsE at h
    by_cases h1 : stopE p i x last ≠ 0
    · rw [if_pos h1] at h; exact absurd h h1
    · rw [if_neg h1] at h
      refine ⟨?_, asc_of h⟩
      by_cases h2 : last < x.1
      · exact h2
      · exfalso; apply h1
        unfold stopE
        split
        · decide
        · split
          · decide
          · rw [if_pos (by omega)]; decide
theorem asc_lt : ∀ {l : List Stp} {m : Int}, asc m l → ∀ x ∈ l, m < x.1
  | y :: r, m, h, x, hx => by
    rcases List.mem_cons.1 hx with rfl | hx
    · exact h.1
    · have := asc_lt h.2 x hx; have := h.1; omega
theorem asc_take {l : List Stp} : ∀ {m : Int} (k : Nat) (h : k < l.length), asc m l → ∀ x ∈ l.take k, x.1 < l[k].1 := by
  induction l with
  | nil => intro m k h; simp at h
  | cons y r ih =>
    intro m k h ha x hx
    cases k with
    | zero => simp at hx
    | succ k =>
      simp only [List.take_succ_cons, List.mem_cons] at hx
      rcases hx with rfl | hx
      · exact asc_lt ha.2 _ (by simp)
      · simpa using ih k (by simpa using h) ha.2 x hx
theorem stOn_none {l : List Stp} {c : Int} (h : ∀ x ∈ l, x.1 ≠ c) : stOn l c = none := by
  unfold stOn
  rw [List.find?_eq_none]
  intro x hx
  simpa using h x hx
theorem stOn_snoc (l : List Stp) (x : Stp) (c : Int) (h : ∀ y ∈ l, y.1 < x.1) : stOn (l ++ [x]) c = if c = x.1 then some x else stOn l c := by
  by_cases e : c = x.1
  · rw [if_pos e]
    have h0 : stOn l c = none := stOn_none fun y hy => by have := h y hy; omega
    unfold stOn at h0 ⊢
    rw [List.find?_append, h0]
    simp [e]
  · rw [if_neg e]
    unfold stOn
    rw [List.find?_append]
    have : [x].find? (fun y => y.1 == c) = none := by simp; omega
    rw [this, Option.or_none]
theorem stF_snoc (s : Int) (L : Int → Nat) (l : List Stp) (x : Stp) (c : Int) (h : ∀ y ∈ l, y.1 < x.1) : stF s L (l ++ [x]) c = if c = x.1 then stT s L x else stF s L l c := by
  unfold stF
  rw [stOn_snoc l x c h]
  by_cases e : c = x.1
  · rw [if_pos e, if_pos e]
  · rw [if_neg e, if_neg e]
def cAt (s : Int) (n j : Nat) : Int := if s = 2 then (n : Int) - j else (j : Int) + 1
def staffL (s : Int) (L : Int → Nat) (n : Nat) (l : List Stp) : List (List UInt8) := (List.range n).map fun j => stF s L l (cAt s n j)
theorem staffL_nil (s : Int) (L : Int → Nat) (n : Nat) : staffL s L n [] = List.replicate n [45] := by
  unfold staffL
  apply List.ext_getElem
  · simp
  · intro i h1 h2; simp [stF, stOn]
theorem staffL_snoc (s : Int) (L : Int → Nat) (n : Nat) (l : List Stp) (x : Stp) (hs : s ≠ 4) (h : ∀ y ∈ l, y.1 < x.1) (h1 : 1 ≤ x.1) (hn : x.1 ≤ n) : staffL s L n (l ++ [x]) = (staffL s L n l).set (lineV s x.1 n - 1).toNat (stT s L x) := by
  apply List.ext_getElem
  · simp [staffL]
  · intro j h2 h3
    have hj : j < n := by simpa [staffL] using h2
    rw [List.getElem_set]
    simp only [staffL, List.getElem_map, List.getElem_range]
    rw [stF_snoc s L l x _ h]
    have e : cAt s n j = x.1 ↔ (lineV s x.1 n - 1).toNat = j := by
      unfold cAt lineV
      rw [if_neg hs]
      by_cases e2 : s = 2
      · rw [if_pos e2, if_pos e2]; omega
      · rw [if_neg e2, if_neg e2]; omega
    by_cases e3 : cAt s n j = x.1
    · rw [if_pos e3, if_pos (e.1 e3)]
    · rw [if_neg e3, if_neg (fun q => e3 (e.2 q))]
def outL (s : Int) (L : Int → Nat) (n : Nat) (l : List Stp) : List (List UInt8) :=
  if s = 2 then ((l.filter fun x => decide ((n : Int) < x.1)).map (stT s L)).reverse else (l.filter fun x => decide ((n : Int) < x.1)).map (stT s L)
theorem outL_in (s : Int) (L : Int → Nat) (n : Nat) (l : List Stp) (x : Stp) (h : x.1 ≤ n) : outL s L n (l ++ [x]) = outL s L n l := by
  unfold outL
  have : [x].filter (fun x => decide ((n : Int) < x.1)) = [] := by simp; omega
  rw [List.filter_append, this, List.append_nil]
theorem outL_out (s : Int) (L : Int → Nat) (n : Nat) (l : List Stp) (x : Stp) (h : ¬ x.1 ≤ n) : outL s L n (l ++ [x]) = if s = 2 then stT s L x :: outL s L n l else outL s L n l ++ [stT s L x] := by
  unfold outL
  have : [x].filter (fun x => decide ((n : Int) < x.1)) = [x] := by simp; omega
  rw [List.filter_append, this]
  by_cases e : s = 2
  · rw [if_pos e, if_pos e, if_pos e]; simp
  · rw [if_neg e, if_neg e, if_neg e]; simp
theorem outL_len (s : Int) (L : Int → Nat) (n : Nat) (l : List Stp) : (outL s L n l).length ≤ l.length := by
  unfold outL
  split
  · simp; exact List.length_filter_le _ _
  · simp; exact List.length_filter_le _ _
def headW (s : Int) (e : Ev) : List (List UInt8) := if e.bar = true then [[124], tW e.val (sgI e.dot e.three)] else [tW e.val (sgI e.dot e.three)]
def staffN (s : Int) (p : Pce) : Nat := if s = 4 then 0 else min p.cs.length 6
def colW (s : Int) (p : Pce) (i : Int) (e : Ev) : List (List UInt8) :=
  headW s e ++ (if e.tie = true then [[126]] else if e.stops.length = 0 then [[37]] else
    if s = 2 then outL s (fun c => longestN p.evs i c) (staffN s p) e.stops ++ staffL s (fun c => longestN p.evs i c) (staffN s p) e.stops
    else staffL s (fun c => longestN p.evs i c) (staffN s p) e.stops ++ outL s (fun c => longestN p.evs i c) (staffN s p) e.stops)
def spW (l : List (List UInt8)) : List UInt8 := l.flatMap sp
def joinW : List (List UInt8) → List UInt8
  | [] => []
  | x :: r => x ++ spW r
theorem joinW_lib (l : List (List UInt8)) : Lib.join l [32] = joinW l := by
  cases l with
  | nil => rfl
  | cons x r =>
    rw [Lib.join_cons]
    show x ++ Lib.joinTail [32] r = x ++ r.flatMap sp
    unfold Lib.joinTail
    rw [List.flatMap_def]; rfl
def colS (s : Int) (p : Pce) (i : Int) (e : Ev) : List UInt8 := joinW (colW s p i e)
/-! The reference goes over the courses. -/
theorem stOn_eq {l : List Stp} {c : Int} {x : Stp} (h : stOn l c = some x) : x ∈ l ∧ x.1 = c := by
  unfold stOn at h
  exact ⟨List.mem_of_find?_eq_some h, by simpa using List.find?_some h⟩
/-! Lengths; no cell is a dash. -/
theorem cellS_len (s c f r g h L : Int) (hs : 1 ≤ s ∧ s ≤ 4) (hc : 1 ≤ c ∧ c ≤ 14) (hf : 0 ≤ f ∧ f ≤ 18) : (cellS s c f r g h L).length ≤ 12 := by
  unfold cellS
  have h1 := (pS_len s c f hs hc hf).1
  have h2 := rR_len s r
  have h3 := rG_len s g
  have h4 := pH_len s h L
  simp only [List.length_append]; omega
theorem spW_len {n : Nat} : ∀ {l : List (List UInt8)}, (∀ t ∈ l, t.length ≤ n) → (spW l).length ≤ (n + 1) * l.length
  | [], _ => by simp [spW]
  | x :: r, h => by
    have h1 := spW_len (l := r) fun t ht => h t (by simp [ht])
    have h2 := h x (by simp)
    unfold spW at h1 ⊢
    rw [List.flatMap_cons, List.length_append, List.length_cons, Nat.mul_succ]
    have : (sp x).length = x.length + 1 := by simp [sp]
    omega
end Go.Proofs.YtkgnmddakiagbaaGreatDoor
