/- A piece without error: all that is known of its stops. -/
import Derived.Test.YtkgnmddakiagbaaGreatDoorSayZq
import Derived.Still
import Derived.Lib.Hide
import Derived.Lib.FrozenHead
import Derived.Deep.MidRow
import Derived.Deep.Draws
import Derived.OwnWalk
import Derived.Maps.AppendAt
import Derived.Deep.AppendLies
import Derived.Laws.OwnMore
import Derived.WalkKit
import Derived.Handy
import Derived.WalkLawsBesides
import Derived.Test.YtkgnmddakiagbaaGreatDoorProg
import Derived.Test.YtkgnmddakiagbaaGreatDoorChPZq
import Derived.BigQuiet
import Derived.Deep.QuietTactic
import Derived.Deep.RegionHeld3
import Derived.Shelf.Strings.Builder1
import Derived.Shelf.Strings.Builder2
import Derived.Shelf.Small.Strs
import Derived.Shelf.Strings.BuilderF
import Derived.Shelf.Strings.BuilderK
import Derived.Shelf.Strings.Builder2Cap
import Derived.Shelf.Strconv.Itoa0
import Derived.Shelf.Strconv.Itoa1
import Derived.Shelf.LaysM
import Derived.Shelf.Strconv.Itoa2
import Derived.Shelf.Strconv.Itoa3
import Derived.Shelf.Strings.Search1
import Derived.Shelf.Strings.Search2
import Derived.Shelf.Strings.Search3
import Derived.Shelf.Strings.Cut
import Derived.Shelf.Strings.Count
import Derived.Shelf.Strings.Shaped
import Derived.Shelf.Strings.Prefix
import Derived.Shelf.Bits.Mul64
import Derived.Shelf.Strings.Repeat
import Derived.Shelf.Unicode.DecodeSlow
import Derived.Shelf.Strings.BuilderCap
set_option linter.unusedVariables false
set_option linter.unusedSimpArgs false
namespace Go.Proofs.YtkgnmddakiagbaaGreatDoor
open Go.RowKit
theorem fold_put : ∀ (v : List Value) (off : Nat) (cells : Array Value), off + v.length ≤ cells.size → (v.zipIdx.foldl (fun cs (c, j) => cs.setIfInBounds (off + j) c) cells).toList = putL off v cells.toList := by
  have key : ∀ (v : List Value) (off s : Nat) (cells : Array Value), off + s + v.length ≤ cells.size → (v.zipIdx s |>.foldl (fun cs (x : Value × Nat) => cs.setIfInBounds (off + x.2) x.1) cells).toList = putL (off + s) v cells.toList := by
    intro v
    induction v with
    | nil =>
      intro off s cells h
      rw [putL_eq _ _ _ (by simpa using h)]
      simp
    | cons x r ih =>
      intro off s cells h
      rw [List.zipIdx_cons, List.foldl_cons, ih off (s + 1) _ (by simp at h ⊢; omega)]
      have hlen : off + s + (r.length + 1) ≤ cells.size := by simpa [Nat.add_assoc] using h
      have hl : off + s < cells.toList.length := by simp; omega
      apply List.ext_getElem?
      intro i
      rw [putL_at (by simp; omega), putL_at (by simp; omega), Array.toList_setIfInBounds, List.length_cons]
      by_cases h2 : i = off + s
      · subst h2
        rw [if_neg (by omega), if_pos (by omega), List.getElem?_set_self hl, Nat.sub_self]; rfl
      · rw [List.getElem?_set_ne (fun e => h2 e.symm)]
        by_cases h3 : off + s + 1 ≤ i ∧ i < off + s + (r.length + 1)
        · rw [if_pos (by omega), if_pos (by omega), show i - (off + s) = (i - (off + (s + 1))) + 1 by omega, List.getElem?_cons_succ]
        · rw [if_neg (by omega), if_neg (by omega)]
  intro v off cells h
  have := key v off 0 cells (by simpa using h)
  simpa using this
theorem putL_head {α : Type} (l m rest : List α) (off : Nat) (h : off = l.length) (done : List α) (hl : m.length ≤ rest.length) : putL off m (l ++ rest) = l ++ m ++ rest.drop m.length := by
  subst h
  rw [putL_eq _ _ _ (by simp; omega), List.take_left, List.drop_append]
  simp
theorem fill_rows {size : Nat} : ∀ (vs : List Value) (q : Nat) (done rest : List Value), done.length = q * size → rest.length = vs.length * size → (∀ v ∈ vs, v.cells.size = size) →
    Instr.fill (fun i => some (i * size, size)) (done ++ rest).toArray (number q vs) = some (done ++ (vs.map fun v => v.cells.toList).flatten).toArray
  | [], q, done, rest, hd, hr, _ => by
    have : rest = [] := List.eq_nil_of_length_eq_zero (by simpa using hr)
    subst this
    simp [number, Instr.fill]
  | v :: vs, q, done, rest, hd, hr, hv => by
    have h1 : v.cells.size = size := hv v (by simp)
    have hle : size ≤ rest.length := by rw [hr, List.length_cons, Nat.succ_mul]; omega
    have hb : (v.cells.size ≠ size || q * size + v.cells.size > (done ++ rest).toArray.size) = false := by
      rw [h1]; simp [hd]; omega
    have hf := fold_put v.cells.toList (q * size) (done ++ rest).toArray (by simp [h1, hd]; omega)
    have e : (v.cells.zipIdx.foldl (fun cs (c, j) => cs.setIfInBounds (q * size + j) c) (done ++ rest).toArray) = ((done ++ v.cells.toList) ++ rest.drop size).toArray := by
      apply Array.ext'
      rw [← Array.foldl_toList, Array.toList_zipIdx, hf]
      have := putL_head done v.cells.toList rest (q * size) hd.symm done (by simpa [h1] using hle)
      simp only [List.toList_toArray] at this ⊢
      rw [this]
      simp [h1]
    have ih := fill_rows vs (q + 1) (done ++ v.cells.toList) (rest.drop size) (by simp [hd, h1, Nat.succ_mul]) (by simp [hr, Nat.succ_mul]) fun x hx => hv x (by simp [hx])
    show (match some (q * size, size) with | none => none | some (off, sz) => if v.cells.size ≠ sz || off + v.cells.size > (done ++ rest).toArray.size then none else Instr.fill _ _ (number (q + 1) vs)) = _
    simp only
    rw [hb]
    simp only [Bool.false_eq_true, if_false]
    rw [e, ih]
    simp
section
variable {P : Program} {C : Cx} {σ σ' : St} {G G' : Gh} {a : Act} {w w' : World} {o : Oper} {d : Tmp}
theorem run_buildS {T e n m : Nat} {z : Value} {vs : List Value} {parts : Array (Nat × Value)} (hT : P.underlying T = some (.slice e)) (hn : sizeB P e = some n) (hz : (P.info? e).bind (·.zero) = some z) (hp : parts.toList = number 0 vs) (hm : vs.length = m) (hv : ∀ v ∈ vs, v.cells.size = n) (hb : m * n ≤ 16777216) (w : World) :
    (Instr.buildSlice T m parts).run P w = .ok (.slice (some ⟨w.heap.size, 0, none⟩) m m) (w.alloc (.cells (vs.map fun v => v.cells.toList).flatten.toArray e)) := by
  cases hi : P.info? e with
  | none => simp [hi] at hz
  | some i =>
    simp [hi] at hz
    have hfill : ∀ zero : Array Value, Instr.fill (fun i => some (i * n, n)) ((Array.range (m * n)).map (zero[· % zero.size]!)) parts.toList = some (vs.map fun v => v.cells.toList).flatten.toArray := fun zero => by
      have := fill_rows (size := n) vs 0 [] ((Array.range (m * n)).map (zero[· % zero.size]!)).toList (by simp) (by simp [hm]) hv
      rw [hp]
      have e0 : ((Array.range (m * n)).map (zero[· % zero.size]!)) = ([] ++ ((Array.range (m * n)).map (zero[· % zero.size]!)).toList).toArray := by rw [List.nil_append, Array.toArray_toList]
      rw [e0]; exact this
    have h2 : ¬ (m * n > 2 ^ 24) := by simp; omega
    unfold Instr.buildSlice
    by_cases h0 : m * n = 0
    · simp only [Sem.run_bind, run_underlying hT, Result.andThen_ok, run_sizeB hn, if_neg h2, if_pos h0, Sem.run_pure, hfill, newRow, run_newObj]
      rfl
    · simp only [Sem.run_bind, run_underlying hT, Result.andThen_ok, run_sizeB hn, if_neg h2, if_neg h0, Sem.run_pure, zeroValue, typeInfo, run_program, hi, hz, hfill, newRow, run_newObj]
      rfl
def rowsB (n : Nat) (l : List AV) : Bool := l.all fun av => av.cellB && Nat.beq av.cells.length n && av.cells.all AV.oneB && av.cells.all AV.pu0
theorem number_map {α β : Type} (f : α → β) : ∀ (n : Nat) (l : List α), (number n l).map (fun x => (x.1, f x.2)) = number n (l.map f)
  | _, [] => rfl
  | n, x :: r => by simp [number, number_map f (n + 1) r]
def numB {α : Type} : Nat → List (Nat × α) → Bool
  | _, [] => true
  | n, x :: r => Nat.beq x.1 n && numB (n + 1) r
theorem numB_eq {α : Type} : ∀ (n : Nat) (l : List (Nat × α)), numB n l = true → l = number n (l.map (·.2))
  | _, [], _ => rfl
  | n, x :: r, h => by
    simp only [numB, Bool.and_eq_true] at h
    rw [List.map_cons, number, ← numB_eq (n + 1) r h.2, ← Nat.eq_of_beq_eq_true h.1]
theorem WO.build0 {T e n m q : Nat} {z : Value} {parts : Array (Nat × Operand)} {xs : List Operand} {avs : List AV} {rows : List (List AV)} (ho : o.op = .buildSlice T m parts) (hT : P.underlying T = some (.slice e)) (hn : sizeB P e = some n) (hz : (P.info? e).bind (·.zero) = some z)
    (hp : parts.toList = number 0 xs) (hm : xs.length = m) (hb : Nat.ble (m * n) 16777216 = true) (hb1 : Nat.ble m 16777216 = true) (hds : o.dst = some d) (hd : Nat.blt d C.N = true) (hx : σ.evs xs = some avs) (hck : rowsB n avs = true) (hr : avs.map AV.cells = rows) (hq : σ.nk = q) :
    WO P C o σ ((σ.new (.row e n rows)).put d (.sl q)) := by
  intro G a w ok N Q' hN
  obtain ⟨e1, e2⟩ := ok.evl hx
  have hck' : ∀ av ∈ avs, av.cellB = true ∧ av.cells.length = n ∧ av.cells.all AV.oneB = true ∧ av.cells.all AV.pu0 = true := fun av hav => by
    have := List.all_eq_true.1 hck av hav
    simp only [Bool.and_eq_true] at this
    exact ⟨this.1.1.1, Nat.eq_of_beq_eq_true this.1.1.2, this.1.2, this.2⟩
  have hv : ∀ v ∈ xs.map a.eval, v.cells.size = n := fun v hv => by
    obtain ⟨i, hi, rfl⟩ := List.getElem_of_mem hv
    have hi2 : i < avs.length := by omega
    obtain ⟨c1, c2, _⟩ := hck' _ (List.getElem_mem hi2)
    rw [(cells_of (e2 i _ _ (List.getElem?_eq_getElem hi2) (List.getElem?_eq_getElem hi)) c1).1, c2]
  have hlm : (xs.map a.eval).length = m := by simpa using hm
  have hrun := run_buildS (P := P) (T := T) (e := e) (n := n) (m := m) (vs := xs.map a.eval) (parts := parts.map fun (i, x) => (i, a.eval x)) hT hn hz (by
    have := number_map a.eval 0 xs
    rw [← this, ← hp]; simp) hlm hv (Nat.le_of_ble_eq_true hb) w
  have hvs : ((xs.map a.eval).map fun v => v.cells.toList).length = rows.length := by rw [← hr]; simp only [List.length_map] at e1 ⊢; exact e1
  have hown := own_built w e n m ((xs.map a.eval).map fun v => v.cells.toList).flatten.toArray (by unfold maxLen; have := Nat.le_of_ble_eq_true hb1; omega) (by
    rw [List.size_toArray, flatten_len (size := n) (fun r hr => by obtain ⟨v, hv', rfl⟩ := List.mem_map.1 hr; simpa using hv v hv')]
    simp [hm])
  have honeR : ∀ r ∈ (xs.map a.eval).map fun v => v.cells.toList, ∀ u ∈ r, u.oneCell' = true :=
    (fun r hr' u hu => by
      obtain ⟨v, hv', rfl⟩ := List.mem_map.1 hr'
      obtain ⟨i, hi, rfl⟩ := List.getElem_of_mem hv'
      have hi2 : i < avs.length := by omega
      obtain ⟨c1, c2, c3, _⟩ := hck' _ (List.getElem_mem hi2)
      obtain ⟨d1, d2⟩ := cells_of (e2 i _ _ (List.getElem?_eq_getElem hi2) (List.getElem?_eq_getElem hi)) c1
      obtain ⟨j, hj, rfl⟩ := List.getElem_of_mem hu
      have hj2 : j < (avs[i]).cells.length := by rw [← d1]; simpa using hj
      exact oneB_of (d2 j _ _ (List.getElem?_eq_getElem hj2) (by simp at hj; simp [hj])) (List.all_eq_true.1 c3 _ (List.getElem_mem hj2)))
  have hrel : ∀ (i : Nat) r r', rows[i]? = some r → ((xs.map a.eval).map fun v => v.cells.toList)[i]? = some r' → RL G.F r r' :=
    (fun i r r' h1 h2 => by
      rw [← hr, List.getElem?_map] at h1
      rw [List.getElem?_map] at h2
      cases q1 : avs[i]? with
      | none => simp [q1] at h1
      | some av =>
        cases q2 : (xs.map a.eval)[i]? with
        | none => simp [q2] at h2
        | some v =>
          simp [q1] at h1
          simp only [q2, Option.map_some, Option.some.injEq] at h2
          subst h1 h2
          obtain ⟨c1, c2, _, c4⟩ := hck' av (List.mem_of_getElem? q1)
          obtain ⟨d1, d2⟩ := cells_of (e2 i av v q1 q2) c1
          exact ⟨by simpa using d1, fun j x u hx hu => (pu0_bd (List.all_eq_true.1 c4 x (List.mem_of_getElem? hx)) 0).rp (d2 j x u hx (by simpa using hu))⟩)
  have hsl : (.slice (some ⟨w.heap.size, 0, none⟩) m m : Value).ownBlock = some w.heap.size := rfl
  have ok' := ok.newObj (w' := w.alloc (.cells ((xs.map a.eval).map fun v => v.cells.toList).flatten.toArray e)) (S := fun _ => False) (b := w.heap.size) (n := n) (h := .slice (some ⟨w.heap.size, 0, none⟩) m m) (φ := fun x => x = w.heap.size) (ob := .row e n rows)
    (Kept.below ((Below.refl _ _).alloc (Nat.le_refl _) _)) (fun _ h => h.elim) (fun _ _ _ _ _ h => h) (fun _ _ _ h => h)
    ⟨with_n, (fun g hg => by rw [with_h, hsl] at hg; rw [with_b]; exact (Option.some.inj hg).symm), by
      rw [with_h, with_f]
      refine ⟨fun r hr' => by rw [← hr] at hr'; obtain ⟨av, hav, rfl⟩ := List.mem_map.1 hr'; exact (hck' av hav).2.1, (xs.map a.eval).map fun v => v.cells.toList, fun _ _ _ => False, ?_, hvs, ?_, fun g hg => by rw [hsl] at hg; exact (Option.some.inj hg).symm,
        fun _ _ _ h => h.elim, fun _ _ _ _ _ h => h.elim, fun i r r' h1 h2 => (hrel i r r' h1 h2).1, fun i r r' j av u h1 h2 h3 h4 => (hrel i r r' h1 h2).2 j av u h3 h4⟩
      · have : ((xs.map a.eval).map fun v => v.cells.toList).length = m := by simpa using hlm
        rw [this]
        exact own_weaken (by simpa using hown) (Nat.zero_le _)
      · exact honeR⟩ trivial (fun x hx => by
      obtain rfl : x = w.heap.size := hx
      refine ⟨.inl ok.bel.size, by simp, fun k o h1 h2 => ?_, fun p u h1 h2 => ?_⟩
      · have := (ok.my k o _ h1 h2).2; omega
      · have := cell_block (ok.fw p u h1); omega)
  unfold Oper.wp execOp
  simp only [ho, Sem.run_bind, hrun, Result.andThen_ok, Sem.run_pure, Oper.upon]
  rw [hds]
  subst hq
  exact hN _ _ _ (ok'.set (d := some d) (av := .sl σ.nk) (v := .slice (some ⟨w.heap.size, 0, none⟩) m m) (with_sl rfl) (.sl _ (Nat.lt_succ_self _)) fun x hx => by cases hx; exact of_blt hd)
theorem WO.build {T e n m q : Nat} {z : Value} {parts : Array (Nat × Operand)} {avs : List AV} {rows : List (List AV)} (ho : o.op = .buildSlice T m parts) (hT : P.underlying T = some (.slice e)) (hn : sizeB P e = some n) (hz : (P.info? e).bind (·.zero) = some z)
    (hp : numB 0 parts.toList = true) (hm : parts.toList.length = m) (hb : Nat.ble (m * n) 16777216 = true) (hb1 : Nat.ble m 16777216 = true) (hds : o.dst = some d) (hd : Nat.blt d C.N = true) (hx : σ.evs (parts.toList.map (·.2)) = some avs) (hck : rowsB n avs = true) (hr : avs.map AV.cells = rows) (hq : σ.nk = q) :
    WO P C o σ ((σ.new (.row e n rows)).put d (.sl q)) :=
  WO.build0 ho hT hn hz (numB_eq 0 _ hp) (by simpa using hm) hb hb1 hds hd hx hck hr hq
end
end Go.Proofs.YtkgnmddakiagbaaGreatDoor
namespace Go.Proofs.YtkgnmddakiagbaaGreatDoor
open Go.RowKit
def placesB (P : Program) (T : TypeId) : Option (List (Nat × Nat)) :=
  match P.underlying T with
  | some (.struct fields) => fields.toList.mapM fun f => (P.info? f.type).map fun i => (f.offset, i.size)
  | _ => none
def fillA (places : List (Nat × Nat)) : List AV → List (Nat × AV) → Option (List AV)
  | cells, [] => some cells
  | cells, (i, av) :: r =>
    match places[i]? with
    | some (off, sz) => bif av.cellB && Nat.beq av.cells.length sz && Nat.ble (off + sz) cells.length then fillA places (putL off av.cells cells) r else none
    | none => none
def pairUp : List (Nat × Operand) → List AV → List (Nat × AV)
  | (i, _) :: r, av :: s => (i, av) :: pairUp r s
  | _, _ => []
section
variable {P : Program} {C : Cx} {σ σ' : St} {G G' : Gh} {a : Act} {w w' : World} {o : Oper} {d : Tmp} {ops : Array Oper} {Q : Exit → St → Prop}
theorem fillA_of {places : List (Nat × Nat)} : ∀ (parts : List (Nat × AV)) (vals : List (Nat × Value)) (cells : List AV) (cs : Array Value) (l : List AV), fillA places cells parts = some l → vals.length = parts.length →
    (∀ (q : Nat) x y, parts[q]? = some x → vals[q]? = some y → y.1 = x.1 ∧ R G x.2 y.2) → cs.size = cells.length → (∀ (i : Nat) x u, cells[i]? = some x → cs[i]? = some u → R G x u) →
    ∃ cs', Instr.fill (places.toArray[·]?) cs vals = some cs' ∧ cs'.size = l.length ∧ ∀ (i : Nat) x u, l[i]? = some x → cs'[i]? = some u → R G x u
  | [], vals, cells, cs, l, h, hl, _, hs, hc => by
    cases h
    have : vals = [] := List.eq_nil_of_length_eq_zero hl
    subst this
    exact ⟨cs, rfl, hs, hc⟩
  | (i, av) :: r, [], cells, cs, l, h, hl, _, hs, hc => by cases hl
  | (i, av) :: r, (j, v) :: vr, cells, cs, l, h, hl, hp, hs, hc => by
    obtain ⟨e1, e2⟩ := hp 0 _ _ rfl rfl
    simp only at e1 e2
    subst e1
    unfold fillA at h
    cases hpl : places[j]? with
    | none => simp [hpl] at h
    | some x =>
      obtain ⟨off, sz⟩ := x
      simp only [hpl] at h
      cases hb : av.cellB && Nat.beq av.cells.length sz && Nat.ble (off + sz) cells.length with
      | false => rw [hb] at h; cases h
      | true =>
        rw [hb] at h
        simp only [cond_true] at h
        simp only [Bool.and_eq_true] at hb
        obtain ⟨⟨b1, b2⟩, b3⟩ := hb
        have b2 := Nat.eq_of_beq_eq_true b2
        have b3 := Nat.le_of_ble_eq_true b3
        obtain ⟨c1, c2⟩ := cells_of e2 b1
        have hfit : off + v.cells.toList.length ≤ cs.size := by rw [hs]; simp [c1, b2]; omega
        have hfit2 : off + av.cells.length ≤ cells.length := by omega
        obtain ⟨cs', f1, f2, f3⟩ := fillA_of r vr (putL off av.cells cells) (putL off v.cells.toList cs.toList).toArray l h (by simpa using hl) (fun q x y a b => hp (q + 1) x y (by simpa using a) (by simpa using b))
          (by rw [List.size_toArray, putL_len (by simpa using hfit), putL_len hfit2]; simpa using hs)
          (fun q x u a b => putL_rel (R G) hfit2 (by rw [Array.length_toList]; exact c1) (by rw [Array.length_toList]; exact hs) (fun q x y a b => c2 q x y a (by simpa using b)) (fun q x y a b => hc q x y a (by simpa using b)) q x u a (by simpa using b))
        refine ⟨cs', ?_, f2, f3⟩
        have hf := fold_put v.cells.toList off cs hfit
        have e : (v.cells.zipIdx.foldl (fun cs (c, j) => cs.setIfInBounds (off + j) c) cs) = (putL off v.cells.toList cs.toList).toArray := by
          apply Array.ext'
          rw [← Array.foldl_toList, Array.toList_zipIdx, hf]
        have hpl' : places.toArray[j]? = some (off, sz) := by simpa using hpl
        show (match places.toArray[j]? with | none => none | some (off, sz) => if v.cells.size ≠ sz || off + v.cells.size > cs.size then none else Instr.fill _ _ vr) = _
        rw [hpl']
        simp only
        have hbad : (v.cells.size ≠ sz || off + v.cells.size > cs.size) = false := by
          rw [c1, b2]; simp; rw [hs]; omega
        rw [hbad]
        simp only [Bool.false_eq_true, if_false]
        rw [e]; exact f1
theorem WV.build {T : TypeId} {parts : Array (Nat × Operand)} {z : Value} {places : List (Nat × Nat)} {avs l : List AV} (ho : o.op = .build T parts) (hz : (P.info? T).bind (·.zero) = some z) (hpl : placesB P T = some places)
    (hx : σ.evs (parts.toList.map (·.2)) = some avs) (hf : fillA places (z.cells.toList.map .sc) (pairUp parts.toList avs) = some l) : WV P C o σ (.ag l) := by
  have main : ∀ G a w, Ok C σ G a w → ∃ cs, (Instr.build T (parts.map fun (i, x) => (i, a.eval x))).run P w = .ok (.agg cs) w ∧ cs.size = l.length ∧ ∀ (i : Nat) x u, l[i]? = some x → cs[i]? = some u → R G x u := by
    intro G a w ok
    obtain ⟨e1, e2⟩ := ok.evl hx
    have hlen : avs.length = parts.toList.length := by simpa using e1.symm
    have hpu : ∀ (ps : List (Nat × Operand)) (ys : List AV), ys.length = ps.length → (pairUp ps ys).length = ps.length ∧ ∀ (q : Nat) x, (pairUp ps ys)[q]? = some x → ∃ p av, ps[q]? = some p ∧ ys[q]? = some av ∧ x = (p.1, av) := by
      intro ps
      induction ps with
      | nil => intro ys h; exact ⟨by cases ys <;> rfl, fun q x hx => by cases ys <;> simp [pairUp] at hx⟩
      | cons p r ih =>
        intro ys h
        cases ys with
        | nil => simp at h
        | cons av s =>
          obtain ⟨h1, h2⟩ := ih s (by simpa using h)
          refine ⟨by simp [pairUp, h1], fun q x hx => ?_⟩
          cases q with
          | zero => cases hx; exact ⟨p, av, rfl, rfl, rfl⟩
          | succ q => exact h2 q x (by simpa [pairUp] using hx)
    obtain ⟨p1, p2⟩ := hpu parts.toList avs hlen
    obtain ⟨cs', f1, f2, f3⟩ := fillA_of (G := G) (pairUp parts.toList avs) (parts.toList.map fun (i, x) => (i, a.eval x)) _ z.cells l hf (by simp [p1]) (fun q x y hxq hy => by
      obtain ⟨p, av, q1, q2, rfl⟩ := p2 q x hxq
      rw [List.getElem?_map, q1] at hy
      simp at hy
      subst hy
      exact ⟨rfl, e2 q av _ q2 (by rw [List.map_map, List.getElem?_map, q1]; rfl)⟩) (by simp) (fun i x u hxi hu => by
      rw [List.getElem?_map, show z.cells.toList[i]? = z.cells[i]? by simp, hu] at hxi
      cases hxi
      exact .pu _ _ (.sc _))
    refine ⟨cs', ?_, f2, f3⟩
    apply run_build
    unfold Program.built
    cases hi : P.info? T with
    | none => simp [hi] at hz
    | some it =>
      simp [hi] at hz
      unfold placesB at hpl
      cases hu : P.underlying T with
      | none => simp [hu] at hpl
      | some u =>
        cases u with
        | struct fields =>
          simp only [hu] at hpl
          simp only [hz, hpl]
          simpa using f1
        | _ => simp [hu] at hpl
  refine WV.val (fun G a w ok => ?_) fun G a w ok => ?_
  · obtain ⟨_, b2⟩ : True ∧ ∀ av ∈ avs, Bd σ.nk av := ⟨trivial, by
      have : ∀ (xs : List Operand) (ys : List AV), σ.evs xs = some ys → ∀ av ∈ ys, Bd σ.nk av := by
        intro xs
        induction xs with
        | nil => intro ys h av hav; cases h; cases hav
        | cons x r ih =>
          intro ys h av hav
          unfold St.evs at h
          cases h1 : σ.ev x with
          | none => simp [h1] at h
          | some y =>
            cases h2 : σ.evs r with
            | none => simp [h1, h2] at h
            | some l' =>
              simp [h1, h2] at h
              subst h
              rcases List.mem_cons.1 hav with rfl | hav
              · exact (ok.evr h1).1
              · exact ih l' h2 av hav
      exact this _ _ hx⟩
    have hfb : ∀ (parts : List (Nat × AV)) (cells l : List AV), fillA places cells parts = some l → (∀ x ∈ parts, Bd σ.nk x.2) → (∀ (i : Nat) x, cells[i]? = some x → Bd σ.nk x) → ∀ (i : Nat) x, l[i]? = some x → Bd σ.nk x := by
      intro parts
      induction parts with
      | nil => intro cells l h _ hc; cases h; exact hc
      | cons p r ih =>
        intro cells l h hp hc
        obtain ⟨i, av⟩ := p
        unfold fillA at h
        cases hpl : places[i]? with
        | none => simp [hpl] at h
        | some x =>
          obtain ⟨off, sz⟩ := x
          simp only [hpl] at h
          cases hb : av.cellB && Nat.beq av.cells.length sz && Nat.ble (off + sz) cells.length with
          | false => rw [hb] at h; cases h
          | true =>
            rw [hb] at h
            simp only [Bool.and_eq_true] at hb
            have b2 := Nat.eq_of_beq_eq_true hb.1.2
            have b3 := Nat.le_of_ble_eq_true hb.2
            refine ih _ _ h (fun x hx => hp x (by simp [hx])) fun q x hx => ?_
            rw [putL_at (by omega)] at hx
            split at hx
            · exact cells_bd (hp (i, av) (by simp)) _ x hx
            · exact hc q x hx
    refine .ag _ (hfb _ _ _ hf (fun x hx => ?_) fun i x hx => ?_)
    · have : ∀ (ps : List (Nat × Operand)) (ys : List AV), x ∈ pairUp ps ys → x.2 ∈ ys := by
        intro ps
        induction ps with
        | nil => intro ys h; cases ys <;> simp [pairUp] at h
        | cons p r ih =>
          intro ys h
          cases ys with
          | nil => simp [pairUp] at h
          | cons av s =>
            rcases List.mem_cons.1 (by simpa [pairUp] using h) with rfl | h
            · simp
            · exact List.mem_cons_of_mem _ (ih s h)
      exact b2 _ (this _ _ hx)
    · rw [List.getElem?_map] at hx
      cases hq : z.cells.toList[i]? with
      | none => simp [hq] at hx
      | some u => simp [hq] at hx; rw [← hx]; exact .sc _
  · obtain ⟨cs, h1, h2, h3⟩ := main G a w ok
    exact ⟨.agg cs, by unfold execOp; simp only [ho, Sem.run_bind, h1, Result.andThen_ok, Sem.run_pure], .ag l cs h2 h3⟩
end
end Go.Proofs.YtkgnmddakiagbaaGreatDoor
namespace Go.Proofs.YtkgnmddakiagbaaGreatDoor
open Go.RowKit
def gdn (v : Value) (b : Bool) : Bool :=
  match vb v with
  | some c => !(c == b)
  | none => true
section
variable {P : Program} {C : Cx} {σ σ' : St} {G G' : Gh} {a : Act} {w w' : World} {o oj : Oper} {d d0 : Tmp} {ops : Array Oper} {rest : List Oper} {Q : Exit → St → Prop} {j : Nat} {b c : Bool}
theorem WL.opno {v : Value} (hg : o.guard = some (j, b)) (hj : ops[j]? = some oj) (hd0 : oj.dst = some d0) (hv : look d0 σ.t = some (.sc v)) (hb : gdn v b = true) (hds : o.dst = some d) (hd : Nat.blt d C.N = true) (k : WL P C ops rest (σ.put d (.sc undef)) Q) : WL P C ops (o :: rest) σ Q :=
  WL.opn hg hj hd0 hv (by
    unfold gdn at hb
    cases h : vb v with
    | none => simp
    | some c => rw [h] at hb; cases c <;> cases b <;> first | (intro h2; cases h2; done) | cases hb) hds hd k
theorem WL.partG (hg : o.guard = some (j, b)) (hj : ops[j]? = some oj) (hd0 : oj.dst = some d0) (hv : look d0 σ.t = some (.sc (.bool c))) (h1 : c = true → WL P C ops (o :: rest) (σ.put d0 (.sc (.bool true))) Q) (h2 : c = false → WL P C ops (o :: rest) (σ.put d0 (.sc (.bool false))) Q) : WL P C ops (o :: rest) σ Q :=
  WL.part hv h1 h2
theorem W.condT {x : Operand} {p q : Code} (hc : σ.ev x = some (.sc (.bool true))) (h : W P C p σ Q) : W P C (.cond x p q) σ Q := W.cond hc (fun _ => h) (fun h => by cases h)
theorem W.condF {x : Operand} {p q : Code} (hc : σ.ev x = some (.sc (.bool false))) (h : W P C q σ Q) : W P C (.cond x p q) σ Q := W.cond hc (fun h => by cases h) (fun _ => h)
theorem WV.cast {av av' : AV} (h : WV P C o σ av) (e : av = av') : WV P C o σ av' := e ▸ h
/-! What writes, whatever else is known. -/
theorem ev_agree {t : List (Nat × AV)} {M : List (Nat × AO)} {nk : Nat} (H : ∀ q ∈ o.looksAt ops, look q t = look q σ.t) {x : Operand} (hx : x ∈ o.op.operands.toList) : (⟨t, M, nk⟩ : St).ev x = σ.ev x := by
  cases x with
  | tmp q => exact H q (List.mem_append_left _ (List.mem_filterMap.2 ⟨.tmp q, hx, rfl⟩))
  | const v => rfl
  | func f => rfl
  | global g => rfl
theorem src_same {t : List (Nat × AV)} {nk : Nat} (n : Nat) (av : AV) : (⟨t, σ.M, nk⟩ : St).src n av = σ.src n av := by cases av <;> rfl
theorem evs_agree {t : List (Nat × AV)} {M : List (Nat × AO)} {nk : Nat} (H : ∀ q ∈ o.looksAt ops, look q t = look q σ.t) : ∀ {xs : List Operand}, (∀ x ∈ xs, x ∈ o.op.operands.toList) → (⟨t, M, nk⟩ : St).evs xs = σ.evs xs
  | [], _ => rfl
  | x :: r, h => by
    unfold St.evs
    rw [ev_agree H (h x (by simp)), evs_agree H fun y hy => h y (by simp [hy])]
theorem DoesM.append {T e n by_ k m : Nat} {z : Value} {i : TypeInfo} {x y : Operand} {rows rows2 rows' : List (List AV)} {av2 : AV} {M' : List (Nat × AO)} {nk' : Nat} (hg : o.guard = none) (ho : o.op = .call { callee := .builtin .append, args := #[x, y], argTypes := #[T, T] }) (hT : P.underlying T = some (.slice e))
    (hi : P.info? e = some i) (hz : i.zero = some z) (hn : i.size = n) (hby : i.bytes = by_) (hzs : z.cells.size = n) (h0 : Nat.blt 0 n = true) (hds : o.dst = some d) (hd : Nat.blt d C.N = true)
    (hx : σ.ev x = some (.sl k)) (hk : look k σ.M = some (.row e n rows)) (hy : σ.ev y = some av2) (hs : σ.src n av2 = some rows2) (hm : σ.nk = m) (hb1 : rows.length + rows2.length ≤ 1000000000) (hb2 : Nat.ble by_ 100000 = true) (hrr : rows ++ rows2 = rows') (hM : (m, .row e n rows') :: rem k σ.M = M') (hnk : m + 1 = nk') :
    DoesM P C ops o σ d (.sl m) M' nk' := by
  subst hM hnk
  refine ⟨hg, fun t H => ?_⟩
  have hmem : ∀ q ∈ [x, y], q ∈ o.op.operands.toList := fun q hq => by rw [ho]; simp [Op.operands, Call.operands] at hq ⊢; exact hq
  have := WO.append (P := P) (C := C) (σ := ⟨t, σ.M, σ.nk⟩) ho hT hi hz hn hby hzs h0 hds hd ((ev_agree H (hmem x (by simp))).trans hx) hk ((ev_agree H (hmem y (by simp))).trans hy) ((src_same n av2).trans hs) hm hb1 hb2 hrr
  subst hm
  exact this
theorem DoesM.build {T e n m q : Nat} {z : Value} {parts : Array (Nat × Operand)} {avs : List AV} {rows : List (List AV)} {M' : List (Nat × AO)} {nk' : Nat} (hg : o.guard = none) (ho : o.op = .buildSlice T m parts) (hT : P.underlying T = some (.slice e)) (hn : sizeB P e = some n) (hz : (P.info? e).bind (·.zero) = some z)
    (hp : numB 0 parts.toList = true) (hm : parts.toList.length = m) (hb : Nat.ble (m * n) 16777216 = true) (hb1 : Nat.ble m 16777216 = true) (hds : o.dst = some d) (hd : Nat.blt d C.N = true) (hx : σ.evs (parts.toList.map (·.2)) = some avs) (hck : rowsB n avs = true) (hr : avs.map AV.cells = rows) (hq : σ.nk = q) (hM : (q, .row e n rows) :: σ.M = M') (hnk : q + 1 = nk') :
    DoesM P C ops o σ d (.sl q) M' nk' := by
  subst hM hnk
  refine ⟨hg, fun t H => ?_⟩
  have hmem : ∀ x ∈ parts.toList.map (·.2), x ∈ o.op.operands.toList := fun x hx' => by
    rw [ho]
    simp only [Op.operands]
    exact hx'
  have := WO.build (P := P) (C := C) (σ := ⟨t, σ.M, σ.nk⟩) ho hT hn hz hp hm hb hb1 hds hd ((evs_agree H hmem).trans hx) hck hr hq
  subst hq
  exact this
end
theorem Tr.nilBox {C : Cx} {σ : St} {k j m : Nat} {T' : TypeId} {cells cells' : List AV} (T : TypeId) (n : Nat) (hk : look k σ.M = some (.box T' cells)) (hj : cells[j]? = some (.sc (.slice none 0 0))) (hm : σ.nk = m) (hc : cells.set j (.sl m) = cells') :
    Tr C σ ((σ.new (.row T n [])).upd k (.box T' cells')) := fun G a w ok => by
  obtain ⟨G', ok', hsl⟩ := ok.nilRow T n
  subst hm hc
  have hkn : k ≠ σ.nk := Nat.ne_of_lt (ok.ob k _ hk).1
  have hk' : look k (σ.new (.row T n [])).M = some (.box T' cells) := by
    rw [show look k (σ.new (.row T n [])).M = look k σ.M from look_set_other hkn]; exact hk
  obtain ⟨g1, g2, g3, cs, Φ, g4, g5, g6, g7, g8⟩ := ok'.ob k _ hk'
  refine ⟨G', ok'.reob hk' ⟨g1, fun i av x => ?_, g3, cs, Φ, g4, by simpa using g5, g6, g7, fun i av u x y => ?_⟩⟩
  · rw [List.getElem?_set] at x
    split at x
    · split at x
      · cases x; exact .sl _ (Nat.lt_succ_self _)
      · cases x
    · exact g2 i av x
  · by_cases e : j = i
    · subst e
      have hlt : j < cells.length := (List.getElem?_eq_some_iff.1 hj).1
      rw [List.getElem?_set_self hlt] at x
      cases x
      have := ((g8 j _ u hj y).r rfl).sc_eq
      rw [this]; exact .inl hsl
    · rw [List.getElem?_set_ne e] at x
      exact g8 i av u x y
theorem callF {P : Program} {f : FuncId} {fn : Func} (h : P.funcs[f]? = some fn) (hn : (fn.name == "runtime.NumGoroutine") = false) (hb : fn.body.isNone = false) : ∀ vs w, (callFunc f vs).run P w = .ok (.enter f vs) w := fun vs w => by
  unfold callFunc
  simp only [Sem.run_bind, run_program, Result.andThen_ok, h, hn, hb, Bool.false_eq_true, if_false]
  rfl
theorem letsOut_mono {Q Q' : Exit → Act → World → Prop} (h : ∀ e a w, Q e a w → Q' e a w) (k : LetsOut Q) : LetsOut Q' := let ⟨a, w, q⟩ := k; ⟨a, w, h _ a w q⟩
theorem wp_monoQ {P : Program} {o : Oper} {a : Act} {w : World} {K K' : Act → World → Prop} {Q Q' : Exit → Act → World → Prop} (hk : ∀ a w, K a w → K' a w) (hq : ∀ e a w, Q e a w → Q' e a w) (h : o.wp P a w K Q) : o.wp P a w K' Q' := by
  unfold Oper.wp at *
  generalize (execOp a.eval o).run P w = r at *
  cases r with
  | ok n w' =>
    cases n <;> simp only [Oper.upon] at h ⊢
    case value v => exact hk _ _ h
    case skip => exact hk _ _ h
    case defer d => exact hk _ _ h
    case enter f args =>
      refine h.mono fun e w'' x => ?_
      cases e with
      | returned v => exact hk _ _ x
      | panicked c => exact hq _ _ _ x
      | outgrown => exact letsOut_mono hq x
    case row r args => exact h.mono fun v w'' x => hk _ _ x
  | halt x w' =>
    cases x <;> simp only [Oper.upon] at h ⊢
    exact hq _ _ _ h
theorem wpList_mono' {P : Program} {ops : Array Oper} {Q Q' : Exit → Act → World → Prop} : ∀ {l : List Oper} {a : Act} {w : World}, wpList P ops Q l a w → (∀ e a w, Q e a w → Q' e a w) → wpList P ops Q' l a w
  | [], a, w, h, hq => hq _ _ _ h
  | o :: rest, a, w, h, hq => by
    unfold wpList at *
    split at h
    · rename_i hw
      rw [if_pos hw]
      rcases h with h | ⟨h1, h2⟩
      · exact .inl (wp_monoQ (fun a w x => wpList_mono' x hq) hq h)
      · exact .inr ⟨h1, letsOut_mono hq h2⟩
    · rename_i hw
      rw [if_neg hw]
      exact wpList_mono' h hq
theorem W.meet {P : Program} {C : Cx} {σ : St} {Q Q2 : Exit → St → Prop} {x y : Code} (σm : St) (h : W P C x σ (QThen (fun s => Tr C s σm) Q)) (k : W P C y σm Q2) : W P C x σ (QThen (fun s => W P C y s Q2) Q) :=
  W.mono h fun e s q => by
    cases e with
    | normal => exact W.tr q k
    | _ => exact q
theorem WL.meet2 {P : Program} {C : Cx} {σ : St} {ops : Array Oper} {l : List Oper} {Q Q1 Q2 : Exit → St → Prop} {x y : Code} (σm : St) (h : WL P C ops l σ (QThen (fun s => W P C x s (QThen (fun s => Tr C s σm) Q)) Q1)) (k : W P C y σm Q2) :
    WL P C ops l σ (QThen (fun s => W P C x s (QThen (fun s => W P C y s Q2) Q)) Q1) := fun G a w ok =>
  wpList_mono' (h G a w ok) fun e a w ⟨s, g, q, o⟩ => ⟨s, g, by
    cases e with
    | normal => exact W.meet σm q k
    | _ => exact q, o⟩
end Go.Proofs.YtkgnmddakiagbaaGreatDoor
namespace Go.Proofs.YtkgnmddakiagbaaGreatDoor
open Go.RowKit
def DK (P : Program) (C : Cx) (ops : Array Oper) (l : List Oper) (σ : St) (Q : Exit → St → Prop) : Prop := ∃ σ', DL P C ops l σ σ' ∧ Q .normal σ'
def DMK (P : Program) (C : Cx) (ops : Array Oper) (mem : List Bool) (Mc : List (Nat × AO)) (nk0 k : Nat) (l : List Oper) (σ : St) (Q : Exit → St → Prop) : Prop := ∃ σ', DM P C ops mem Mc nk0 k l σ σ' ∧ Q .normal σ'
section
variable {P : Program} {C : Cx} {σ : St} {ops : Array Oper} {l rest : List Oper} {o : Oper} {d : Tmp} {av : AV} {Q : Exit → St → Prop}
theorem W.drawK {id : Nat} (hm : P.follows .mixedOrders = true) (hB : Region.lexB .any l.toArray = true) (h : DK P C l.toArray l σ Q) : W P C (.region id l.toArray true) σ Q :=
  let ⟨_, a, b⟩ := h; W.draw hm hB a b
theorem DK.nil (k : Q .normal σ) : DK P C ops [] σ Q := ⟨σ, .nil σ, k⟩
theorem DK.op (hd : o.dst = some d) (hN : Nat.blt d C.N = true) (h : Does P C ops o σ av) (k : DK P C ops rest (σ.put d av) Q) : DK P C ops (o :: rest) σ Q :=
  let ⟨s, a, b⟩ := k; ⟨s, .op o rest d av σ s hd hN h a, b⟩
theorem DK.val (hd : o.dst = some d) (hN : Nat.blt d C.N = true) (hg : guardK ops o (σ.only (o.looksAt ops)) = some true) (h : WV P C o (σ.only (o.looksAt ops)) av) (k : DK P C ops rest (σ.put d av) Q) : DK P C ops (o :: rest) σ Q := DK.op hd hN (.inl ⟨hg, h⟩) k
theorem DK.no (hd : o.dst = some d) (hN : Nat.blt d C.N = true) (hg : guardK ops o (σ.only (o.looksAt ops)) = some false) (k : DK P C ops rest (σ.put d (.sc undef)) Q) : DK P C ops (o :: rest) σ Q := DK.op hd hN (.inr ⟨hg, rfl⟩) k
theorem W.drawMK {id : Nat} (mem : List Bool) (Mc : List (Nat × AO)) (hm : P.follows .mixedOrders = true) (hB : Region.lexB .any l.toArray = true) (hch : chainB l.toArray mem = true) (hMc : msSub Mc σ.M) (h : DMK P C l.toArray mem Mc σ.nk 0 l σ Q) : W P C (.region id l.toArray true) σ Q :=
  let ⟨_, a, b⟩ := h; W.drawM mem Mc hm hB hch hMc a b
variable {mem : List Bool} {Mc : List (Nat × AO)} {nk0 k : Nat}
theorem DMK.nil (h : Q .normal σ) : DMK P C ops mem Mc nk0 k [] σ Q := ⟨σ, .nil k σ, h⟩
theorem DMK.val (hm : mem.getD k false = false) (hd : o.dst = some d) (hN : Nat.blt d C.N = true) {nk : Nat} (hk : nk = nk0 ∨ (nk = σ.nk ∧ behindB ops mem k = true)) (h : DoesV P C ops o σ.t Mc nk av) (r : DMK P C ops mem Mc nk0 (k + 1) rest (σ.put d av) Q) : DMK P C ops mem Mc nk0 k (o :: rest) σ Q :=
  let ⟨s, a, b⟩ := r; ⟨s, .val k o rest d av nk σ s hm hd hN hk h a, b⟩
theorem DMK.wr {M' : List (Nat × AO)} {nk' : Nat} (hm : mem.getD k false = true) (hd : o.dst = some d) (hn : Nat.ble σ.nk nk' = true) (hs : msSub Mc M') (h : DoesM P C ops o σ d av M' nk') (r : DMK P C ops mem Mc nk0 (k + 1) rest ⟨(d, av) :: σ.t, M', nk'⟩ Q) : DMK P C ops mem Mc nk0 k (o :: rest) σ Q :=
  let ⟨s, a, b⟩ := r; ⟨s, .mem k o rest d av M' nk' σ s hm hd hn hs h a, b⟩
end
end Go.Proofs.YtkgnmddakiagbaaGreatDoor
namespace Go.Proofs.YtkgnmddakiagbaaGreatDoor
open Go.RowKit
theorem flat_rep (z : Value) : ∀ k : Nat, (List.replicate k [z]).flatten = List.replicate k z
  | 0 => rfl
  | k + 1 => by rw [List.replicate_succ, List.replicate_succ, List.flatten_cons, flat_rep z k]; rfl
section
variable {P : Program} {C : Cx} {σ : St} {o : Oper} {d : Tmp}
theorem WO.make1 {T e q k : Nat} {z : Value} {i : TypeInfo} {x y : Operand} (ho : o.op = .makeSlice T x y) (hT : P.underlying T = some (.slice e)) (hi : P.info? e = some i) (hz : i.zero = some z) (hn : i.size = 1) (hby : Nat.ble i.bytes 1000 = true)
    (hc : ∀ k, (madeCells z.cells (k * 1)).toList = List.replicate k z) (hz1 : z.oneCell' = true) (hds : o.dst = some d) (hd : Nat.blt d C.N = true) (hx : σ.ev x = some (.sc (.int .i64 (k : Nat)))) (hy : σ.ev y = some (.sc (.int .i64 (k : Nat)))) (hk : k ≤ 1000000) (hq : σ.nk = q) :
    WO P C o σ ((σ.new (.row e 1 (List.replicate k [.sc z]))).put d (.sl q)) := by
  intro G a w ok N Q' hN
  have hb := Nat.le_of_ble_eq_true hby
  have hbk : i.bytes * k ≤ 281474976710656 := Nat.le_trans (Nat.mul_le_mul hb hk) (by decide)
  obtain ⟨w', hrun, hown, hgr⟩ := run_makeSlice_full (P := P) w C.w0.heap.size T e i z 1 hT hi hz hn .i64 .i64 k (by omega) hbk (by unfold maxLen; omega) ok.bel.size
  have hl : (List.replicate k [z]).length = k := by simp
  have hsl : (.slice (some ⟨w.heap.size, 0, none⟩) k k : Value).ownBlock = some w.heap.size := rfl
  have hlt : w.heap.size < w'.heap.size := by
    rcases hown.2 with ⟨e, _⟩ | ⟨g, cap, cur, e, _, hh, _⟩
    · cases e
    · obtain rfl : w.heap.size = g := by injection e with e _ _; injection e with e; injection e
      exact (Array.getElem?_eq_some_iff.1 hh).1
  have ok' := ok.newObj (w' := w') (S := fun _ => False) (b := w.heap.size) (n := 1) (h := .slice (some ⟨w.heap.size, 0, none⟩) k k) (φ := fun x => x = w.heap.size) (ob := .row e 1 (List.replicate k [.sc z]))
    ⟨hgr.os, hgr.tape, hgr.output, hgr.size, fun x h1 _ => hgr.block x h1 (by simp)⟩ (fun _ h => h.elim) (fun _ _ _ _ _ h => h) (fun _ _ _ h => h)
    ⟨with_n, (fun g hg => by rw [with_h, hsl] at hg; rw [with_b]; exact (Option.some.inj hg).symm), by
      rw [with_h, with_f]
      refine ⟨fun r hr => by rw [List.eq_of_mem_replicate hr]; rfl, List.replicate k [z], fun _ _ _ => False, by rw [hl, flat_rep, ← hc k]; exact own_weaken hown (Nat.zero_le _), by simp, ?_, fun g hg => by rw [hsl] at hg; exact (Option.some.inj hg).symm,
        fun _ _ _ h => h.elim, fun _ _ _ _ _ h => h.elim, fun j r r' h1 h2 => ?_, fun j r r' q av u h1 h2 h3 h4 => ?_⟩
      · intro r hr u hu
        rw [List.eq_of_mem_replicate hr] at hu
        obtain rfl : u = z := by simpa using hu
        exact hz1
      · rw [List.eq_of_mem_replicate (List.mem_of_getElem? h1), List.eq_of_mem_replicate (List.mem_of_getElem? h2)]; rfl
      · rw [List.eq_of_mem_replicate (List.mem_of_getElem? h1)] at h3
        rw [List.eq_of_mem_replicate (List.mem_of_getElem? h2)] at h4
        match q with
        | 0 => cases h3; cases h4; exact .sc _
        | q + 1 => simp at h3⟩ trivial (fun x hx => by
      obtain rfl : x = w.heap.size := hx
      refine ⟨.inl ok.bel.size, hlt, fun k o h1 h2 => ?_, fun p u h1 h2 => ?_⟩
      · have := (ok.my k o _ h1 h2).2; omega
      · have := cell_block (ok.fw p u h1); omega)
  unfold Oper.wp execOp
  simp only [ho, ok.evs hx, ok.evs hy, Sem.run_bind, hrun, Result.andThen_ok, Sem.run_pure, Oper.upon]
  rw [hds]
  subst hq
  exact hN _ _ _ (ok'.set (d := some d) (av := .sl σ.nk) (v := .slice (some ⟨w.heap.size, 0, none⟩) k k) (with_sl rfl) (.sl _ (Nat.lt_succ_self _)) fun x hx => by cases hx; exact of_blt hd)
end
end Go.Proofs.YtkgnmddakiagbaaGreatDoor
namespace Go.Proofs.YtkgnmddakiagbaaGreatDoor
open Go.RowKit
def lkIf (ok : Bool) (i c what : Int) : List Lck := if ok then [] else [(i, c, what)]
def hasS (s n : Int) : Bool := if s = 3 then n != 8 else if s = 4 then n == 8 else true
def lackStop (s i : Int) (L : Int → Nat) (x : Stp) : List Lck :=
  if pOk s x.1 x.2.1 = false then [(i, x.1, 1)] else lkIf (okR s x.2.2.1) i x.1 2 ++ (lkIf (okG s x.2.2.2.1) i x.1 3 ++ lkIf (okH s x.2.2.2.2 (L x.1)) i x.1 4)
def lackHead (s i : Int) (e : Ev) : List Lck :=
  (if e.val = 0 then lkIf (hasS s 6) i 0 6 else []) ++ ((if e.three = true then lkIf (hasS s 5) i 0 5 else []) ++ (if e.tie = true then lkIf (hasS s 7) i 0 7 else if e.stops.length = 0 then lkIf (hasS s 8) i 0 8 else []))
def lackE (s : Int) (p : Pce) (i : Int) (e : Ev) : List Lck := lackHead s i e ++ e.stops.flatMap (lackStop s i fun c => longestN p.evs i c)
theorem lkIf_len (ok : Bool) (i c what : Int) : (lkIf ok i c what).length ≤ 1 := by unfold lkIf; split <;> simp
theorem lackStop_len (s i : Int) (L : Int → Nat) (x : Stp) : (lackStop s i L x).length ≤ 3 := by
  unfold lackStop
  split
  · simp
  · have a := lkIf_len (okR s x.2.2.1) i x.1 2
    have b := lkIf_len (okG s x.2.2.2.1) i x.1 3
    have c := lkIf_len (okH s x.2.2.2.2 (L x.1)) i x.1 4
    simp only [List.length_append]; omega
theorem flat_len (s i : Int) (L : Int → Nat) : ∀ l : List Stp, (l.flatMap (lackStop s i L)).length ≤ 3 * l.length := by
  intro l
  induction l with
  | nil => simp
  | cons x r ih => have := lackStop_len s i L x; simp only [List.flatMap_cons, List.length_append, List.length_cons]; omega
theorem flat_snoc (s i : Int) (L : Int → Nat) (l : List Stp) (k : Nat) (h : k < l.length) : (l.take (k + 1)).flatMap (lackStop s i L) = (l.take k).flatMap (lackStop s i L) ++ lackStop s i L l[k] := by
  rw [List.take_succ_eq_append_getElem h, List.flatMap_append]; simp
theorem say_any (ok : Bool) (c what ev : Int) (b be B0 : Nat) (l : List Lck) (w : World) (h : SayAt w B0 b l) (hev : w.cell? ⟨be, 0, none⟩ = some (.int .i64 ev)) (hb : b < B0) (hB : B0 ≤ w.heap.size) (hl : l.length ≤ 32000) :
    Calls Tryz.prog 184 #[.bool ok, .int .i64 c, .int .i64 what, .pointer (some ⟨b, 0, none⟩), .pointer (some ⟨be, 0, none⟩)] w (SayPost B0 b (l ++ lkIf ok ev c what) w) := by
  cases ok
  · exact say_no c what ev b be B0 l w h hev hb hB hl
  · have e : l ++ lkIf true ev c what = l := by simp [lkIf]
    rw [e]; exact say_ok c what b be B0 l w h
structure LkSt (w : World) (P E : Array Value) (i : Int) (l : List Lck) (wx : World) : Prop where
  bel : Below w.heap.size w wx
  bp : Blk wx w.heap.size 29 P
  bi : Blk wx (w.heap.size + 1) 3 #[.int .i64 i]
  be : Blk wx (w.heap.size + 3) 78 E
  say : SayAt wx (w.heap.size + 3) (w.heap.size + 2) l
theorem LkSt.after {w wx w' : World} {P E : Array Value} {i : Int} {l : List Lck} (h : LkSt w P E i l wx) (hb : Below wx.heap.size wx w') : LkSt w P E i l w' :=
  ⟨h.bel.trans (hb.mono h.bel.size), h.bp.after hb, h.bi.after hb, h.be.after hb, h.say.after hb⟩
theorem LkSt.said {w wx w' : World} {P E : Array Value} {i : Int} {l l' : List Lck} {e : Ending} (h : LkSt w P E i l wx) (hb : SayPost (w.heap.size + 3) (w.heap.size + 2) l' wx e w') : LkSt w P E i l' w' :=
  ⟨h.bel.trans (hb.2.2.1.mono (by omega)), hb.2.2.2.2 _ _ _ h.bp (by omega) (by decide), hb.2.2.2.2 _ _ _ h.bi (by omega) (by decide), hb.2.2.2.2 _ _ _ h.be (by omega) (by decide), hb.2.1⟩
theorem LkSt.ask {w wx : World} {P E : Array Value} {i : Int} {l : List Lck} (h : LkSt w P E i l wx) (ok : Bool) (c what : Int) (hl : l.length ≤ 32000) :
    Calls Tryz.prog 184 #[.bool ok, .int .i64 c, .int .i64 what, .pointer (some ⟨w.heap.size + 2, 0, none⟩), .pointer (some ⟨w.heap.size + 1, 0, none⟩)] wx (SayPost (w.heap.size + 3) (w.heap.size + 2) (l ++ lkIf ok i c what) wx) :=
  say_any ok c what i _ _ _ l wx h.say (h.bi.cell 0) (by omega) (Nat.le_of_lt h.be.lt) hl
def StopsIn (e : Ev) : Prop :=
  ∀ k (h : k < e.stops.length), (1 ≤ e.stops[k].1 ∧ e.stops[k].1 ≤ 14) ∧ (0 ≤ e.stops[k].2.1 ∧ e.stops[k].2.1 ≤ 18) ∧ (0 ≤ e.stops[k].2.2.1 ∧ e.stops[k].2.2.1 ≤ 3) ∧ (0 ≤ e.stops[k].2.2.2.1 ∧ e.stops[k].2.2.2.1 ≤ 4) ∧ (0 ≤ e.stops[k].2.2.2.2 ∧ e.stops[k].2.2.2.2 ≤ 15)
def LkPost (l : List Lck) (W : World) (e : Ending) (w' : World) : Prop :=
  ∃ A d, e = .returned (.slice A l.length d) ∧ Below W.heap.size W w' ∧ Rd w' w'.heap.size 3 A (l.map lckCells) ∧ (∀ ad, A = some ad → W.heap.size ≤ ad.block) ∧ l.length ≤ d
def lk1 (s i v : Int) : List Lck := if v = 0 then lkIf (hasS s 6) i 0 6 else []
def lk2 (s i : Int) (t : Bool) : List Lck := if t = true then lkIf (hasS s 5) i 0 5 else []
def lk3 (s i : Int) (t : Bool) (n : Nat) : List Lck := if t = true then lkIf (hasS s 7) i 0 7 else if n = 0 then lkIf (hasS s 8) i 0 8 else []
theorem lk1_len (s i v : Int) : (lk1 s i v).length ≤ 1 := by unfold lk1; split; exact lkIf_len _ _ _ _; simp
theorem lk2_len (s i : Int) (t : Bool) : (lk2 s i t).length ≤ 1 := by unfold lk2; split; exact lkIf_len _ _ _ _; simp
theorem lk3_len (s i : Int) (t : Bool) (n : Nat) : (lk3 s i t n).length ≤ 1 := by
  unfold lk3; split
  · exact lkIf_len _ _ _ _
  · split; exact lkIf_len _ _ _ _; simp
theorem lackE_eq (s : Int) (p : Pce) (i : Int) (e : Ev) : lackE s p i e = (lk1 s i e.val ++ (lk2 s i e.three ++ lk3 s i e.tie e.stops.length)) ++ e.stops.flatMap (lackStop s i fun c => longestN p.evs i c) := rfl
def lkW (w : World) (P E : Array Value) (i : Int) : World := (((w.alloc (.cells P 29)).alloc (.cells #[.int .i64 i] 3)).alloc (.cells #[.slice none 0 0] 103)).alloc (.cells E 78)
theorem LkSt.start (w : World) (P E : Array Value) (i : Int) : LkSt w P E i [] (lkW w P E i) := by
  have n1 : ∀ (w : World) (o : Obj), (w.alloc o).heap.size = w.heap.size + 1 := fun w o => by simp
  unfold lkW
  have b0 := ((((Blk.new w 29 P).alloc (.cells #[.int .i64 i] 3)).alloc (.cells #[.slice none 0 0] 103)).alloc (.cells E 78))
  have b1 := (((Blk.new (w.alloc (.cells P 29)) 3 #[.int .i64 i]).alloc (.cells #[.slice none 0 0] 103)).alloc (.cells E 78))
  have b2 := ((Blk.new ((w.alloc (.cells P 29)).alloc (.cells #[.int .i64 i] 3)) 103 #[.slice none 0 0]).alloc (.cells E 78))
  have b3 := (Blk.new (((w.alloc (.cells P 29)).alloc (.cells #[.int .i64 i] 3)).alloc (.cells #[.slice none 0 0] 103)) 78 E)
  rw [n1] at b1
  rw [n1, n1] at b2
  rw [n1, n1, n1] at b3
  exact ⟨(by repeat (first | exact Below.refl _ _ | assumption | refine bel_drewN ?_ _ | refine Below.drew ?_ | refine bel_alloc ?_ _ | refine Below.setCell ?_ (by first | omega | (simp; done) | (simp; omega)) _ | refine bel_step ?_ (by assumption))), b0, b1, b3, SayAt.start _ _ _ b2⟩
end Go.Proofs.YtkgnmddakiagbaaGreatDoor
namespace Go.Proofs.YtkgnmddakiagbaaGreatDoor
open Go.RowKit
theorem crsE_fr {st : List Int} : ∀ {cs : List (Int × Int × Bool)}, crsE st cs = 0 → ∀ k (h : k < cs.length), 0 ≤ cs[k].2.1 ∧ cs[k].2.1 ≤ st.length := by
  intro cs
  induction cs with
  | nil => intro _ k h; simp at h
  | cons x r ih =>
    intro h k hk
    unfold crsE at h
    by_cases h1 : x.2.1 < 0 ∨ (st.length : Int) < x.2.1
    · rw [if_pos h1] at h; cases h
    · rw [if_neg h1] at h
      by_cases h2 : (x.1 < 0 ∨ 127 < x.1) ∨ 127 < topOf st x
      · rw [if_pos h2] at h; cases h
      · rw [if_neg h2] at h
        cases k with
        | zero => simp; omega
        | succ k => simpa using ih h k (by simpa using hk)
theorem stopE_bd {p : Pce} {i last : Int} {s : Stp} (hI : insE p.cs p.st = 0) (h : stopE p i s last = 0) :
    (1 ≤ s.1 ∧ s.1 ≤ 14) ∧ (0 ≤ s.2.1 ∧ s.2.1 ≤ 18) ∧ (0 ≤ s.2.2.1 ∧ s.2.2.1 ≤ 3) ∧ (0 ≤ s.2.2.2.1 ∧ s.2.2.2.1 ≤ 4) ∧ (0 ≤ s.2.2.2.2 ∧ s.2.2.2.2 ≤ 15) := by
  obtain ⟨l1, l2, l3, _, l5⟩ := insE_len hI
  unfold stopE at h
  by_cases h1 : s.1 < 1 ∨ (p.cs.length : Int) < s.1
  · rw [if_pos h1] at h; cases h
  · rw [if_neg h1] at h
    by_cases h2 : s.2.1 < 0 ∨ fretsOf p.cs s.1 < s.2.1
    · rw [if_pos h2] at h; cases h
    · rw [if_neg h2] at h
      by_cases h3 : s.1 ≤ last
      · rw [if_pos h3] at h; cases h
      · rw [if_neg h3] at h
        by_cases h4 : (s.2.2.1 < 0 ∨ 3 < s.2.2.1) ∨ (s.2.2.2.1 < 0 ∨ 4 < s.2.2.2.1)
        · rw [if_pos h4] at h; cases h
        · rw [if_neg h4] at h
          by_cases h5 : (s.2.2.2.2 < 0 ∨ (longestN p.evs i s.1 : Int) < s.2.2.2.2) ∨ (0 < s.2.2.2.2 ∧ s.2.1 = 0)
          · rw [if_pos h5] at h; cases h
          · have hL := longestN_le p.evs i s.1
            have hk : s.1.toNat - 1 < p.cs.length := by omega
            have hf : fretsOf p.cs s.1 = p.cs[s.1.toNat - 1].2.1 := by
              have := fretsOf_at hk
              rw [← this]; congr 1; omega
            have := crsE_fr l5 _ hk
            refine ⟨⟨by omega, by omega⟩, ⟨by omega, by omega⟩, ⟨by omega, by omega⟩, ⟨by omega, by omega⟩, by omega, by omega⟩
theorem stopsE_bd {p : Pce} {i : Int} (hI : insE p.cs p.st = 0) : ∀ {l : List Stp} {last : Int}, stopsE p i last l = 0 → ∀ k (h : k < l.length), ∃ la, stopE p i l[k] la = 0 := by
  intro l
  induction l with
  | nil => intro _ _ k h; simp at h
  | cons x r ih =>
    intro last h k hk
    unfold stopsE at h
    by_cases h1 : stopE p i x last ≠ 0
    · rw [if_pos h1] at h; exact absurd h h1
    · rw [if_neg h1] at h
      cases k with
      | zero => exact ⟨last, by simpa using h1⟩
      | succ k => simpa using ih h k (by simpa using hk)
theorem evsE_bd {p : Pce} : ∀ {l : List Ev} {n : Nat}, evsE p n l = 0 → ∀ k (h : k < l.length), evE p ((n + k : Nat) : Int) l[k] = 0 := by
  intro l
  induction l with
  | nil => intro _ _ k h; simp at h
  | cons x r ih =>
    intro n h k hk
    unfold evsE at h
    by_cases h1 : evE p n x ≠ 0
    · rw [if_pos h1] at h; exact absurd h h1
    · rw [if_neg h1] at h
      cases k with
      | zero => simpa using h1
      | succ k =>
        have := ih h k (by simpa using hk)
        rw [show n + 1 + k = n + (k + 1) by omega] at this
        simpa using this
theorem pceE_zero {p : Pce} (h : pceE p = 0) : insE p.cs p.st = 0 ∧ p.evs.length ≤ 400 ∧ ∀ k (hk : k < p.evs.length), evE p k p.evs[k] = 0 := by
  unfold pceE at h
  by_cases h1 : insE p.cs p.st ≠ 0
  · rw [if_pos h1] at h; exact absurd h h1
  · rw [if_neg h1] at h
    by_cases h2 : 400 < p.evs.length
    · rw [if_pos h2] at h; cases h
    · rw [if_neg h2] at h
      refine ⟨by simpa using h1, by omega, fun k hk => ?_⟩
      have := evsE_bd h k hk
      simpa using this
theorem evE_zero {p : Pce} {i : Int} {e : Ev} (h : evE p i e = 0) : sgOk e.val e.dot e.three = true ∧ ¬ (i = 0 ∧ e.val = 0) ∧ ¬ (e.tie = true ∧ (0 < e.stops.length ∨ i = 0)) ∧ stopsE p i 0 e.stops = 0 := by
  unfold evE at h
  by_cases h1 : sgOk e.val e.dot e.three = false ∨ (i = 0 ∧ e.val = 0)
  · rw [if_pos h1] at h; cases h
  · rw [if_neg h1] at h
    by_cases h2 : e.tie = true ∧ (0 < e.stops.length ∨ i = 0)
    · rw [if_pos h2] at h; cases h
    · rw [if_neg h2] at h
      refine ⟨?_, fun x => h1 (.inr x), h2, h⟩
      cases hs : sgOk e.val e.dot e.three with
      | true => rfl
      | false => exact absurd (.inl hs) h1
theorem stopsIn_of {p : Pce} (h : pceE p = 0) (k : Nat) (hk : k < p.evs.length) : StopsIn p.evs[k] := by
  obtain ⟨h1, h2, h3⟩ := pceE_zero h
  intro j hj
  obtain ⟨la, hla⟩ := stopsE_bd h1 (evE_zero (h3 k hk)).2.2.2 j hj
  exact stopE_bd h1 hla
def lksTo (s : Int) (p : Pce) : Nat → List Lck
  | 0 => []
  | k + 1 => lksTo s p k ++ (match p.evs[k]? with | some e => lackE s p k e | none => [])
theorem lksTo_at (s : Int) (p : Pce) {k : Nat} (h : k < p.evs.length) : lksTo s p (k + 1) = lksTo s p k ++ lackE s p k p.evs[k] := by
  show lksTo s p k ++ _ = _
  rw [List.getElem?_eq_getElem h]
theorem lackE_len (s : Int) (p : Pce) (i : Int) (e : Ev) (h : e.stops.length ≤ 20) : (lackE s p i e).length ≤ 63 := by
  rw [lackE_eq]
  have a := lk1_len s i e.val
  have b := lk2_len s i e.three
  have c := lk3_len s i e.tie e.stops.length
  have d := flat_len s i (fun c => longestN p.evs i c) e.stops
  simp only [List.length_append]; omega
theorem lksTo_len (s : Int) {p : Pce} (hO : PcOk p) : ∀ k, k ≤ p.evs.length → (lksTo s p k).length ≤ 27000 := by
  have hn := hO.n3
  have : ∀ k, k ≤ p.evs.length → (lksTo s p k).length ≤ 63 * k := by
    intro k
    induction k with
    | zero => intro _; simp [lksTo]
    | succ k ih =>
      intro hk
      rw [lksTo_at s p (by omega), List.length_append]
      have := ih (by omega)
      have := lackE_len s p k p.evs[k] (hO.n4 k (by omega))
      omega
  intro k hk
  have := this k hk
  omega
end Go.Proofs.YtkgnmddakiagbaaGreatDoor
namespace Go.Proofs.YtkgnmddakiagbaaGreatDoor
open Go.RowKit
structure StpOk (p : Pce) (k : Nat) (x : Stp) : Prop where
  crs : 1 ≤ x.1 ∧ x.1 ≤ p.cs.length
  c14 : x.1 ≤ 14
  fret : 0 ≤ x.2.1 ∧ x.2.1 ≤ fretsOf p.cs x.1
  f18 : x.2.1 ≤ 18
  hold : 0 ≤ x.2.2.2.2 ∧ x.2.2.2.2 ≤ longestN p.evs k x.1
  h0 : 0 < x.2.2.2.2 → x.2.1 ≠ 0
theorem stpOk_of {p : Pce} {i : Nat} {last : Int} {s : Stp} (hI : insE p.cs p.st = 0) (h : stopE p i s last = 0) : StpOk p i s ∧ last < s.1 := by
  have hb := stopE_bd hI h
  unfold stopE at h
  by_cases h1 : s.1 < 1 ∨ (p.cs.length : Int) < s.1
  · rw [if_pos h1] at h; cases h
  · rw [if_neg h1] at h
    by_cases h2 : s.2.1 < 0 ∨ fretsOf p.cs s.1 < s.2.1
    · rw [if_pos h2] at h; cases h
    · rw [if_neg h2] at h
      by_cases h3 : s.1 ≤ last
      · rw [if_pos h3] at h; cases h
      · rw [if_neg h3] at h
        by_cases h4 : (s.2.2.1 < 0 ∨ 3 < s.2.2.1) ∨ (s.2.2.2.1 < 0 ∨ 4 < s.2.2.2.1)
        · rw [if_pos h4] at h; cases h
        · rw [if_neg h4] at h
          by_cases h5 : (s.2.2.2.2 < 0 ∨ (longestN p.evs i s.1 : Int) < s.2.2.2.2) ∨ (0 < s.2.2.2.2 ∧ s.2.1 = 0)
          · rw [if_pos h5] at h; cases h
          · exact ⟨⟨by omega, by omega, by omega, by omega, by omega, by omega⟩, by omega⟩
theorem stopsE_ok {p : Pce} {i : Nat} (hI : insE p.cs p.st = 0) : ∀ {l : List Stp} {last : Int}, stopsE p i last l = 0 → (∀ x ∈ l, StpOk p i x ∧ last < x.1) ∧ l.Pairwise fun x y => x.1 < y.1 := by
  intro l
  induction l with
  | nil => intro _ _; exact ⟨fun x hx => (by cases hx), .nil⟩
  | cons x r ih =>
    intro last h
    unfold stopsE at h
    by_cases h1 : stopE p i x last ≠ 0
    · rw [if_pos h1] at h; exact absurd h h1
    · rw [if_neg h1] at h
      have hx := stpOk_of hI (by simpa using h1 : stopE p i x last = 0)
      obtain ⟨q1, q2⟩ := ih h
      refine ⟨fun y hy => ?_, .cons (fun y hy => (q1 y hy).2) q2⟩
      rcases List.mem_cons.1 hy with rfl | hy
      · exact hx
      · exact ⟨(q1 y hy).1, by have := (q1 y hy).2; omega⟩
structure EvOk (p : Pce) (k : Nat) (e : Ev) : Prop where
  sg : sgOk e.val e.dot e.three = true
  first : ¬ ((k : Int) = 0 ∧ e.val = 0)
  tie : e.tie = true → e.stops = [] ∧ 0 < k
  stops : ∀ x ∈ e.stops, StpOk p k x
  asc : e.stops.Pairwise fun x y => x.1 < y.1
theorem evOk_of {p : Pce} (h : pceE p = 0) {k : Nat} (hk : k < p.evs.length) : EvOk p k p.evs[k] := by
  obtain ⟨h1, h2, h3⟩ := pceE_zero h
  obtain ⟨a, b, c, d⟩ := evE_zero (h3 k hk)
  obtain ⟨q1, q2⟩ := stopsE_ok h1 d
  refine ⟨a, b, fun ht => ?_, fun x hx => (q1 x hx).1, q2⟩
  have : ¬ (0 < p.evs[k].stops.length ∨ (k : Int) = 0) := fun hh => c ⟨ht, hh⟩
  exact ⟨List.eq_nil_of_length_eq_zero (by omega), by omega⟩
theorem runL_le' (c : Int) : ∀ (n : Nat) (l : List Ev), runL c n l ≤ l.length := by
  intro n
  induction n with
  | zero => intro l; unfold runL; first | exact Nat.zero_le _ | (split <;> exact Nat.zero_le _)
  | succ n ih =>
    intro l
    cases l with
    | nil => simp [runL]
    | cons e r =>
      unfold runL
      split
      · exact Nat.zero_le _
      · have := ih r; simp; omega
theorem longestN_end {evs : List Ev} {i : Nat} (h : i < evs.length) (c : Int) : i + longestN evs i c + 1 ≤ evs.length := by
  unfold longestN
  rw [if_neg (by omega)]
  have := runL_le' c 15 (evs.drop ((i : Int).toNat + 1))
  simp only [Int.toNat_natCast, List.length_drop] at this ⊢
  omega
end Go.Proofs.YtkgnmddakiagbaaGreatDoor
