/- Names of notes, the text of an instrument: the program. -/
import Derived.Test.YtkgnmddakiagbaaGreatDoorSpYq
import Derived.Test.YtkgnmddakiagbaaGreatDoorRRtYq
import Derived.Test.YtkgnmddakiagbaaGreatDoorESYq
import Derived.Test.YtkgnmddakiagbaaGreatDoorBwYq
set_option linter.unusedVariables false
set_option linter.unusedSimpArgs false
namespace Go.Proofs.YtkgnmddakiagbaaGreatDoor
open Go.RowKit
def tabB (w : World) (F : View) : Prop :=
  (∀ (i : Nat) v, ftL[i]? = some v → F ⟨0, i, none⟩ = some (.int .i64 v)) ∧ (∀ (i : Nat) v, bsL[i]? = some v → F ⟨1, i, none⟩ = some (.int .i64 v)) ∧
  Lib.TabIs Tryz.prog w "internal/strconv.uint64pow10" .u64 Lib.pow10Tab
def gloB : Nat := 3 + 1
theorem pow10_at : Tryz.prog.globalNamed "internal/strconv.uint64pow10" = some 3 := by kernel_rfl
theorem var_some {w : World} {cs : Array Value} (h : w.var? Tryz.prog "internal/strconv.uint64pow10" = some cs) : gloB ≤ w.heap.size := by
  unfold World.var? at h
  rw [pow10_at] at h
  rcases Nat.lt_or_ge 3 w.heap.size with h1 | h1
  · exact h1
  · simp [Array.getElem?_eq_none h1] at h
theorem stabB : Stab tabB gloB := ⟨fun w F h => var_some h.2.2, fun w w' F F' hb hF h => ⟨fun i v x => hF _ _ (h.1 i v x), fun i v x => hF _ _ (h.2.1 i v x), by
  have h3 := h.2.2
  unfold Lib.TabIs World.var? at h3 ⊢
  rw [pow10_at] at h3 ⊢
  simp only [Option.bind_some] at h3 ⊢
  rw [hb _ (Nat.lt_succ_self _)]; exact h3⟩⟩
theorem tab_fifths {z : Int} (h : 0 ≤ z ∧ z ≤ 6) : ∀ w F, tabB w F → F ⟨0, z.toNat, none⟩ = some (.int .i64 (ftV z)) := fun w F hB => hB.1 _ _ (ftV_at h)
theorem tab_bases {z : Int} (h : 0 ≤ z ∧ z ≤ 6) : ∀ w F, tabB w F → F ⟨1, z.toNat, none⟩ = some (.int .i64 (basV z)) := fun w F hB => hB.2.1 _ _ (basV_at h)
theorem Ctg.of_sc {B : World → View → Prop} {P : Program} {f : FuncId} {args : List AV} {xs : List Value} {res : AV} {v : Value} (hs : scs args = some xs) (hv : ∀ F, RP F res v) (h : ∀ w F, B w F → Calls P f xs.toArray w (Ret v w)) : Ctg B P f args res := by
  intro w F vs hB hF hR
  have : vs = xs := scs_of (G := ⟨F, fun _ => 0, fun _ => 0, fun _ => undef, fun _ _ => False⟩) hs hR.1 fun i av u a b => .pu _ _ (hR.2 i av u a b)
  subst this
  exact (h w F hB).mono fun e w' ⟨he, hb⟩ => ⟨v, F, he, hb, fun _ _ h => h, fun p u x => by rw [hb.cell (cell_block (hF p u x))]; exact hF p u x, fun _ _ h => .inl h, hv F⟩
theorem itoa_G (n : Int) (h : I64 n) : Ctg tabB Tryz.prog 76 [.sc (.int .i64 n)] (.sc (.string (bs (Lib.itoa n)))) :=
  Ctg.of_sc (v := .string (bs (Lib.itoa n))) rfl (fun _ => .sc _) fun w F hB => (Tryz.strconv_Itoa n h.1 (by have := h.2; omega) w hB.2.2).mono fun e w' ⟨he, k, os, hw⟩ => ⟨he, by
    subst hw
    refine ⟨rfl, rfl, rfl, ?_, fun i hi => ?_⟩
    · show w.heap.size ≤ (w.heap ++ os).size
      rw [Array.size_append]; omega
    · show (w.heap ++ os)[i]? = w.heap[i]?
      rw [Array.getElem?_append_left hi]⟩
end Go.Proofs.YtkgnmddakiagbaaGreatDoor
namespace Go.Proofs.YtkgnmddakiagbaaGreatDoor
open Go.RowKit
def locK {α : Type} [DecidableEq α] (k : α) : Nat → List (α × Value) → Option (Nat × Value)
  | _, [] => none
  | i, x :: r => if k = x.1 then some (i, x.2) else locK k (i + 1) r
def lookK {α : Type} [DecidableEq α] (z : Value) (k : α) (l : List (α × Value)) : Value := ((locK k 0 l).map (·.2)).getD z
def updK {α : Type} [DecidableEq α] (k : α) (v : Value) : List (α × Value) → List (α × Value)
  | [] => [(k, v)]
  | x :: r => if k = x.1 then (k, v) :: r else x :: updK k v r
structure KeyK (P : Program) (kt : TypeId) {α : Type} [DecidableEq α] (enc : α → Value) : Prop where
  chk : ∀ w b k, (Instr.checkKey b 10000 kt (enc k)).run P w = .ok () w
  fnd : ∀ w k (es : List MapEntry) (l : List (α × Value)), es.map (fun e => (e.key, e.val)) = l.map (fun x => (enc x.1, x.2)) → (Instr.findKey kt (enc k) es).run P w = .ok (locK k 0 l) w
  bits : ∀ k, Instr.sameBits 10000 (enc k) (enc k) = true
def mapIs {α : Type} (enc : α → Value) (l : List (α × Value)) (w : World) (b : Nat) : Prop :=
  ∃ es clock, w.heap[b]? = some (.map es clock) ∧ es.toList.map (fun e => (e.key, e.val)) = l.map fun x => (enc x.1, x.2)
def mapQ {α : Type} (enc : α → Value) (l : List (α × Value)) : Opq :=
  ⟨fun w b v φ => v = .map (some b) ∧ φ b ∧ mapIs enc l w b, fun w w' b v φ h ⟨h1, h2, es, c, h3, h4⟩ => ⟨h1, h2, es, c, (h b h2).trans h3, h4⟩⟩
theorem locK_shift {α : Type} [DecidableEq α] (k : α) : ∀ (l : List (α × Value)) (i n : Nat), locK k (i + n) l = (locK k i l).map fun x => (x.1 + n, x.2)
  | [], i, n => rfl
  | x :: r, i, n => by
    unfold locK
    split
    · rfl
    · rw [show i + n + 1 = (i + 1) + n by omega]; exact locK_shift k r (i + 1) n
theorem upd_none {α : Type} [DecidableEq α] (k : α) (v : Value) : ∀ (l : List (α × Value)) (i : Nat), locK k i l = none → updK k v l = l ++ [(k, v)]
  | [], i, _ => rfl
  | x :: r, i, h => by
    unfold locK at h
    split at h
    · cases h
    · rename_i hne
      unfold updK
      rw [if_neg hne, upd_none k v r (i + 1) h]; rfl
theorem upd_some {α : Type} [DecidableEq α] (enc : α → Value) (k : α) (v : Value) : ∀ (l : List (α × Value)) (es : List MapEntry) (i : Nat) (u : Value), locK k 0 l = some (i, u) → es.map (fun e => (e.key, e.val)) = l.map (fun x => (enc x.1, x.2)) →
    (es.modify i fun e => { e with key := enc k, val := v }).map (fun e => (e.key, e.val)) = (updK k v l).map (fun x => (enc x.1, x.2)) ∧ ((es[i]?).map (·.key)) = some (enc k)
  | [], es, i, u, h, _ => by cases h
  | x :: r, [], i, u, _, he => by cases he
  | x :: r, e :: es, i, u, h, he => by
    simp only [List.map_cons, List.cons.injEq, Prod.mk.injEq] at he
    unfold locK at h
    unfold updK
    by_cases hk : k = x.1
    · rw [if_pos hk] at h ⊢
      cases h
      simp [List.modify, he.2, he.1.1, hk]
    · rw [if_neg hk] at h ⊢
      rw [show (0 + 1 : Nat) = 0 + 1 from rfl, locK_shift] at h
      cases hq : locK k 0 r with
      | none => rw [hq] at h; cases h
      | some y =>
        rw [hq] at h
        simp only [Option.map_some, Option.some.injEq, Prod.mk.injEq] at h
        obtain ⟨rfl, rfl⟩ := h
        obtain ⟨h1, h2⟩ := upd_some enc k v r es y.1 y.2 hq he.2
        refine ⟨?_, by simpa using h2⟩
        simp only [List.modify_succ_cons, List.map_cons, h1, he.1.1, he.1.2]
section
variable {P : Program} {C : Cx} {σ σ' : St} {G G' : Gh} {a : Act} {w w' : World} {o : Oper} {d : Tmp} {ops : Array Oper} {rest : List Oper} {Q : Exit → St → Prop}
theorem Ok.writeG (ok : Ok C σ G a w) {k g : Nat} {ob ob' : AO} (hk : look k σ.M = some ob) (hg : G.fp k g) (hkept : Kept (fun x => x = g) w w') (hob : ObAt G w' k ob') (hbd : ob'.bd σ.nk) :
    Ok C (σ.upd k ob') G a w' := by
  have hl : ∀ k' o, look k' (σ.upd k ob').M = some o → (k' = k ∧ o = ob') ∨ (k' ≠ k ∧ look k' σ.M = some o) := fun k' o hx => by
    by_cases e : k' = k
    · subst e
      rw [show look k' (σ.upd k' ob').M = some ob' from look_set_same] at hx
      cases hx
      exact .inl ⟨rfl, rfl⟩
    · rw [show look k' (σ.upd k ob').M = look k' σ.M from look_set_other e] at hx
      exact .inr ⟨e, hx⟩
  have hne : ∀ k' o x, k' ≠ k → look k' σ.M = some o → G.fp k' x → x ≠ g := fun k' o x e h1 h2 h3 => by
    subst h3; exact e (ok.dj k' o k ob x h1 hk h2 hg)
  have some_ : ∀ k' o, look k' (σ.upd k ob').M = some o → ∃ o', look k' σ.M = some o' := fun k' o h => by
    rcases hl k' o h with ⟨rfl, _⟩ | ⟨_, y⟩
    · exact ⟨ob, hk⟩
    · exact ⟨o, y⟩
  refine ⟨ok.sz, ok.df, ok.tm, ok.bel.on hkept (fun x hx => by subst hx; exact (ok.my k ob x hk hg).1), fun p u h => ?_, ok.f0, ok.f1, ?_, ?_, ?_, ?_⟩
  · rw [World.cell?_of_block (hkept.block p.block (cell_block (ok.fw p u h)) (ok.dF k ob g p u hk hg h))]; exact ok.fw p u h
  · intro k' o x
    rcases hl k' o x with ⟨rfl, rfl⟩ | ⟨e, y⟩
    · exact ⟨(ok.ob k' ob hk).1, hbd, hob⟩
    · exact ⟨(ok.ob k' o y).1, (ok.ob k' o y).2.1, (ok.ob k' o y).2.2.keep (Gh.le.refl _ _) (ok.ob k' o y).1 (ok.ob k' o y).2.1 rfl fun x hx => hkept.block x (ok.my k' o x y hx).2 (hne k' o x e y hx)⟩
  · intro k' o x h1 h2
    obtain ⟨o', y⟩ := some_ k' o h1
    exact ⟨(ok.my k' o' x y h2).1, Nat.lt_of_lt_of_le (ok.my k' o' x y h2).2 hkept.size⟩
  · intro k1 o1 k2 o2 x h1 h2 h3 h4
    obtain ⟨o1', y1⟩ := some_ k1 o1 h1
    obtain ⟨o2', y2⟩ := some_ k2 o2 h2
    exact ok.dj k1 o1' k2 o2' x y1 y2 h3 h4
  · intro k1 o1 x p u h1 h2 h3
    obtain ⟨o1', y1⟩ := some_ k1 o1 h1
    exact ok.dF k1 o1' x p u y1 h2 h3
/-! make(map) -/
theorem WO.mkm {T : TypeId} {q : Nat} {α : Type} (enc : α → Value) (hd : dstB C.N o = some d) (ho : o.op = .makeMap T none) (hq : σ.nk = q) : WO P C o σ ((σ.new (.opq (mapQ enc []))).put d (.sl q)) := by
  intro G a w ok N Q' hN
  obtain ⟨_, hds, hdb⟩ := dstB_of hd
  have hbl : ∀ x, x < w.heap.size → (w.alloc (.map #[] 0)).heap[x]? = w.heap[x]? := fun x hx => Below.heap_alloc w _ x hx
  have ok' := ok.newObj (S := fun _ => False) (w' := w.alloc (.map #[] 0)) (b := w.heap.size) (n := 0) (h := .map (some w.heap.size)) (φ := fun x => x = w.heap.size) (ob := .opq (mapQ enc []))
    (Kept.below ((Below.refl _ _).alloc (Nat.le_refl _) _)) (fun _ h => h.elim) (fun _ _ _ _ _ h => h) (fun _ _ _ h => h)
    (by
      show (mapQ enc []).Q _ _ _ _
      rw [with_b, with_h, with_f]
      exact ⟨rfl, rfl, #[], 0, (MapKept.heap_alloc w _).1, rfl⟩) trivial (fun x hx => by
      subst hx
      exact ⟨.inl ok.bel.size, by simp, fun k o h1 h2 => by have := (ok.my k o _ h1 h2).2; omega, fun p u h1 h2 => by have := cell_block (ok.fw p u h1); omega⟩)
  subst hq
  unfold Oper.wp execOp
  simp only [ho, Instr.makeMap, Option.map_none, Sem.run_bind, Sem.run_pure, run_newObj, Result.andThen_ok]
  show N (a.put o.dst _) _
  rw [hds]
  exact hN _ _ _ (ok'.set (d := some d) (av := .sl σ.nk) (with_sl rfl) (.sl _ (Nat.lt_succ_self _)) fun x hx => by cases hx; exact of_blt hdb)
theorem WL.mkm {T : TypeId} {t : List (Nat × AV)} {M : List (Nat × AO)} {nk : Nat} {α : Type} (enc : α → Value) (hd : dstB C.N o = some d) (ho : o.op = .makeMap T none) (k : WL P C ops rest ⟨(d, .sl nk) :: t, (nk, .opq (mapQ enc [])) :: M, nk + 1⟩ Q) : WL P C ops (o :: rest) ⟨t, M, nk⟩ Q :=
  WL.op (dstB_of hd).1 (WO.mkm enc hd ho rfl) k
/-! m[k] -/
theorem map_at_ {α : Type} {enc : α → Value} {l : List (α × Value)} (ok : Ok C σ G a w) {q : Nat} {x : Operand} (hx : σ.ev x = some (.sl q)) (hq : look q σ.M = some (.opq (mapQ enc l))) :
    a.eval x = .map (some (G.b q)) ∧ G.fp q (G.b q) ∧ mapIs enc l w (G.b q) := by
  obtain ⟨h1, h2, h3⟩ : (mapQ enc l).Q w (G.b q) (G.h q) (G.fp q) := (ok.ob q _ hq).2.2
  exact ⟨(ok.evr hx).2.sl_of.1.trans h1, h2, h3⟩
theorem WV.mlk {α : Type} [DecidableEq α] {enc : α → Value} {T kt et : TypeId} {l : List (α × Value)} {q : Nat} {x y : Operand} {av : AV} {k : α} {z : Value} (K : KeyK P kt enc) (ho : o.op = .lookup T x y false) (hT : P.underlying T = some (.map kt et)) (hz : (P.info? et).bind (·.zero) = some z)
    (hx : σ.ev x = some (.sl q)) (hq : look q σ.M = some (.opq (mapQ enc l))) (hy : σ.ev y = some av) (hk : ∀ G v, R G av v → v = enc k) : WV P C o σ (.sc (lookK z k l)) :=
  WV.sc fun G a w ok => by
    obtain ⟨e1, e2, es, clock, e3, e4⟩ := map_at_ ok hx hq
    have e5 := hk G _ (ok.evr hy).2
    have e6 := K.fnd w k es.toList l e4
    unfold execOp
    simp only [ho, e1, e5, Instr.lookup, Sem.run_bind, run_underlying hT, Result.andThen_ok, Sem.run_pure, MapKept.run_getObj_map e3, K.chk, e6]
    unfold lookK
    cases hl : locK k 0 l with
    | none =>
      cases hi : P.info? et with
      | none => simp [hi] at hz
      | some i =>
        simp [hi] at hz
        simp [zeroValue, typeInfo, hi, hz]
    | some r => simp
/-! m[k] = v -/
theorem WO.mup {α : Type} [DecidableEq α] {enc : α → Value} {T kt et : TypeId} {l : List (α × Value)} {q : Nat} {x y z : Operand} {av : AV} {k : α} {u : Value} (K : KeyK P kt enc) (hds : o.dst = none) (ho : o.op = .mapUpdate T x y z) (hT : P.underlying T = some (.map kt et))
    (hx : σ.ev x = some (.sl q)) (hq : look q σ.M = some (.opq (mapQ enc l))) (hy : σ.ev y = some av) (hk : ∀ G v, R G av v → v = enc k) (hu : σ.ev z = some (.sc u)) : WO P C o σ (σ.upd q (.opq (mapQ enc (updK k u l)))) := by
  intro G a w ok N Q' hN
  obtain ⟨e1, e2, es, clock, e3, e4⟩ := map_at_ ok hx hq
  have e5 := hk G _ (ok.evr hy).2
  have e6 := K.fnd w k es.toList l e4
  have hlt : G.b q < w.heap.size := (Array.getElem?_eq_some_iff.1 e3).1
  have fin : ∀ (es' : Array MapEntry) (c' : Nat), es'.toList.map (fun e => (e.key, e.val)) = (updK k u l).map (fun x => (enc x.1, x.2)) → Ok C (σ.upd q (.opq (mapQ enc (updK k u l)))) G a { w with heap := w.heap.setIfInBounds (G.b q) (.map es' c') } := fun es' c' h =>
    ok.writeG hq e2 ⟨rfl, rfl, rfl, by simp, fun x _ hx => Array.getElem?_setIfInBounds_ne (fun e => hx e.symm)⟩ ⟨(ok.ob q _ hq).2.2.1, e2, es', c', (MapKept.heap_set e3).1, h⟩ trivial
  unfold Oper.wp execOp
  simp only [ho, e1, e5, ok.evs hu, Instr.mapUpdate, Sem.run_bind, run_underlying hT, Result.andThen_ok, Sem.run_pure, MapKept.run_getObj_map e3, K.chk, e6]
  cases hl : locK k 0 l with
  | none =>
    simp only [MapKept.run_setObj_map _ e3, Result.andThen_ok, Sem.run_bind, Sem.run_pure, Oper.upon]
    rw [hds]
    refine hN G a _ (fin _ _ ?_)
    rw [upd_none k u l 0 hl]
    simp [e4]
  | some r =>
    obtain ⟨i, v0⟩ := r
    obtain ⟨f1, f2⟩ := upd_some enc k u l es.toList i v0 hl e4
    have f3 : (es[i]?).map (·.key) = some (enc k) := by rw [← Array.getElem?_toList]; exact f2
    simp only [f3, Option.getD_some, Instr.keyThatStays, K.bits, if_true, Sem.run_pure, Result.andThen_ok, Sem.run_bind, MapKept.run_setObj_map _ e3, Oper.upon]
    rw [hds]
    refine hN G a _ (fin _ _ ?_)
    rw [Array.toList_modify]
    exact f1
theorem WL.mup {α : Type} [DecidableEq α] {enc : α → Value} {T kt et : TypeId} {l l' : List (α × Value)} {q : Nat} {x y z : Operand} {av : AV} {k : α} {u : Value} {t : List (Nat × AV)} {M M' : List (Nat × AO)} {nk : Nat} (K : KeyK P kt enc) (hg : o.guard = none) (hds : o.dst = none) (ho : o.op = .mapUpdate T x y z) (hT : P.underlying T = some (.map kt et))
    (hx : (⟨t, M, nk⟩ : St).ev x = some (.sl q)) (hq : look q M = some (.opq (mapQ enc l))) (hy : (⟨t, M, nk⟩ : St).ev y = some av) (hk : ∀ G v, R G av v → v = enc k) (hu : (⟨t, M, nk⟩ : St).ev z = some (.sc u)) (hM : remS q M = some M') (hl : updK k u l = l')
    (r : WL P C ops rest ⟨t, (q, .opq (mapQ enc l')) :: M', nk⟩ Q) : WL P C ops (o :: rest) ⟨t, M, nk⟩ Q := by
  subst hl
  rw [remS_eq hM] at r
  exact WL.op hg (wo_rem (WO.mup (σ := ⟨t, M, nk⟩) K hds ho hT hx hq hy hk hu)) r
/-! clear(m) -/
theorem WO.mcl {α : Type} {enc : α → Value} {T kt et : TypeId} {l : List (α × Value)} {q : Nat} {x : Operand} (ho : o.op = .call { callee := .builtin .clear, args := #[x], argTypes := #[T] }) (hT : P.underlying T = some (.map kt et))
    (hx : σ.ev x = some (.sl q)) (hq : look q σ.M = some (.opq (mapQ enc l))) (hd : dstOk C.N o.dst = true) : WO P C o σ ((σ.upd q (.opq (mapQ enc []))).set o.dst (.tu [])) := by
  intro G a w ok N Q' hN
  obtain ⟨e1, e2, es, clock, e3, e4⟩ := map_at_ ok hx hq
  have hlt : G.b q < w.heap.size := (Array.getElem?_eq_some_iff.1 e3).1
  have ok' : Ok C (σ.upd q (.opq (mapQ enc []))) G a { w with heap := w.heap.setIfInBounds (G.b q) (.map #[] clock) } :=
    ok.writeG hq e2 ⟨rfl, rfl, rfl, by simp, fun x _ hx => Array.getElem?_setIfInBounds_ne (fun e => hx e.symm)⟩ ⟨(ok.ob q _ hq).2.2.1, e2, #[], clock, (MapKept.heap_set e3).1, rfl⟩ trivial
  unfold Oper.wp execOp
  have hargs : (#[x] : Array Operand).map a.eval = #[.map (some (G.b q))] := by simp [e1]
  simp only [ho, resolve, invoke, builtin, Sem.run_bind, Sem.run_pure, Result.andThen_ok, hargs]
  have hcl : (Builtin.clear_ #[T] o.type #[.map (some (G.b q))]).run P w = .ok (.tuple #[]) { w with heap := w.heap.setIfInBounds (G.b q) (.map #[] clock) } := by
    simp [Builtin.clear_, run_underlying hT, MapKept.run_getObj_map e3, MapKept.run_setObj_map _ e3]
  simp only [hcl, Result.andThen_ok, Sem.run_bind, Sem.run_pure, Oper.upon]
  exact hN G _ _ (ok'.set (av := .tu []) (.tu _ _ rfl fun i av u h => by simp at h) (.tu _ fun i x h => by simp at h) (dstOk_of hd))
theorem WL.mcl {α : Type} {enc : α → Value} {T kt et : TypeId} {l : List (α × Value)} {q : Nat} {x : Operand} {t : List (Nat × AV)} {M M' : List (Nat × AO)} {nk : Nat} (hg : o.guard = none) (ho : o.op = .call { callee := .builtin .clear, args := #[x], argTypes := #[T] }) (hT : P.underlying T = some (.map kt et))
    (hx : (⟨t, M, nk⟩ : St).ev x = some (.sl q)) (hq : look q M = some (.opq (mapQ enc l))) (hd : dstOk C.N o.dst = true) (hM : remS q M = some M') (r : WL P C ops rest ((⟨t, (q, .opq (mapQ enc [])) :: M', nk⟩ : St).set o.dst (.tu [])) Q) : WL P C ops (o :: rest) ⟨t, M, nk⟩ Q := by
  rw [remS_eq hM] at r
  refine WL.op hg ?_ r
  intro G a w ok N Q' hN
  refine WO.mcl (σ := ⟨t, M, nk⟩) (enc := enc) ho hT hx hq hd G a w ok N Q' fun G' a' w' ok' => hN G' a' w' ?_
  have hl : ∀ i, look i ((q, AO.opq (mapQ enc [])) :: rem q M) = look i ((q, AO.opq (mapQ enc [])) :: M) := fun i => by
    by_cases e : i = q
    · subst e; rw [look_set_same, look_set_same]
    · rw [look_set_other e, look_set_other e, look_rem, if_neg e]
  cases hdst : o.dst with
  | none =>
    rw [hdst] at ok'
    exact ⟨ok'.sz, ok'.df, ok'.tm, ok'.bel, ok'.fw, ok'.f0, ok'.f1, fun i x hx => ok'.ob i x ((hl i).symm.trans hx), fun i x y hx => ok'.my i x y ((hl i).symm.trans hx), fun i x i' x' y hx hx' => ok'.dj i x i' x' y ((hl i).symm.trans hx) ((hl i').symm.trans hx'), fun i x y p u hx => ok'.dF i x y p u ((hl i).symm.trans hx)⟩
  | some d =>
    rw [hdst] at ok'
    exact ⟨ok'.sz, ok'.df, ok'.tm, ok'.bel, ok'.fw, ok'.f0, ok'.f1, fun i x hx => ok'.ob i x ((hl i).symm.trans hx), fun i x y hx => ok'.my i x y ((hl i).symm.trans hx), fun i x i' x' y hx hx' => ok'.dj i x i' x' y ((hl i).symm.trans hx) ((hl i').symm.trans hx'), fun i x y p u hx => ok'.dF i x y p u ((hl i).symm.trans hx)⟩
end
end Go.Proofs.YtkgnmddakiagbaaGreatDoor
namespace Go.Proofs.YtkgnmddakiagbaaGreatDoor
open Go.RowKit
section
variable {P : Program} {C : Cx} {σ : St} {o : Oper} {d : Tmp} {ops : Array Oper} {rest : List Oper} {Q : Exit → St → Prop} {mem : List Bool} {Mc : List (Nat × AO)} {nk0 k : Nat}
theorem W.dmT2 {id : Nat} {L : List Oper} (k0 : Nat) (mem : List Bool) (ms : List Nat) (hm : P.follows .mixedOrders = true) (hB : Region.lexB .any L.toArray = true) (hT : tailB L.toArray k0 = true) (hB2 : Region.lexB .any (L.take k0).toArray = true)
    (hch : chainB (L.take k0).toArray mem = true) (hMc : msSub (onlyM σ.M ms) σ.M)
    (h : DMK P C (L.take k0).toArray mem (onlyM σ.M ms) σ.nk 0 (L.take k0) σ (fun e s => e = .normal ∧ WL P C L.toArray (L.drop k0) s Q)) : W P C (.region id L.toArray true) σ Q :=
  W.drawT k0 hm hB hT (let ⟨_, a, b⟩ := h; WA.drawM mem (onlyM σ.M ms) hB2 hch hMc a b)
theorem DMK.al {T : TypeId} {z : Value} {l : List AV} (hd : wrB mem C.N k o = some d) (ho : o.op = .alloc T) (hz : (P.info? T).bind (·.zero) = some z) (hl : z.cells.toList.map .sc = l) (hs : msSub Mc ((σ.nk, .box T l) :: σ.M))
    (r : DMK P C ops mem Mc nk0 (k + 1) rest ⟨(d, .pt σ.nk 0 0) :: σ.t, (σ.nk, .box T l) :: σ.M, σ.nk + 1⟩ Q) : DMK P C ops mem Mc nk0 k (o :: rest) σ Q := by
  obtain ⟨a, b, c, e⟩ := wrB_of hd
  exact DMK.wr a b (Nat.ble_eq_true_of_le (Nat.le_succ _)) hs ⟨c, fun t _ => WO.alloc (σ := ⟨t, σ.M, σ.nk⟩) ho hz b e hl rfl⟩ r
theorem Tr.nilR {t : Tmp} (n : Nat) (h : look t σ.t = some (.sc (.slice none 0 0))) : Tr C σ (σ.put t (.ls n [])) := fun G a w ok =>
  ⟨G, ok.reslot h (.ls _ _) fun v hv => by rw [hv.sc_eq]; exact .pu _ _ (.ls n [] none 0 ⟨0, 0, none⟩ (fun _ _ => undef) (by simp) (by simp) (by simp) (by simp) (by simp))⟩
def truB : World → View → Prop := fun _ _ => True
theorem truS : Stab truB 0 := ⟨fun _ _ _ => Nat.zero_le _, fun _ _ _ _ _ _ _ => trivial⟩
theorem truH (C : Cx) : Holds truB 0 C := ⟨fun _ _ _ _ => trivial, fun _ _ => Nat.zero_le _⟩
end
end Go.Proofs.YtkgnmddakiagbaaGreatDoor
namespace Go.Proofs.YtkgnmddakiagbaaGreatDoor
open Go.RowKit
theorem crsE_fr {st : List Int} : ∀ {cs : List (Int × Int × Bool)}, crsE st cs = 0 → ∀ k (h : k < cs.length), 0 ≤ cs[k].2.1 ∧ cs[k].2.1 ≤ st.length := by
  intro cs
  induction cs with
  | nil => intro _ k h; simp at h
  | cons x r ih =>
    intro h k hk
    unfold crsE at h
    by_cases h1 : x.2.1 < 0 ∨ (st.length : Int) < x.2.1
    · rw [if_pos h1] at h; cases h
    · rw [if_neg h1] at h
      by_cases h2 : (x.1 < 0 ∨ 127 < x.1) ∨ 127 < topOf st x
      · rw [if_pos h2] at h; cases h
      · rw [if_neg h2] at h
        cases k with
        | zero => simp; omega
        | succ k => simpa using ih h k (by simpa using hk)
theorem stopE_bd {p : Pce} {i last : Int} {s : Stp} (hI : insE p.cs p.st = 0) (h : stopE p i s last = 0) :
    (1 ≤ s.1 ∧ s.1 ≤ 14) ∧ (0 ≤ s.2.1 ∧ s.2.1 ≤ 18) ∧ (0 ≤ s.2.2.1 ∧ s.2.2.1 ≤ 3) ∧ (0 ≤ s.2.2.2.1 ∧ s.2.2.2.1 ≤ 4) ∧ (0 ≤ s.2.2.2.2 ∧ s.2.2.2.2 ≤ 15) := by
  obtain ⟨l1, l2, l3, _, l5⟩ := insE_len hI
  unfold stopE at h
  by_cases h1 : s.1 < 1 ∨ (p.cs.length : Int) < s.1
  · rw [if_pos h1] at h; cases h
  · rw [if_neg h1] at h
    by_cases h2 : s.2.1 < 0 ∨ fretsOf p.cs s.1 < s.2.1
    · rw [if_pos h2] at h; cases h
    · rw [if_neg h2] at h
      by_cases h3 : s.1 ≤ last
      · rw [if_pos h3] at h; cases h
      · rw [if_neg h3] at h
        by_cases h4 : (s.2.2.1 < 0 ∨ 3 < s.2.2.1) ∨ (s.2.2.2.1 < 0 ∨ 4 < s.2.2.2.1)
        · rw [if_pos h4] at h; cases h
        · rw [if_neg h4] at h
          by_cases h5 : (s.2.2.2.2 < 0 ∨ (longestN p.evs i s.1 : Int) < s.2.2.2.2) ∨ (0 < s.2.2.2.2 ∧ s.2.1 = 0)
          · rw [if_pos h5] at h; cases h
          · have hL := longestN_le p.evs i s.1
            have hk : s.1.toNat - 1 < p.cs.length := by omega
            have hf : fretsOf p.cs s.1 = p.cs[s.1.toNat - 1].2.1 := by
              have := fretsOf_at hk
              rw [← this]; congr 1; omega
            have := crsE_fr l5 _ hk
            refine ⟨⟨by omega, by omega⟩, ⟨by omega, by omega⟩, ⟨by omega, by omega⟩, ⟨by omega, by omega⟩, by omega, by omega⟩
theorem stopsE_bd {p : Pce} {i : Int} (hI : insE p.cs p.st = 0) : ∀ {l : List Stp} {last : Int}, stopsE p i last l = 0 → ∀ k (h : k < l.length), ∃ la, stopE p i l[k] la = 0 := by
  intro l
  induction l with
  | nil => intro _ _ k h; simp at h
  | cons x r ih =>
    intro last h k hk
    unfold stopsE at h
    by_cases h1 : stopE p i x last ≠ 0
    · rw [if_pos h1] at h; exact absurd h h1
    · rw [if_neg h1] at h
      cases k with
      | zero => exact ⟨last, by simpa using h1⟩
      | succ k => simpa using ih h k (by simpa using hk)
theorem evsE_bd {p : Pce} : ∀ {l : List Ev} {n : Nat}, evsE p n l = 0 → ∀ k (h : k < l.length), evE p ((n + k : Nat) : Int) l[k] = 0 := by
  intro l
  induction l with
  | nil => intro _ _ k h; simp at h
  | cons x r ih =>
    intro n h k hk
    unfold evsE at h
    by_cases h1 : evE p n x ≠ 0
    · rw [if_pos h1] at h; exact absurd h h1
    · rw [if_neg h1] at h
      cases k with
      | zero => simpa using h1
      | succ k =>
        have := ih h k (by simpa using hk)
        rw [show n + 1 + k = n + (k + 1) by omega] at this
        simpa using this
theorem pceE_zero {p : Pce} (h : pceE p = 0) : insE p.cs p.st = 0 ∧ p.evs.length ≤ 400 ∧ ∀ k (hk : k < p.evs.length), evE p k p.evs[k] = 0 := by
  unfold pceE at h
  by_cases h1 : insE p.cs p.st ≠ 0
  · rw [if_pos h1] at h; exact absurd h h1
  · rw [if_neg h1] at h
    by_cases h2 : 400 < p.evs.length
    · rw [if_pos h2] at h; cases h
    · rw [if_neg h2] at h
      refine ⟨by simpa using h1, by omega, fun k hk => ?_⟩
      have := evsE_bd h k hk
      simpa using this
theorem evE_zero {p : Pce} {i : Int} {e : Ev} (h : evE p i e = 0) : sgOk e.val e.dot e.three = true ∧ ¬ (i = 0 ∧ e.val = 0) ∧ ¬ (e.tie = true ∧ (0 < e.stops.length ∨ i = 0)) ∧ stopsE p i 0 e.stops = 0 := by
  unfold evE at h
  by_cases h1 : sgOk e.val e.dot e.three = false ∨ (i = 0 ∧ e.val = 0)
  · rw [if_pos h1] at h; cases h
  · rw [if_neg h1] at h
    by_cases h2 : e.tie = true ∧ (0 < e.stops.length ∨ i = 0)
    · rw [if_pos h2] at h; cases h
    · rw [if_neg h2] at h
      refine ⟨?_, fun x => h1 (.inr x), h2, h⟩
      cases hs : sgOk e.val e.dot e.three with
      | true => rfl
      | false => exact absurd (.inl hs) h1
theorem stopsIn_of {p : Pce} (h : pceE p = 0) (k : Nat) (hk : k < p.evs.length) : StopsIn p.evs[k] := by
  obtain ⟨h1, h2, h3⟩ := pceE_zero h
  intro j hj
  obtain ⟨la, hla⟩ := stopsE_bd h1 (evE_zero (h3 k hk)).2.2.2 j hj
  exact stopE_bd h1 hla
def lksTo (s : Int) (p : Pce) : Nat → List Lck
  | 0 => []
  | k + 1 => lksTo s p k ++ (match p.evs[k]? with | some e => lackE s p k e | none => [])
theorem lksTo_at (s : Int) (p : Pce) {k : Nat} (h : k < p.evs.length) : lksTo s p (k + 1) = lksTo s p k ++ lackE s p k p.evs[k] := by
  show lksTo s p k ++ _ = _
  rw [List.getElem?_eq_getElem h]
theorem lackE_len (s : Int) (p : Pce) (i : Int) (e : Ev) (h : e.stops.length ≤ 20) : (lackE s p i e).length ≤ 63 := by
  rw [lackE_eq]
  have a := lk1_len s i e.val
  have b := lk2_len s i e.three
  have c := lk3_len s i e.tie e.stops.length
  have d := flat_len s i (fun c => longestN p.evs i c) e.stops
  simp only [List.length_append]; omega
theorem lksTo_len (s : Int) {p : Pce} (hO : PcOk p) : ∀ k, k ≤ p.evs.length → (lksTo s p k).length ≤ 27000 := by
  have hn := hO.n3
  have : ∀ k, k ≤ p.evs.length → (lksTo s p k).length ≤ 63 * k := by
    intro k
    induction k with
    | zero => intro _; simp [lksTo]
    | succ k ih =>
      intro hk
      rw [lksTo_at s p (by omega), List.length_append]
      have := ih (by omega)
      have := lackE_len s p k p.evs[k] (hO.n4 k (by omega))
      omega
  intro k hk
  have := this k hk
  omega
end Go.Proofs.YtkgnmddakiagbaaGreatDoor
namespace Go.Proofs.YtkgnmddakiagbaaGreatDoor
open Go.RowKit
set_option maxRecDepth 100000
set_option maxHeartbeats 4000000
theorem ownsRowF_base {w : World} {B e size n : Nat} {v : Value} {xs : List Value} (h : w.ownsRowF B e size v n xs) : w.ownsRowF 0 e size v n xs := by
  refine ⟨h.1, ?_⟩
  rcases h.2 with x | ⟨g, cap, cur, fz, e, hb, r⟩
  · exact .inl x
  · exact .inr ⟨g, cap, cur, fz, e, Nat.zero_le _, r⟩
theorem append_strF {P : Program} (w : World) (t u ty e : TypeId) (i : TypeInfo) (ht : P.underlying t = some (.slice e)) (hu : P.underlying u = some .string) (hi : P.info? e = some i) (hz : i.zero = some (.int .u8 0)) (hs1 : i.size = 1) (hby : i.bytes = 1)
    (v : Value) (n : Nat) (xs : List Value) (hown : w.ownsRowF 0 e 1 v n xs) (s : ByteArray) (hb : n + s.size ≤ 1000000000) :
    ∃ v' w', (Builtin.append_ #[t, u] ty #[v, .string s]).run P w = .ok v' w' ∧ w'.ownsRowF 0 e 1 v' (n + s.size) (xs ++ Lib.strCells s) ∧ w.grownBy w' v.ownBlock ∧ ∀ g, v'.ownBlock = some g → v.ownBlock = some g ∨ w.heap.size ≤ g := by
  rcases hown.2 with ⟨rfl, rfl⟩ | ⟨g, cap, cur, fz, rfl, hbg, hg, hfz, hnc, hcm, hcs, htake⟩
  · obtain ⟨v', w', h1, h2, h3, _⟩ := Lib.run_append_own_stringF (P := P) w w.heap.size t u ty e i ht hu hi hz hs1 hby (.slice none 0 0) 0 xs ⟨hown.1, .inl ⟨rfl, rfl⟩⟩ s (by unfold maxLen; omega) (by omega) (Nat.le_refl _)
    exact ⟨v', w', h1, ownsRowF_base h2, h3, fun g hg => .inr (h2.lt g hg).1⟩
  · obtain ⟨v', w', h1, h2, h3, _⟩ := Lib.run_append_own_stringF (P := P) w 0 t u ty e i ht hu hi hz hs1 hby _ n xs hown s (by unfold maxLen; omega) (by omega) (Nat.zero_le _)
    refine ⟨v', w', h1, h2, h3, fun g' hg' => ?_⟩
    have hxl : xs.length = n := by simpa using hown.1
    have hcs1 : cur.size = cap := by simpa using hcs
    by_cases hroom : n + s.size ≤ cap
    · have hr := Lib.run_append_room_stringF (P := P) w t u ty e i ht hu hi hs1 g n cap cur fz hg (by simpa using hfz) s hroom (by omega)
      rw [hr] at h1
      cases h1
      exact .inl hg'
    · have hr := Lib.run_append_grow_string (P := P) w t u ty e i (.int .u8 0) ht hu hi hz ⟨g, 0, none⟩ n cap xs (by rw [hs1]; simpa using hxl) (hown.cells (g := g) rfl) s (by omega) (by omega) (by rw [hby]; exact growslice_fits (by omega) (by omega))
      rw [hr] at h1
      cases h1
      simp [Value.ownBlock] at hg'
      right; omega
theorem run_appendStr {P : Program} {o : Oper} {a : Act} {w w' : World} {x y : Operand} {T U : TypeId} {s : ByteArray} {v v' : Value} {N : Act → World → Prop} {Q' : Exit → Act → World → Prop} (ho : o.op = .call { callee := .builtin .append, args := #[x, y], argTypes := #[T, U] }) (ex : a.eval x = v) (ey : a.eval y = .string s)
    (hrun : (Builtin.append_ #[T, U] o.type #[v, .string s]).run P w = .ok v' w') (hN : N (a.put o.dst v') w') : o.wp P a w N Q' := by
  unfold Oper.wp execOp
  have hargs : (#[x, y] : Array Operand).map a.eval = #[v, .string s] := by simp [ex, ey]
  simp only [ho, resolve, invoke, builtin, Sem.run_bind, Sem.run_pure, Result.andThen_ok, hargs, hrun, Oper.upon]
  exact hN
theorem strCells_bs (s : List UInt8) : Lib.strCells (bs s) = Lib.byteCells s := by
  unfold Lib.strCells Lib.byteCells
  rfl
theorem bldSize : (Tryz.prog.info? 95).map (·.size) = some 2 := by kernel_rfl
theorem bldLies : liesAt Tryz.prog Tryz.prog.depth 95 (2 / Tryz.prog.cellsOf 95) 0 95 1 = true := by kernel_rfl
theorem byteInfo : (Tryz.prog.info? 5).map (fun i => (i.zero, i.size, i.bytes)) = some (some (.int .u8 0), 1, 1) := by kernel_rfl
theorem byteCellsOf : Tryz.prog.cellsOf 5 = 1 := by kernel_rfl
theorem bld_copy_used (b : Nat) (w : World) (h0 : w.cell? ⟨b, 0, none⟩ = some (.pointer (some ⟨b, 0, none⟩))) :
    Calls Tryz.prog 121 #[.pointer (some ⟨b, 0, none⟩)] w fun e w' => e = .returned (.tuple #[]) ∧ w' = w := by
  obtain ⟨j, hj, _⟩ := Option.map_eq_some_iff.1 bldSize
  go_enter Tryz.func121, Tryz.ntmps121
  go_wp2
  rw [Lib.run_neq_ptr_same w _ Tryz.underlying92 hj]
  go_wp2
  go_end0
  exact ⟨rfl, rfl⟩
theorem bld_copy_fresh (b : Nat) (w : World) (h0 : w.cell? ⟨b, 0, none⟩ = some (.pointer none)) (hsh : w.shape? b = some (95, 2)) (hfz : w.frozen? ⟨b, 0, none⟩ = false) :
    Calls Tryz.prog 121 #[.pointer (some ⟨b, 0, none⟩)] w fun e w' => e = .returned (.tuple #[]) ∧ w' = w.setCell ⟨b, 0, none⟩ (.pointer (some ⟨b, 0, none⟩)) := by
  obtain ⟨j, hj, hjs⟩ := Option.map_eq_some_iff.1 bldSize
  go_enter Tryz.func121, Tryz.ntmps121
  go_wp2
  rw [Lib.run_to_unsafe w ⟨b, 0, none⟩ Tryz.underlying92 Tryz.underlying258 hj (by rw [hjs]; decide) hsh (Nat.zero_lt_succ 1)]
  simp only [Result.andThen]
  rw [Oper.upon_value]
  go_wp2
  rw [run_callFunc_extern Tryz.func174 (by kernel_rfl) (by kernel_rfl) (by kernel_rfl) (e := Extern.AbiNoEscape.same) (by kernel_rfl)]
  rw [Lib.run_noEscape]
  simp only [Result.andThen]
  rw [Oper.upon_value]
  go_wp2
  rw [Lib.run_from_unsafe w ⟨b, 0, none⟩ Tryz.underlying258 Tryz.underlying92 hj hsh bldLies]
  simp only [Result.andThen]
  rw [Oper.upon_value]
  go_wp2
  go_end0
  exact ⟨rfl, rfl⟩
theorem bld_copy (w : World) (b : Nat) (p v : Value) (hp : p = .pointer none ∨ p = .pointer (some ⟨b, 0, none⟩)) (hbk : w.heap[b]? = some (.cells #[p, v] 95 (0, 0))) :
    Calls Tryz.prog 121 #[.pointer (some ⟨b, 0, none⟩)] w fun e w' => e = .returned (.tuple #[]) ∧ w'.heap[b]? = some (.cells #[.pointer (some ⟨b, 0, none⟩), v] 95 (0, 0)) ∧ Kept (fun x => x = b) w w' ∧ w'.heap.size = w.heap.size := by
  have c0 : w.cell? ⟨b, 0, none⟩ = some p := by rw [Lib.cell_of_heap hbk]; rfl
  rcases hp with rfl | rfl
  · refine (bld_copy_fresh b w c0 (by simp [World.shape?, hbk]) (Lib.frozen_of_heap hbk 0)).mono ?_
    rintro e w' ⟨rfl, rfl⟩
    refine ⟨rfl, heap_setCell_same w b 0 _ _ _ hbk, ⟨rfl, rfl, rfl, by simp [World.setCell], fun k hk hne => heap_setCell_other w _ k _ hne⟩, by simp [World.setCell]⟩
  · refine (bld_copy_used b w c0).mono ?_
    rintro e w' ⟨rfl, rfl⟩
    exact ⟨rfl, hbk, Kept.refl _ _, rfl⟩
theorem bldW_ok : BldW Tryz.prog 48 95 5 := by
  intro w b φ l s hφ h hl
  obtain ⟨p, v, hp, hbk, hown, hfp⟩ := h
  obtain ⟨i0, hi, hz0, hz1, hz2⟩ := info_parts (P := Tryz.prog) byteInfo
  have hblt : b < w.heap.size := (Array.getElem?_eq_some_iff.1 hbk).1
  go_enter Tryz.func48, Tryz.ntmps48
  go_wp2_with (go_at_call 121; refine (bld_copy w b p v hp hbk).mono ?_)
  rintro e w1 ⟨rfl, hb1, hk1, hs1⟩
  have hown1 : w1.ownsRowF 0 5 1 v l.length (Lib.byteCells l) := ownsRowF_keep hown fun g hg => hk1.block g (hown.lt g hg).2 (fun e => (hfp g hg).2 e)
  have c0 : w1.cell? ⟨b, 0, none⟩ = some (.pointer (some ⟨b, 0, none⟩)) := by rw [Lib.cell_of_heap hb1]; rfl
  have c1 : w1.cell? ⟨b, 1, none⟩ = some v := by rw [Lib.cell_of_heap hb1]; rfl
  obtain ⟨v', w2, hrun, hown', hgrow, hnew⟩ := append_strF (P := Tryz.prog) w1 93 9 93 5 i0 Tryz.underlying93 Tryz.underlying9 hi hz0 hz1 hz2 v l.length _ hown1 (bs s) (by rw [bs_size]; omega)
  obtain ⟨ao, n', cap, rfl⟩ : ∃ ao n' cap, v' = .slice ao n' cap := by
    rcases hown'.2 with ⟨hv, _⟩ | ⟨g, cap, cur, fz, hv, _⟩
    · exact ⟨_, _, _, hv⟩
    · exact ⟨_, _, _, hv⟩
  have hb2 : w2.heap[b]? = some (.cells #[.pointer (some ⟨b, 0, none⟩), v] 95 (0, 0)) := by
    rw [hgrow.block b (by omega) (fun e => (hfp b e.symm).2 rfl)]
    exact hb1
  have d0 : w2.cell? ⟨b, 0, none⟩ = some (.pointer (some ⟨b, 0, none⟩)) := by rw [Lib.cell_of_heap hb2]; rfl
  have d1 : w2.cell? ⟨b, 1, none⟩ = some v := by rw [Lib.cell_of_heap hb2]; rfl
  have f1 : w2.frozen? ⟨b, 1, none⟩ = false := Lib.frozen_of_heap hb2 1
  have hsz : w.heap.size ≤ w2.heap.size := by have := hgrow.size; omega
  have hvb : ∀ g, (Value.slice ao n' cap).ownBlock = some g → φ g ∨ (w.heap.size ≤ g ∧ g < w2.heap.size) := fun g hg => by
    rcases hnew g hg with h | h
    · exact .inl (hfp g h).1
    · exact .inr ⟨by omega, (hown'.lt g hg).2⟩
  have hvb2 : ∀ g, (Value.slice ao n' cap).ownBlock = some g → g ≠ b := fun g hg e => by
    rcases hnew g hg with h | h
    · exact (hfp g h).2 e
    · omega
  go_wp2_with (at_builtin; refine wpList_plain rfl fun K hK => run_appendStr rfl rfl rfl hrun (hK _ _ ?_))
  go_ret2
  refine ⟨by rw [bs_size]; rfl, ⟨?_, ?_, ?_, by simp [World.setCell]; exact hsz, fun k hk hn => ?_⟩, .pointer (some ⟨b, 0, none⟩), .slice ao n' cap, .inr rfl, ?_, ?_, fun g hg => ⟨?_, hvb2 g hg⟩⟩
  · exact hgrow.os.trans hk1.os
  · exact hgrow.tape.trans hk1.tape
  · exact hgrow.output.trans hk1.output
  · have hkb : k ≠ b := fun e => hn (e ▸ hφ)
    simp only [World.setCell, Array.getElem?_modify]
    rw [if_neg (fun h => hkb h.symm), hgrow.block k (by omega) (fun e => hn (hfp k e.symm).1)]
    exact hk1.block k hk hkb
  · exact heap_setCell_same w2 b 1 _ _ _ hb2
  · have := ownsRowF_keep (w' := w2.setCell ⟨b, 1, none⟩ (.slice ao n' cap)) hown' fun g hg => by
      simp only [World.setCell, Array.getElem?_modify]
      rw [if_neg (fun h => hvb2 g hg h.symm)]
    rw [bs_size] at this
    simpa [strCells_bs, Lib.byteCells, List.length_append] using this
  · rcases hvb g hg with h | h
    · exact .inl h
    · exact .inr ⟨h.1, by simpa [World.setCell] using h.2⟩
theorem bldS_ok : BldS Tryz.prog 50 95 5 := by
  intro w b φ l hφ h h0
  obtain ⟨p, v, hp, hbk, hown, hfp⟩ := h
  have hl0 : l.length ≠ 0 := by simpa using h0
  obtain ⟨g, cap, cur, fz, rfl, hbg, hg, hfz, hnc, hcm, hcs, htake⟩ : ∃ g cap cur fz, v = .slice (some ⟨g, 0, none⟩) l.length cap ∧ 0 ≤ g ∧ w.heap[g]? = some (.cells cur 5 fz) ∧ fz.2 ≤ l.length * 1 ∧ l.length ≤ cap ∧ cap ≤ maxLen ∧ cur.size = cap * 1 ∧ cur.toList.take (l.length * 1) = Lib.byteCells l := by
    rcases hown.2 with ⟨_, hz⟩ | ⟨g, cap, cur, fz, hv, r⟩
    · exact absurd hz hl0
    · exact ⟨g, cap, cur, fz, hv, r⟩
  have hgb : g ≠ b := (hfp g rfl).2
  have c1 : w.drew.cell? ⟨b, 1, none⟩ = some (.slice (some ⟨g, 0, none⟩) l.length cap) := by
    have : w.drew.heap[b]? = some (.cells #[p, .slice (some ⟨g, 0, none⟩) l.length cap] 95 (0, 0)) := hbk
    rw [Lib.cell_of_heap this]; rfl
  have hUS : (Builtin.unsafeString_ #[203, 3] 9 #[.pointer (some ⟨g, 0, none⟩), .int .i64 l.length]).run Tryz.prog w.drew = .ok (.string ⟨l.toArray⟩) (w.drew.freeze ⟨g, 0, none⟩ l.length) := by
    have hg' : w.drew.heap[g]? = some (.cells cur 5 fz) := hg
    refine Lib.run_unsafeString_row w.drew 203 3 9 5 Tryz.underlying203 byteCellsOf g cur.size (by simp [World.shape?, hg']) l h0 (by omega) (by unfold maxLen at hcm; omega) ?_
    intro j x hx
    exact hown.cells (g := g) rfl j (.int .u8 x.toNat) (by simp [Lib.byteCells, hx])
  have hSD : (Builtin.unsafeSliceData_ #[93] 203 #[.slice (some ⟨g, 0, none⟩) l.length cap]).run Tryz.prog w.drew = .ok (.pointer (some ⟨g, 0, none⟩)) w.drew :=
    Lib.run_unsafeSliceData_row _ _ _ _ _ _ (by omega)
  have hother : ∀ k, k ≠ g → (w.drew.freeze ⟨g, 0, none⟩ l.length).heap[k]? = w.heap[k]? := fun k hk => by
    unfold World.freeze
    rw [if_neg hl0]
    simp only [Array.getElem?_modify]
    rw [if_neg (fun h => hk h.symm)]
    rfl
  have hsize : (w.drew.freeze ⟨g, 0, none⟩ l.length).heap.size = w.heap.size := by
    unfold World.freeze
    rw [if_neg hl0]
    simp only [Array.size_modify]
    rfl
  have hkept : Kept φ w (w.drew.freeze ⟨g, 0, none⟩ l.length) := by
    refine ⟨?_, ?_, ?_, Nat.le_of_eq hsize.symm, fun k hk hn => hother k fun e => hn (e ▸ (hfp g rfl).1)⟩
    all_goals (unfold World.freeze; rw [if_neg hl0]; rfl)
  have hbld : BldIs (w.drew.freeze ⟨g, 0, none⟩ l.length) 95 5 b (fun x => φ x ∨ (w.heap.size ≤ x ∧ x < (w.drew.freeze ⟨g, 0, none⟩ l.length).heap.size)) l := by
    have hA : Lib.BuilderAtF 95 5 0 b p (Lib.byteCells l) w.drew := ⟨Nat.zero_le _, _, hbk, by rw [Lib.byteCells_length]; exact hown, fun e => (hfp b e).2 rfl⟩
    obtain ⟨_, v2, hb2, hown2, _⟩ := hA.froze (g := g) (cap := cap) (by rw [Lib.byteCells_length]; exact c1)
    rw [Lib.byteCells_length] at hb2 hown2
    rw [hother b (fun e => hgb e.symm), hbk] at hb2
    have ev : v2 = .slice (some ⟨g, 0, none⟩) l.length cap := by
      simp only [Option.some.injEq, Obj.cells.injEq] at hb2
      have := hb2.1
      simp at this
      exact this.symm
    subst ev
    exact ⟨p, _, hp, (hother b (fun e => hgb e.symm)).trans hbk, hown2, fun x hx => ⟨.inl (hfp x hx).1, (hfp x hx).2⟩⟩
  have mixed : Tryz.prog.follows .mixedOrders = true := by kernel_rfl
  go_enter Tryz.func50, Tryz.ntmps50
  go_wp2
  go_region_o
  all_goals (go_wp2; go_ret; exact ⟨rfl, hkept, hbld⟩)
end Go.Proofs.YtkgnmddakiagbaaGreatDoor
namespace Go.Proofs.YtkgnmddakiagbaaGreatDoor
open Go.RowKit
set_option maxRecDepth 100000
set_option maxHeartbeats 4000000
theorem pSounding_G (l al o : Int) : Ctg tabB Tryz.prog 90 [.ag [.sc (.int .i64 l), .sc (.int .i64 al), .sc (.int .i64 o)]] (.tu [.sc (.int .i64 (sndR l al o)), .sc (.int .i64 (sndX l al o))]) := by
  refine Ctg.intro stabB Tryz.func90 rfl Tryz.ntmps90 (Nat.le_of_ble_eq_true rfl) (bd_all rfl) fun w0 F0 hB => ?_; dsimp only [St.init, number, Nat.reduceAdd]
  have hc : (l < 0 ∨ (¬ l < 0 ∧ 7 ≤ l) ∨ (¬ l < 0 ∧ ¬ 7 ≤ l ∧ al < -1) ∨ (¬ l < 0 ∧ ¬ 7 ≤ l ∧ ¬ al < -1 ∧ 1 < al) ∨ (¬ l < 0 ∧ ¬ 7 ≤ l ∧ ¬ al < -1 ∧ ¬ 1 < al ∧ o < -1) ∨ (¬ l < 0 ∧ ¬ 7 ≤ l ∧ ¬ al < -1 ∧ ¬ 1 < al ∧ ¬ o < -1 ∧ 9 < o)) ∨ sndIn l al o := by unfold sndIn; omega
  rcases hc with hc | hc
  · have hno := sndOk_out (l := l) (al := al) (o := o) (by unfold sndIn; omega)
    rw [(snd_no hno).1, (snd_no hno).2]
    rcases hc with h | h | h | h | h | h
    all_goals
      repeat (first | refine W.gob rfl ?_ | refine WL.nil ?_ | refine WL.bt rfl rfl rfl (by omega) ?_ | refine WL.bf rfl rfl rfl (by omega) ?_ | refine WL.e1 rfl ?_ | refine WL.gyes rfl rfl rfl rfl ?_ | refine WL.opno rfl rfl rfl rfl rfl rfl rfl ?_ | refine W.condT rfl ?_)
      refine (?_ : W _ _ _ _ _)
      dsimp only [St.put, Nat.reduceAdd]
      exact W.ret (fin2 rfl rfl rfl rfl rfl rfl rfl)
  · obtain ⟨⟨h1, h2⟩, ⟨h3, h4⟩, h5, h6⟩ := id hc
    have hbd := basV_bd ⟨h1, h2⟩
    have htab := tab_bases ⟨h1, h2⟩
    have hin := sndOk_in hc
    have hv : sndV l al o = 12 * (o + 1) + basV l + al := rfl
    have hR : sndOk l al o = true → sndR l al o = 12 * (o + 1) + basV l + al := fun h => (snd_ok h).1
    obtain ⟨b, hb⟩ : ∃ b, basV l = b := ⟨_, rfl⟩
    rw [hb] at hbd htab hv hR
    repeat (first | refine W.gob rfl ?_ | refine WL.nil ?_ | refine WL.bf rfl rfl rfl (by omega) ?_ | refine WL.e1 rfl ?_ | refine WL.gyes rfl rfl rfl rfl ?_ | refine W.condF rfl ?_)
    refine (?_ : W _ _ _ _ _)
    dsimp only [St.put, Nat.reduceAdd]
    refine W.drawK (by kernel_rfl) (by kernel_rfl) ?_
    repeat (first | refine DK.st rfl ?_ | refine DK.ar rfl rfl (by unfold I64; omega) ?_)
    refine DK.glob hB rfl rfl ⟨h1, by omega⟩ htab rfl ?_
    repeat (first | refine DK.st rfl ?_ | refine DK.ar rfl rfl (by unfold I64; omega) ?_ | refine DK.nil ?_)
    by_cases hr : 0 ≤ 12 * (o + 1) + b + al ∧ 12 * (o + 1) + b + al ≤ 127
    · have hok : sndOk l al o = true := by rw [hin, hv]; simpa using hr
      rw [hR hok, (snd_ok hok).2]
      repeat (first | refine W.gob rfl ?_ | refine WL.nil ?_ | refine WL.bf rfl rfl rfl (by omega) ?_ | refine WL.e1 rfl ?_ | refine WL.gyes rfl rfl rfl rfl ?_ | refine W.condF rfl ?_)
      refine (?_ : W _ _ _ _ _)
      dsimp only [St.put, Nat.reduceAdd]
      exact W.ret (fin2 rfl rfl rfl rfl rfl rfl rfl)
    · have hok : sndOk l al o = false := by rw [hin, hv]; simpa using hr
      rw [(snd_no hok).1, (snd_no hok).2]
      have hr2 : (12 * (o + 1) + b + al < 0) ∨ (¬ 12 * (o + 1) + b + al < 0 ∧ 127 < 12 * (o + 1) + b + al) := by omega
      rcases hr2 with h | h
      all_goals
        repeat (first | refine W.gob rfl ?_ | refine WL.nil ?_ | refine WL.bt rfl rfl rfl (by omega) ?_ | refine WL.bf rfl rfl rfl (by omega) ?_ | refine WL.e1 rfl ?_ | refine WL.gyes rfl rfl rfl rfl ?_ | refine WL.opno rfl rfl rfl rfl rfl rfl rfl ?_ | refine W.condT rfl ?_)
        refine (?_ : W _ _ _ _ _)
        dsimp only [St.put, Nat.reduceAdd]
        exact W.ret (fin2 rfl rfl rfl rfl rfl rfl rfl)
theorem pSpell_G (p key : Int) : Ctg tabB Tryz.prog 63 [.sc (.int .i64 p), .sc (.int .i64 key)] (.tu [eSp (spV p key), .sc (.int .i64 (spX p key))]) := by
  refine Ctg.intro stabB Tryz.func63 rfl Tryz.ntmps63 (Nat.le_of_ble_eq_true rfl) (bd_all rfl) fun w0 F0 hB => ?_; dsimp only [St.init, number, Nat.reduceAdd]
  by_cases hp : 0 ≤ p ∧ p ≤ 127
  rotate_left
  · rw [(sp_pitch hp).1, (sp_pitch hp).2]
    have hp2 : p < 0 ∨ (¬ p < 0 ∧ 127 < p) := by omega
    rcases hp2 with h | h
    all_goals
      repeat (first | refine W.gob rfl ?_ | refine WL.nil ?_ | refine WL.bt rfl rfl rfl (by omega) ?_ | refine WL.bf rfl rfl rfl (by omega) ?_ | refine WL.e1 rfl ?_ | refine WL.gyes rfl rfl rfl rfl ?_ | refine WL.opno rfl rfl rfl rfl rfl rfl rfl ?_ | refine W.condT rfl ?_)
      refine (?_ : W _ _ _ _ _)
      dsimp only [St.put, Nat.reduceAdd]
      exact W.ret (finN rfl rfl rfl rfl)
  by_cases hk : -4 ≤ key ∧ key ≤ 4
  rotate_left
  · rw [(sp_arg hp hk).1, (sp_arg hp hk).2]
    have hk2 : key < -4 ∨ (¬ key < -4 ∧ 4 < key) := by omega
    rcases hk2 with h | h
    all_goals
      repeat (first | refine W.gob rfl ?_ | refine WL.nil ?_ | refine WL.bt rfl rfl rfl (by omega) ?_ | refine WL.bf rfl rfl rfl (by omega) ?_ | refine WL.e1 rfl ?_ | refine WL.gyes rfl rfl rfl rfl ?_ | refine WL.opno rfl rfl rfl rfl rfl rfl rfl ?_ | refine W.condT rfl ?_ | refine W.condF rfl ?_)
      refine (?_ : W _ _ _ _ _)
      dsimp only [St.put, Nat.reduceAdd]
      exact W.ret (finN rfl rfl rfl rfl)
  repeat (first | refine W.gob rfl ?_ | refine WL.nil ?_ | refine WL.bf rfl rfl rfl (by omega) ?_ | refine WL.e1 rfl ?_ | refine WL.gyes rfl rfl rfl rfl ?_ | refine W.condF rfl ?_)
  refine (?_ : W _ _ _ _ _)
  dsimp only [St.put, Nat.reduceAdd]
  refine W.loop (fun k : Nat => k ≤ 7 ∧ ∀ m, m < 3 * k → spN p key m = false) (fun k => ⟨[(0, .sc (.int .i64 p)), (1, .sc (.int .i64 key)), (4, .pt 0 0 0), (27, .sc (.int .i64 k))], [(0, .box 118 [.sc (.int .i64 0), .sc (.int .i64 0), .sc (.int .i64 0)])], 1⟩) (fun k => 7 - k) 0 ⟨by omega, by omega⟩ (Tr.ren id (by repeat (first | exact trivial | refine ⟨⟨?_, ?_⟩, ?_⟩ | rfl)) (by repeat (first | exact trivial | refine ⟨⟨?_, ?_, ?_⟩, ?_⟩ | rfl)) rfl) fun k hk0 => ?_
  obtain ⟨hk7, hno⟩ := hk0
  by_cases hlt : k < 7
  rotate_left
  · have hn : spP p key = none := by unfold spP; rw [find_no fun m hm => hno m (by omega)]; rfl
    rw [(sp_none hp hk hn).1, (sp_none hp hk hn).2]
    repeat (first | refine W.gob rfl ?_ | refine WL.nil ?_ | refine WL.bf rfl rfl rfl (by omega) ?_ | refine WL.e1 rfl ?_ | refine W.condF rfl ?_)
    refine (?_ : W _ _ _ _ _)
    dsimp only [St.put, Nat.reduceAdd]
    exact W.ret (finN rfl rfl rfl rfl)
  repeat (first | refine W.gob rfl ?_ | refine WL.nil ?_ | refine WL.bt rfl rfl rfl (by omega) ?_ | refine WL.e1 rfl ?_ | refine W.condT rfl ?_)
  refine (?_ : W _ _ _ _ _)
  dsimp only [St.put, Nat.reduceAdd]
  refine W.loop (fun j : Nat => j ≤ 3 ∧ ∀ m, m < 3 * k + j → spN p key m = false) (fun j => ⟨[(0, .sc (.int .i64 p)), (1, .sc (.int .i64 key)), (4, .pt 0 0 0), (6, .sc (.int .i64 k)), (7, .sc (.int .i64 ((j : Int) - 1))), (27, .sc (.int .i64 k))], [(0, .box 118 [.sc (.int .i64 0), .sc (.int .i64 0), .sc (.int .i64 0)])], 1⟩) (fun j => 3 - j) 0 ⟨by omega, by simpa using hno⟩ (Tr.ren id (by repeat (first | exact trivial | refine ⟨⟨?_, ?_⟩, ?_⟩ | rfl)) (by repeat (first | exact trivial | refine ⟨⟨?_, ?_, ?_⟩, ?_⟩ | rfl)) rfl) fun j hj0 => ?_
  obtain ⟨hj3, hno2⟩ := hj0
  by_cases hj : j < 3
  rotate_left
  · repeat (first | refine W.gob rfl ?_ | refine WL.nil ?_ | refine WL.bf rfl rfl rfl (by omega) ?_ | refine WL.e1 rfl ?_ | refine WL.ar rfl rfl (by unfold I64; omega) ?_ | refine W.condF rfl ?_)
    dsimp only [St.put, Nat.reduceAdd]
    refine ⟨k + 1, ⟨by omega, fun m hm => hno2 m (by omega)⟩, by omega, ?_⟩
    exact (Tr.ren id (by repeat (first | exact trivial | refine ⟨⟨?_, ?_⟩, ?_⟩ | rfl)) (by repeat (first | exact trivial | refine ⟨⟨?_, ?_, ?_⟩, ?_⟩ | rfl)) rfl)
  have hl : 0 ≤ (k : Int) ∧ (k : Int) ≤ 6 := by omega
  have htf := tab_fifths hl
  have htb := tab_bases hl
  have hfb := ftV_bd hl
  have hbb := basV_bd hl
  have e3 : (3 * k + j) / 3 = k := by omega
  have e4 : (3 * k + j) % 3 = j := by omega
  have hN : spN p key (3 * k + j) = (decide (key - 3 ≤ ftV k + 7 * ((j : Int) - 1) ∧ ftV k + 7 * ((j : Int) - 1) ≤ key + 8) && (sndOk k ((j : Int) - 1) ((p - ((j : Int) - 1) - basV k + 12) / 12 - 2) && decide (sndV k ((j : Int) - 1) ((p - ((j : Int) - 1) - basV k + 12) / 12 - 2) = p))) := by
    unfold spN spC spWin spO; rw [e3, e4]
  have hfound : spN p key (3 * k + j) = true → spP p key = some ((k : Int), (j : Int) - 1, (p - ((j : Int) - 1) - basV k + 12) / 12 - 2) := fun h => by
    unfold spP
    rw [find_at hno2 h (by omega)]
    unfold spO
    simp only [Option.map_some, e3, e4]
  have hnext : spN p key (3 * k + j) = false → ∀ m, m < 3 * k + (j + 1) → spN p key m = false := fun h m hm => by
    by_cases e : m = 3 * k + j
    · rw [e]; exact h
    · exact hno2 m (by omega)
  have hS := pSounding_G k ((j : Int) - 1) ((p - ((j : Int) - 1) - basV k + 12) / 12 - 2)
  obtain ⟨fv, hfv⟩ : ∃ z, ftV k = z := ⟨_, rfl⟩
  obtain ⟨bv, hbv⟩ : ∃ z, basV k = z := ⟨_, rfl⟩
  rw [hfv] at htf hfb hN
  rw [hbv] at htb hbb hN hS hfound
  obtain ⟨al, hal⟩ : ∃ z, (j : Int) - 1 = z := ⟨_, rfl⟩
  have hal2 : al + 1 = ((j + 1 : Nat) : Int) - 1 := by omega
  rw [hal] at hN hS hfound ⊢
  by_cases hw : key - 3 ≤ fv + 7 * al ∧ fv + 7 * al ≤ key + 8
  rotate_left
  · rw [decide_eq_false hw, Bool.false_and] at hN
    have hw2 : fv + 7 * al < key - 3 ∨ (¬ fv + 7 * al < key - 3 ∧ key + 8 < fv + 7 * al) := by omega
    rcases hw2 with h | h
    all_goals
      repeat (first | refine W.gob rfl ?_ | refine WL.nil ?_ | refine WL.bt rfl rfl rfl (by omega) ?_ | refine WL.e1 rfl ?_ | refine W.condT rfl ?_)
      refine (?_ : WL _ _ _ _ _ _)
      dsimp only [St.put, Nat.reduceAdd]
      refine WL.glob hB rfl rfl ⟨by omega, by omega⟩ htf rfl ?_
      repeat (first | refine W.gob rfl ?_ | refine WL.nil ?_ | refine WL.bt rfl rfl rfl (by omega) ?_ | refine WL.bf rfl rfl rfl (by omega) ?_ | refine WL.e1 rfl ?_ | refine WL.gyes rfl rfl rfl rfl ?_ | refine WL.opno rfl rfl rfl rfl rfl rfl rfl ?_ | refine WL.ar rfl rfl (by unfold I64; omega) ?_ | refine W.condT rfl ?_)
      dsimp only [St.put, Nat.reduceAdd]
      refine ⟨j + 1, ⟨by omega, hnext hN⟩, by omega, ?_⟩
      rw [← hal2]
      exact (Tr.ren id (by repeat (first | exact trivial | refine ⟨⟨?_, ?_⟩, ?_⟩ | rfl)) (by repeat (first | exact trivial | refine ⟨⟨?_, ?_, ?_⟩, ?_⟩ | rfl)) rfl)
  rw [decide_eq_true hw, Bool.true_and] at hN
  repeat (first | refine W.gob rfl ?_ | refine WL.nil ?_ | refine WL.bt rfl rfl rfl (by omega) ?_ | refine WL.e1 rfl ?_ | refine W.condT rfl ?_)
  refine (?_ : WL _ _ _ _ _ _)
  dsimp only [St.put, Nat.reduceAdd]
  refine WL.glob hB rfl rfl ⟨by omega, by omega⟩ htf rfl ?_
  repeat (first | refine W.gob rfl ?_ | refine WL.nil ?_ | refine WL.bf rfl rfl rfl (by omega) ?_ | refine WL.e1 rfl ?_ | refine WL.gyes rfl rfl rfl rfl ?_ | refine WL.ar rfl rfl (by unfold I64; omega) ?_ | refine W.condF rfl ?_)
  refine (?_ : WL _ _ _ _ _ _)
  dsimp only [St.put, Nat.reduceAdd]
  refine WL.glob hB rfl rfl ⟨by omega, by omega⟩ htb rfl ?_
  repeat (first | refine W.gob rfl ?_ | refine WL.nil ?_ | refine WL.e1 rfl ?_ | refine WL.ar rfl rfl (by unfold I64; omega) ?_ | refine WL.div rfl rfl (by omega) ?_)
  refine (?_ : WL _ _ _ _ _ _)
  dsimp only [St.put, Nat.reduceAdd]
  refine WL.vl rfl (WV.callG hB rfl (callF Tryz.func90 rfl rfl) rfl rfl hS) ?_
  obtain ⟨oc, hoc⟩ : ∃ z, (p - al - bv + 12) / 12 - 2 = z := ⟨_, rfl⟩
  rw [hoc] at hN hfound ⊢
  cases hok : sndOk k al oc with
  | false =>
    rw [hok, Bool.false_and] at hN
    rw [(snd_no hok).1, (snd_no hok).2]
    repeat (first | refine W.gob rfl ?_ | refine WL.nil ?_ | refine WL.bf rfl rfl rfl (by omega) ?_ | refine WL.e1 rfl ?_ | refine WL.opno rfl rfl rfl rfl rfl rfl rfl ?_ | refine WL.ar rfl rfl (by unfold I64; omega) ?_ | refine W.condF rfl ?_)
    dsimp only [St.put, Nat.reduceAdd]
    refine ⟨j + 1, ⟨by omega, hnext hN⟩, by omega, ?_⟩
    rw [← hal2]
    exact (Tr.ren (fun q => q) (by repeat (first | exact trivial | refine ⟨⟨?_, ?_⟩, ?_⟩ | rfl)) (by repeat (first | exact trivial | refine ⟨⟨?_, ?_, ?_⟩, ?_⟩ | rfl | exact congrArg (fun q => some (AO.row _ _ q)) (by first | rfl | (simp; done) | (simp [eInt]; done) | (simp [eLk]; done)))) rfl)
  | true =>
    rw [hok, Bool.true_and] at hN
    rw [(snd_ok hok).1, (snd_ok hok).2]
    by_cases hv : sndV k al oc = p
    · rw [decide_eq_true hv] at hN
      have hr := sp_some hp hk (hfound hN)
      rw [hr.1, hr.2]
      repeat (first | refine W.gob rfl ?_ | refine WL.nil ?_ | refine WL.bt rfl rfl rfl (by omega) ?_ | refine WL.e1 rfl ?_ | refine WL.gyes rfl rfl rfl rfl ?_ | refine W.condT rfl ?_)
      refine (?_ : W _ _ _ _ _)
      dsimp only [St.put, Nat.reduceAdd]
      exact W.ret (finN rfl rfl rfl rfl)
    · rw [decide_eq_false hv] at hN
      repeat (first | refine W.gob rfl ?_ | refine WL.nil ?_ | refine WL.bt rfl rfl rfl (by omega) ?_ | refine WL.bf rfl rfl rfl (by omega) ?_ | refine WL.e1 rfl ?_ | refine WL.gyes rfl rfl rfl rfl ?_ | refine WL.ar rfl rfl (by unfold I64; omega) ?_ | refine W.condF rfl ?_)
      dsimp only [St.put, Nat.reduceAdd]
      refine ⟨j + 1, ⟨by omega, hnext hN⟩, by omega, ?_⟩
      rw [← hal2]
      exact (Tr.ren (fun q => q) (by repeat (first | exact trivial | refine ⟨⟨?_, ?_⟩, ?_⟩ | rfl)) (by repeat (first | exact trivial | refine ⟨⟨?_, ?_, ?_⟩, ?_⟩ | rfl | exact congrArg (fun q => some (AO.row _ _ q)) (by first | rfl | (simp; done) | (simp [eInt]; done) | (simp [eLk]; done)))) rfl)
end Go.Proofs.YtkgnmddakiagbaaGreatDoor
namespace Go.Proofs.YtkgnmddakiagbaaGreatDoor
open Go.RowKit
set_option maxRecDepth 100000
set_option maxHeartbeats 4000000
theorem cut_ltr {l : Int} : (cut ltrs l (l + 1)).length ≤ 1 := by simp only [cut, List.length_take, List.length_drop]; omega
/-! Check of an instrument, as a contract over trees. -/
theorem Ctr.of_ins {P : Program} {f : FuncId} {cs : List (Int × Int × Bool)} {st : List Int} {post : List AV} {ys : List Value} {res : AV} {v : Value} (hs2 : scs post = some ys) (hv : ∀ F, RP F res v)
    (h : ∀ w A1 A2 c1 c2, InsAt w w.heap.size A1 A2 cs st → Calls P f (.agg #[.slice A1 cs.length c1, .slice A2 st.length c2] :: ys).toArray w (Ret v w)) : Ctr P f (.ag (eIns cs st) :: post) res := by
  intro w F vs hF hR
  match vs, hR.1, hR.2 with
  | u :: us, hlen, hR2 =>
    have r := hR2 0 _ u rfl rfl
    obtain ⟨xs, rfl, q1, q2⟩ : ∃ xs : Array Value, u = .agg xs ∧ xs.size = 2 ∧ ∀ (i : Nat) av u, (eIns cs st)[i]? = some av → xs[i]? = some u → RP F av u := by
      cases r with | ag l cs a b => exact ⟨cs, rfl, a, b⟩
    have g : ∀ i (h : i < 2), xs[i]? = some (xs[i]'(by omega)) := fun i h => Array.getElem?_eq_getElem (by omega)
    obtain ⟨A1, c1, A2, c2, e1, e2, hI⟩ := ins_of_rp hF (q2 0 _ _ rfl (g 0 (by omega))) (q2 1 _ _ rfl (g 1 (by omega)))
    have ex : xs = #[.slice A1 cs.length c1, .slice A2 st.length c2] := by
      apply Array.ext (by simp [q1])
      intro i hi hi2
      match i, (show i < 2 by omega) with
      | 0, _ => exact e1
      | 1, _ => exact e2
    have ey : us = ys := scs_of (G := ⟨F, fun _ => 0, fun _ => 0, fun _ => undef, fun _ _ => False⟩) hs2 (by simpa using hlen) fun i av u a b => .pu _ _ (hR2 (i + 1) av u (by simpa using a) (by simpa using b))
    subst ex ey
    exact (h w A1 A2 c1 c2 hI).mono fun e w' ⟨he, hb⟩ => ⟨v, F, he, hb, fun _ _ h => h, fun p u x => by rw [hb.cell (cell_block (hF p u x))]; exact hF p u x, fun _ _ h => .inl h, hv F⟩
theorem pInsCheck_FS (cs : List (Int × Int × Bool)) (st : List Int) : Ctr Tryz.prog 116 [.ag (eIns cs st)] (.sc (.int .i64 (insE cs st))) :=
  Ctr.of_ins (post := []) rfl (fun _ => .sc _) fun w A1 A2 c1 c2 hI => insCheck A1 A2 cs st cs.length st.length c1 c2 w hI rfl rfl
theorem rInsCheck_FS (cs : List (Int × Int × Bool)) (st : List Int) : Ctr Tryz.prog 93 [.ag (eIns cs st)] (.sc (.int .i64 (insE cs st))) :=
  Ctr.of_ins (post := []) rfl (fun _ => .sc _) fun w A1 A2 c1 c2 hI => rInsCheck A1 A2 cs st cs.length st.length c1 c2 w hI rfl rfl
end Go.Proofs.YtkgnmddakiagbaaGreatDoor
