/- book.Sing: the program. -/
import Derived.Test.YtkgnmddakiagbaaGreatDoorEHZq
import Derived.Laws.OwnMore
import Derived.Still
import Derived.Lib.Hide
import Derived.Lib.FrozenHead
import Derived.Deep.MidRow
import Derived.Deep.Draws
import Derived.OwnWalk
import Derived.Maps.AppendAt
import Derived.Deep.AppendLies
import Derived.WalkKit
import Derived.Handy
import Derived.WalkLawsBesides
import Derived.Test.YtkgnmddakiagbaaGreatDoorEdPZq
import Derived.Test.YtkgnmddakiagbaaGreatDoorProg
import Derived.BigQuiet
import Derived.Deep.QuietTactic
import Derived.Deep.RegionHeld3
import Derived.Shelf.Strings.Builder1
import Derived.Shelf.Strings.Builder2
import Derived.Shelf.Small.Strs
import Derived.Shelf.Strings.BuilderF
import Derived.Shelf.Strings.BuilderK
import Derived.Shelf.Strings.Builder2Cap
import Derived.Shelf.Strconv.Itoa0
import Derived.Shelf.Strconv.Itoa1
import Derived.Shelf.LaysM
import Derived.Shelf.Strconv.Itoa2
import Derived.Shelf.Strconv.Itoa3
import Derived.Shelf.Strings.Search1
import Derived.Shelf.Strings.Search2
import Derived.Shelf.Strings.Search3
import Derived.Shelf.Strings.Cut
import Derived.Shelf.Strings.Count
import Derived.Shelf.Strings.Shaped
import Derived.Shelf.Strings.Prefix
import Derived.Shelf.Bits.Mul64
import Derived.Shelf.Strings.Repeat
import Derived.Shelf.Unicode.DecodeSlow
import Derived.Shelf.Strings.BuilderCap
import Derived.Lib.ItoaNum
import Derived.Laws.StructEq
import Derived.Deep.RegionWith
import Derived.Deep.DeepCutAuto
import Derived.Shelf.Strings.OnBuilder
import Derived.RangeFuncNested
import Derived.RangeFuncBound
import Derived.RangeFuncCalls
import Derived.RangeFuncLeaves
import Derived.RangeFuncBox
import Derived.Shelf.Abstract
import Derived.Shelf.RegionOpen
import Derived.OwnWalkIn
import Derived.TacticsInMore
import Derived.LoopNIn
import Derived.LoopIn
import Derived.WideKeyRuns
import Derived.DeepKeys3
set_option linter.unusedVariables false
set_option linter.unusedSimpArgs false
namespace Go.Proofs.YtkgnmddakiagbaaGreatDoor
open Go.RowKit
def lendB (M : List (Nat × AO)) : AV → AV
  | .sl k => match look k M with
    | some (.row _ n rows) => .ls n rows
    | _ => .sl k
  | av => av
section
variable {B : World → View → Prop} {gl : Nat} {P : Program} {C : Cx} {ops : Array Oper} {rest : List Oper} {σ σ' : St} {G G' : Gh} {a : Act} {w w' : World} {o : Oper} {d : Tmp} {Q : Exit → St → Prop}
theorem lend_rp (ok : Ok C σ G a w) {av : AV} {v : Value} (h : R G av v) (hp : (lendB σ.M av).pu2 = true) : RP (fun q => w.cell? q) (lendB σ.M av) v := by
  have hF : G.F.le fun q => w.cell? q := fun p u x => ok.fw p u x
  have std : lendB σ.M av = av → RP (fun q => w.cell? q) (lendB σ.M av) v := fun e => by
    rw [e] at hp ⊢
    exact RP.mono hF ((pu2_bd hp 0).rp h)
  cases av with
  | sl k =>
    cases hk : look k σ.M with
    | none => exact std (by simp only [lendB, hk])
    | some ob =>
      cases ob with
      | row T n rows =>
        have e : lendB σ.M (.sl k) = .ls n rows := by simp only [lendB, hk]
        rw [e, h.sl_of.1]
        obtain ⟨_, _, hob⟩ := ok.ob k _ hk
        have := RowIs.fix (F' := fun q => w.cell? q) id hob.2.2 (fun _ _ => rfl) fun i r j av u ψ _ _ _ x => RP.mono hF x
        simpa using this
      | _ => exact std (by simp only [lendB, hk])
  | _ => exact std rfl
theorem truST : ∀ w F F', View.le F F' → truB w F → truB w F' := fun _ _ _ _ h => h
end
end Go.Proofs.YtkgnmddakiagbaaGreatDoor
namespace Go.Proofs.YtkgnmddakiagbaaGreatDoor
open Go.RowKit
def onB : AV → Bool
  | .sc v => v.oneCell'
  | .ls _ _ => true
  | _ => false
def lendP (M : List (Nat × AO)) : AV → AV
  | .pt k 0 0 => match look k M with
    | some (.box _ cells) => bif cells.all onB then .pr cells else .pt k 0 0
    | _ => .pt k 0 0
  | av => lendB M av
def lendC (M : List (Nat × AO)) : AV → AV
  | .fn f l => .fn f (l.map (lendP M))
  | av => lendP M av
section
variable {B : World → View → Prop} {gl : Nat} {P : Program} {C : Cx} {ops : Array Oper} {rest : List Oper} {σ σ' : St} {G G' : Gh} {a : Act} {w w' : World} {o : Oper} {d : Tmp} {Q : Exit → St → Prop}
theorem onB_of {av : AV} {u : Value} (h : onB av = true) (r : R G av u) : u.oneCell' = true ∧ RP G.F av u ∧ av.own = false := by
  cases av with
  | sc v =>
    obtain rfl := r.sc_eq
    exact ⟨h, .sc _, rfl⟩
  | ls n rows =>
    have h2 : RP G.F (.ls n rows) u := (pu2_bd (av := .ls n rows) rfl 0).rp r
    obtain ⟨A, cap, ad, u', rfl, _⟩ := h2.ls_of
    exact ⟨rfl, h2, rfl⟩
  | _ => cases h
theorem lendP_rp (ok : Ok C σ G a w) {av : AV} {v : Value} (h : R G av v) (hp : (lendP σ.M av).pu2 = true) : RP (fun q => w.cell? q) (lendP σ.M av) v := by
  have hF : G.F.le fun q => w.cell? q := fun p u x => ok.fw p u x
  cases av with
  | pt k i j =>
    cases i with
    | succ i => exact lend_rp ok h hp
    | zero =>
      cases j with
      | succ j => exact lend_rp ok h hp
      | zero =>
        cases hk : look k σ.M with
        | none =>
          have e : lendP σ.M (.pt k 0 0) = .pt k 0 0 := by simp only [lendP, hk]
          rw [e] at hp; cases hp
        | some ob =>
          cases ob with
          | box T cells =>
            have e : lendP σ.M (.pt k 0 0) = bif cells.all onB then .pr cells else .pt k 0 0 := by simp only [lendP, hk]
            rw [e] at hp ⊢
            cases hc : cells.all onB with
            | false => rw [hc] at hp; cases hp
            | true =>
              obtain ⟨p, rfl, h1, h2, h3⟩ := h.pt_of
              have hcell : ∀ (j : Nat) av, cells[j]? = some av → ∃ u, w.cell? (p.add j) = some u ∧ u.oneCell' = true ∧ RP G.F av u := fun j av hj => by
                have hb := List.all_eq_true.1 hc av (List.mem_of_getElem? hj)
                have ho : av.own = false := by cases av <;> first | rfl | cases hb
                obtain ⟨u, hu, hr, _⟩ := ok.cell (i := 0) (j := 0) (l := cells) hk rfl hj h1 h2 h3 ho
                obtain ⟨q1, q2, _⟩ := onB_of hb hr
                exact ⟨u, hu, q1, q2⟩
              show RP _ (.pr cells) _
              refine .pr cells p (fun j => (w.cell? (p.add j)).getD undef) (fun j av hj => ?_) (fun j av hj => ?_)
              · obtain ⟨u, hu, q1, q2⟩ := hcell j av hj
                rw [hu]; exact ⟨rfl, q1⟩
              · obtain ⟨u, hu, q1, q2⟩ := hcell j av hj
                rw [hu]; exact q2.mono hF
          | _ =>
            have e : lendP σ.M (.pt k 0 0) = .pt k 0 0 := by simp only [lendP, hk]
            rw [e] at hp; cases hp
  | _ => exact lend_rp ok h hp
theorem lendC_rp (ok : Ok C σ G a w) {av : AV} {v : Value} (h : R G av v) (hp : (lendC σ.M av).pu2 = true) : RP (fun q => w.cell? q) (lendC σ.M av) v := by
  cases av with
  | fn f l =>
    obtain ⟨cs, rfl, h1, h2⟩ := h.fn_of
    show RP _ (.fn f (l.map (lendP σ.M))) _
    refine .fn f _ cs (by rw [h1, List.length_map]) fun i av u a b => ?_
    rw [List.getElem?_map] at a
    cases hi : l[i]? with
    | none => simp [hi] at a
    | some av0 =>
      simp only [hi, Option.map_some, Option.some.injEq] at a
      subst a
      refine lendP_rp ok (h2 i av0 u hi b) ?_
      have hall : (l.map (lendP σ.M)).all AV.pu00 = true := hp
      have h3 : (lendP σ.M av0).pu00 = true := List.all_eq_true.1 hall _ (List.mem_of_getElem? (by rw [List.getElem?_map, hi]; rfl))
      generalize lendP σ.M av0 = q at h3 ⊢
      cases q <;> first | rfl | cases h3
  | _ => exact lendP_rp ok h hp
theorem WV.lendV (hB : Holds B gl C) {f : FuncId} {y : Operand} {fv : AV} {xs : Array Operand} {ts : Array TypeId} {args0 caps args args' : List AV} {res : Value} (ho : o.op = .call { callee := .value y, args := xs, argTypes := ts }) (hc : ∀ vs w, (callFunc f vs).run P w = .ok (.enter f vs) w)
    (hy : σ.ev y = some fv) (hf : fnOf fv = some (f, caps)) (hx : σ.evs xs.toList = some args0) (hcat : args0 ++ caps = args) (hl : args.map (lendC σ.M) = args') (hp : args'.all AV.pu2 = true) (hst : ∀ w F F', View.le F F' → B w F → B w F') (h : Ctg B P f args' (.sc res)) : WV P C o σ (.sc res) := by
  intro G a w ok N Q' hN
  obtain ⟨cs, ey, h1, h2⟩ := fnOf_of hf (ok.evr hy).2
  obtain ⟨e1, e2⟩ := ok.evl2 hx h1 h2 hcat
  subst hl
  have hF : G.F.le fun q => w.cell? q := fun p u x => ok.fw p u x
  refine call_wp ho hc ey (h w (fun q => w.cell? q) _ (hst w _ _ hF (hB.1 w G.F ok.bel ok.f0)) (fun _ _ x => x) ⟨by rw [e1, List.length_map], fun i av u p q => ?_⟩) fun e w1 ⟨v, F', he, hb, h1, h2, h3, h4⟩ => ?_
  · rw [List.getElem?_map] at p
    cases hi : args[i]? with
    | none => simp [hi] at p
    | some av0 =>
      simp only [hi, Option.map_some, Option.some.injEq] at p
      subst p
      exact lendC_rp ok (e2 i av0 u hi q) (List.all_eq_true.1 hp _ (List.mem_of_getElem? (by rw [List.getElem?_map, hi]; rfl)))
  · have hv := h4.sc_eq
    subst hv
    exact ⟨_, he, hN _ { G with F := G.F } w1 (fun σ'' a'' ok'' => ok''.called hb (fun _ _ x => x) (fun p u x => by rw [hb.cell (cell_block (ok.fw p u x))]; exact ok.fw p u x) (fun _ _ x => .inl x)) (.pu _ _ (.sc _)) (RP.bd (F := G.F) (.sc _) _)⟩
end
end Go.Proofs.YtkgnmddakiagbaaGreatDoor
namespace Go.Proofs.YtkgnmddakiagbaaGreatDoor
open Go.RowKit
section
variable {P : Program} {C : Cx} {σ : St} {o : Oper} {d : Tmp} {ops : Array Oper} {rest : List Oper} {Q : Exit → St → Prop} {mem : List Bool} {Mc : List (Nat × AO)} {nk0 k : Nat}
theorem DMK.vl {av : AV} (hd : memB C.N ops mem Mc k nk0 σ.t o = some (d, true)) (h : WV P C o ⟨onlyT σ.t (o.looksAt ops), Mc, nk0⟩ av)
    (K : DMK P C ops mem Mc nk0 (k + 1) rest (σ.put d av) Q) : DMK P C ops mem Mc nk0 k (o :: rest) σ Q := DMK.v0 hd h K
theorem W.meet2 {Q1 Q2 Q3 : Exit → St → Prop} {r x y : Code} (σm : St) (h : W P C r σ (QThen (fun s => W P C x s (QThen (fun s => Tr C s σm) Q2)) Q1)) (K : W P C y σm Q3) : W P C r σ (QThen (fun s => W P C x s (QThen (fun s => W P C y s Q3) Q2)) Q1) :=
  W.mono h fun e s q => by
    cases e with
    | normal => exact W.meet σm q K
    | _ => exact q
end
end Go.Proofs.YtkgnmddakiagbaaGreatDoor
namespace Go.Proofs.YtkgnmddakiagbaaGreatDoor
open Go.RowKit
set_option maxRecDepth 100000
set_option maxHeartbeats 4000000
def altA (a : Int) : Int := if a = 1 then 1 else if a = 2 then -1 else 0
def cntS (ev : Int) (l : List Int) : Nat := (l.filter fun x => decide (x ≤ ev)).length
theorem cntS_take {ev : Int} {l : List Int} {k : Nat} (h : k < l.length) : cntS ev (l.take (k + 1)) = if l[k] ≤ ev then cntS ev (l.take k) + 1 else cntS ev (l.take k) := by
  unfold cntS
  rw [List.take_succ_eq_append_getElem h, List.filter_append, List.length_append]
  by_cases h2 : l[k] ≤ ev <;> simp [h2]
theorem cntS_le (ev : Int) (l : List Int) : cntS ev l ≤ l.length := List.length_filter_le _ _
end Go.Proofs.YtkgnmddakiagbaaGreatDoor
namespace Go.Proofs.YtkgnmddakiagbaaGreatDoor
open Go.RowKit
def scanK (st : List Int) (m : Nat) (k : Ln) : List Sf → Int
  | [] => 0
  | x :: r => if cntS x.1 st = m then (if (x.2.1, x.2.2.1) = k ∧ 0 < x.2.2.2 then x.2.2.2 else scanK st m k r) else 0
def frcR (st : List Int) (key : Int) (ev : Int) (k : Ln) (prev : List Sf) : Int := if 0 < scanK st (cntS ev st) k prev then altA (scanK st (cntS ev st) k prev) else sigB key (byteOf k.1)
def fitA (a v : Int) : Prop := (a = 0 ∧ v = 0) ∨ (0 < a ∧ a ≤ 3 ∧ v = altA a + 2)
end Go.Proofs.YtkgnmddakiagbaaGreatDoor
namespace Go.Proofs.YtkgnmddakiagbaaGreatDoor
open Go.RowKit
abbrev atL (x : Sf) : Ln := (x.2.1, x.2.2.1)
def sngA (st : List Int) (key : Int) (prev : List Sf) (x : Sf) : Int := if 0 < x.2.2.2 then altA x.2.2.2 else frcR st key x.1 (atL x) prev
def sngE (st : List Int) (key : Int) (prev : List Sf) (x : Sf) : Int := if x.2.2.2 < 0 ∨ 3 < x.2.2.2 then 1 else sndX x.2.1 (sngA st key prev x) x.2.2.1
def sngQ (st : List Int) (key : Int) (prev : List Sf) (x : Sf) : Int := sndR x.2.1 (sngA st key prev x) x.2.2.1
def sngX (st : List Int) (key : Int) : List Sf → List Sf → Int
  | _, [] => 0
  | prev, x :: r => if sngE st key prev x = 0 then sngX st key (x :: prev) r else sngE st key prev x
def sngV (st : List Int) (key : Int) : List Sf → List Sf → List Int
  | _, [] => []
  | prev, x :: r => sngQ st key prev x :: sngV st key (x :: prev) r
def snX (L : List Sf) (st : List Int) (key : Int) : Int := if key < -4 ∨ 4 < key then 1 else sngX st key [] L
def snL (L : List Sf) (st : List Int) (key : Int) : List Int := if snX L st key = 0 then sngV st key [] L else []
def sngW (st : List Int) (prev : List Sf) (x : Sf) (alt : List (Ln × Int)) : List (Ln × Int) := match prev with
  | [] => alt
  | y :: _ => if cntS x.1 st = cntS y.1 st then alt else []
def sngU (x : Sf) (alt : List (Ln × Int)) : List (Ln × Int) := if 0 < x.2.2.2 then updA (atL x) (altA x.2.2.2 + 2) alt else alt
def FitG (st : List Int) : List Sf → List (Ln × Int) → Prop
  | [], alt => alt = []
  | y :: r, alt => ∀ k, fitA (scanK st (cntS y.1 st) k (y :: r)) (lookA k alt)
theorem altA_bd (a : Int) : -1 ≤ altA a ∧ altA a ≤ 1 := by unfold altA; split <;> (try split) <;> omega
theorem FitG.alt {st : List Int} : ∀ {prev : List Sf} {alt : List (Ln × Int)}, FitG st prev alt → AltOk alt
  | [], alt, h => by
    have : alt = [] := h
    subst this; exact AltOk.nil
  | y :: r, alt, h => fun k => by
    rcases h k with ⟨_, h2⟩ | ⟨_, _, h3⟩
    · omega
    · have := altA_bd (scanK st (cntS y.1 st) k (y :: r)); omega
theorem fit_new {st : List Int} {prev : List Sf} {alt : List (Ln × Int)} (h : FitG st prev alt) (x : Sf) : ∀ k, fitA (scanK st (cntS x.1 st) k prev) (lookA k (sngW st prev x alt)) := by
  intro k
  cases prev with
  | nil =>
    have : alt = [] := h
    subst this
    exact .inl ⟨rfl, rfl⟩
  | cons y r =>
    show fitA _ (lookA k (if cntS x.1 st = cntS y.1 st then alt else []))
    by_cases he : cntS x.1 st = cntS y.1 st
    · rw [if_pos he, he]; exact h k
    · rw [if_neg he]
      refine .inl ⟨?_, rfl⟩
      unfold scanK
      rw [if_neg fun q => he q.symm]
theorem AltOk.sngW {st : List Int} {prev : List Sf} {alt : List (Ln × Int)} (h : AltOk alt) (x : Sf) : AltOk (sngW st prev x alt) := by
  unfold Go.Proofs.YtkgnmddakiagbaaGreatDoor.sngW
  split
  · exact h
  · split
    · exact h
    · exact AltOk.nil
theorem AltOk.sngU {alt : List (Ln × Int)} (h : AltOk alt) (x : Sf) : AltOk (sngU x alt) := by
  unfold Go.Proofs.YtkgnmddakiagbaaGreatDoor.sngU
  split
  · have := altA_bd x.2.2.2
    exact h.upd _ ⟨by omega, by omega⟩
  · exact h
theorem sng_step {st : List Int} {key : Int} {prev : List Sf} {alt : List (Ln × Int)} (h : FitG st prev alt) (x : Sf) (ha : 0 ≤ x.2.2.2 ∧ x.2.2.2 ≤ 3) :
    frcA key (sngU x (sngW st prev x alt)) (atL x) = sngA st key prev x ∧ FitG st (x :: prev) (sngU x (sngW st prev x alt)) := by
  have h1 := fit_new h x
  obtain ⟨A, hA⟩ : ∃ A, sngW st prev x alt = A := ⟨_, rfl⟩
  rw [hA] at h1 ⊢
  by_cases hp : 0 < x.2.2.2
  · have e : sngU x A = updA (atL x) (altA x.2.2.2 + 2) A := if_pos hp
    have hb := altA_bd x.2.2.2
    rw [e]
    refine ⟨?_, fun k => ?_⟩
    · unfold frcA sngA
      rw [lookA_upd, if_pos rfl, if_pos hp, if_pos (by omega)]; omega
    · unfold scanK
      rw [if_pos rfl, lookA_upd]
      by_cases hk : (x.2.1, x.2.2.1) = k
      · rw [if_pos ⟨hk, hp⟩, if_pos hk.symm]
        exact .inr ⟨hp, ha.2, rfl⟩
      · rw [if_neg fun q => hk q.1, if_neg fun q => hk q.symm]
        exact h1 k
  · have e : sngU x A = A := if_neg hp
    rw [e]
    refine ⟨?_, fun k => ?_⟩
    · unfold frcA sngA frcR
      rw [if_neg hp]
      rcases h1 (atL x) with ⟨h2, h3⟩ | ⟨h2, h3, h4⟩
      · rw [h2, h3]; rfl
      · have hb := altA_bd (scanK st (cntS x.1 st) (atL x) prev)
        rw [if_pos h2, if_pos (by omega), h4]; omega
    · unfold scanK
      rw [if_pos rfl, if_neg fun q => hp q.2]
      exact h1 k
/-! As the notes are gone through. -/
theorem sngX_at (st : List Int) (key : Int) : ∀ (L prev : List Sf) (k : Nat) (h : k < L.length), (∀ i (hi : i < k), sngE st key ((L.take i).reverse ++ prev) (L[i]'(by omega)) = 0) → sngE st key ((L.take k).reverse ++ prev) L[k] ≠ 0 → sngX st key prev L = sngE st key ((L.take k).reverse ++ prev) L[k]
  | [], _, k, h, _, _ => by simp at h
  | x :: r, prev, 0, _, _, h2 => if_neg h2
  | x :: r, prev, k + 1, h, h1, h2 => by
    have h0 := h1 0 (by omega)
    have h0 : sngE st key prev x = 0 := h0
    have e : sngX st key prev (x :: r) = sngX st key (x :: prev) r := if_pos h0
    have e2 : ((x :: r).take (k + 1)).reverse ++ prev = (r.take k).reverse ++ x :: prev := by simp
    rw [e, sngX_at st key r (x :: prev) k (by simpa using h) (fun i hi => by
      have := h1 (i + 1) (by omega)
      have e3 : ((x :: r).take (i + 1)).reverse ++ prev = (r.take i).reverse ++ x :: prev := by simp
      rw [e3] at this
      exact this) (by rw [e2] at h2; exact h2)]
    rw [e2]; rfl
theorem sngX_all (st : List Int) (key : Int) : ∀ (L prev : List Sf), (∀ i (hi : i < L.length), sngE st key ((L.take i).reverse ++ prev) L[i] = 0) → sngX st key prev L = 0
  | [], _, _ => rfl
  | x :: r, prev, h => by
    have h0 : sngE st key prev x = 0 := h 0 (by simp)
    have e : sngX st key prev (x :: r) = sngX st key (x :: prev) r := if_pos h0
    rw [e]
    refine sngX_all st key r (x :: prev) fun i hi => ?_
    have := h (i + 1) (by simpa using hi)
    have e3 : ((x :: r).take (i + 1)).reverse ++ prev = (r.take i).reverse ++ x :: prev := by simp
    rw [e3] at this
    exact this
theorem sngV_length (st : List Int) (key : Int) : ∀ (L prev : List Sf), (sngV st key prev L).length = L.length
  | [], _ => rfl
  | x :: r, prev => by simp [sngV, sngV_length st key r]
theorem sngV_take (st : List Int) (key : Int) : ∀ (L prev : List Sf) (k : Nat) (h : k < L.length), (sngV st key prev L).take (k + 1) = (sngV st key prev L).take k ++ [sngQ st key ((L.take k).reverse ++ prev) L[k]]
  | [], _, k, h => by simp at h
  | x :: r, prev, 0, _ => rfl
  | x :: r, prev, k + 1, h => by
    have e3 : ((x :: r).take (k + 1)).reverse ++ prev = (r.take k).reverse ++ x :: prev := by simp
    rw [e3]
    have := sngV_take st key r (x :: prev) k (by simpa using h)
    simp only [sngV, List.take_succ_cons, List.cons_append, List.cons.injEq, true_and, List.getElem_cons_succ]
    exact this
theorem rev_take {L : List Sf} {k : Nat} (h : k < L.length) : (L.take (k + 1)).reverse = L[k] :: (L.take k).reverse := by
  rw [List.take_succ_eq_append_getElem h, List.reverse_append]; rfl
end Go.Proofs.YtkgnmddakiagbaaGreatDoor
namespace Go.Proofs.YtkgnmddakiagbaaGreatDoor
open Go.RowKit
set_option maxHeartbeats 8000000
set_option maxRecDepth 100000
theorem alt_FS (a : Int) : Ctr Tryz.prog 89 [.sc (.int .i64 a)] (.sc (.int .i64 (altA a))) := by
  unfold altA
  by_cases h1 : a = 1
  · rw [if_pos h1]
    refine Ctr.intro Tryz.func89 rfl Tryz.ntmps89 (Nat.le_of_ble_eq_true rfl) (bd_all rfl) fun w0 F0 => ?_; dsimp only [St.init, number, Nat.reduceAdd]
    repeat (first | refine W.gob rfl ?_ | refine WL.nil ?_ | refine WL.bt rfl rfl rfl (by omega) ?_ | refine WL.e1 rfl ?_ | refine W.condT rfl ?_)
    refine (?_ : W _ _ _ _ _)
    dsimp only [St.put, Nat.reduceAdd]
    exact W.ret (fin1 rfl rfl rfl rfl)
  · rw [if_neg h1]
    by_cases h2 : a = 2
    · rw [if_pos h2]
      refine Ctr.intro Tryz.func89 rfl Tryz.ntmps89 (Nat.le_of_ble_eq_true rfl) (bd_all rfl) fun w0 F0 => ?_; dsimp only [St.init, number, Nat.reduceAdd]
      repeat (first | refine W.gob rfl ?_ | refine WL.nil ?_ | refine WL.bt rfl rfl rfl (by omega) ?_ | refine WL.bf rfl rfl rfl (by omega) ?_ | refine WL.e1 rfl ?_ | refine W.condT rfl ?_ | refine W.condF rfl ?_)
      refine (?_ : W _ _ _ _ _)
      dsimp only [St.put, Nat.reduceAdd]
      exact W.ret (fin1 rfl rfl rfl rfl)
    · rw [if_neg h2]
      refine Ctr.intro Tryz.func89 rfl Tryz.ntmps89 (Nat.le_of_ble_eq_true rfl) (bd_all rfl) fun w0 F0 => ?_; dsimp only [St.init, number, Nat.reduceAdd]
      repeat (first | refine W.gob rfl ?_ | refine WL.nil ?_ | refine WL.bf rfl rfl rfl (by omega) ?_ | refine WL.e1 rfl ?_ | refine W.condF rfl ?_)
      refine (?_ : W _ _ _ _ _)
      dsimp only [St.put, Nat.reduceAdd]
      exact W.ret (fin1 rfl rfl rfl rfl)
theorem sing1_FS (l : List Int) (hl : l.length ≤ 1000000) (ev : Int) : Ctr Tryz.prog 88 [.sc (.int .i64 ev), .pr [.ls 1 (l.map eInt)]] (.sc (.int .i64 (cntS ev l : Nat))) := by
  refine Ctr.intro Tryz.func88 rfl Tryz.ntmps88 (Nat.le_of_ble_eq_true rfl) (bd_all rfl) fun w0 F0 => ?_; dsimp only [St.init, number, Nat.reduceAdd]
  repeat (first | refine W.go rfl ?_ | refine WL.ev rfl ?_ | refine WL.len rfl rfl (by first | exact List.length_map _ | exact List.length_replicate | rfl) ?_)
  refine (?_ : W _ _ _ _ _)
  dsimp only [St.put, Nat.reduceAdd]
  refine W.loop (fun k : Nat => k ≤ l.length) (fun k => ⟨[(0, .sc (.int .i64 ev)), (4, .sc (.int .i64 (cntS ev (l.take k) : Nat))), (7, .ls 1 (l.map eInt)), (8, .sc (.int .i64 l.length)), (9, .sc (.int .i64 k))], [], 0⟩) (fun k => l.length - k) 0 (by omega) (Tr.ren id (by repeat (first | exact trivial | refine ⟨⟨?_, ?_⟩, ?_⟩ | rfl)) (by repeat (first | exact trivial | refine ⟨⟨?_, ?_, ?_⟩, ?_⟩ | rfl)) rfl) fun k hk => ?_
  by_cases hlt : k < l.length
  · have hc := cntS_take (ev := ev) hlt
    have hle := cntS_le ev (l.take k)
    rw [List.length_take] at hle
    obtain ⟨x, hx⟩ : ∃ x, l[k] = x := ⟨_, rfl⟩
    rw [hx] at hc
    by_cases h2 : x ≤ ev
    · rw [if_pos h2] at hc
      rw [← hx] at h2
      repeat (first | refine W.gob rfl ?_ | refine WL.nil ?_ | refine WL.bt rfl rfl rfl (by omega) ?_ | refine WL.e1 rfl ?_ | refine WL.ar rfl rfl (by unfold I64; omega) ?_ | refine WL.idx rfl rfl (by omega) (by first | exact map_at (by omega) | exact map_atZ (by omega) (by omega)) ?_ | refine W.condT rfl ?_)
      dsimp only [St.put, Nat.reduceAdd]
      refine ⟨k + 1, by omega, by omega, ?_⟩
      rw [hc]
      exact (Tr.ren id (by repeat (first | exact trivial | refine ⟨⟨?_, ?_⟩, ?_⟩ | rfl)) (by repeat (first | exact trivial | refine ⟨⟨?_, ?_, ?_⟩, ?_⟩ | rfl)) rfl)
    · rw [if_neg h2] at hc
      rw [← hx] at h2
      repeat (first | refine W.gob rfl ?_ | refine WL.nil ?_ | refine WL.bt rfl rfl rfl (by omega) ?_ | refine WL.bf rfl rfl rfl (by omega) ?_ | refine WL.e1 rfl ?_ | refine WL.ar rfl rfl (by unfold I64; omega) ?_ | refine WL.idx rfl rfl (by omega) (by first | exact map_at (by omega) | exact map_atZ (by omega) (by omega)) ?_ | refine W.condT rfl ?_ | refine W.condF rfl ?_)
      dsimp only [St.put, Nat.reduceAdd]
      refine ⟨k + 1, by omega, by omega, ?_⟩
      rw [hc]
      exact (Tr.ren id (by repeat (first | exact trivial | refine ⟨⟨?_, ?_⟩, ?_⟩ | rfl)) (by repeat (first | exact trivial | refine ⟨⟨?_, ?_, ?_⟩, ?_⟩ | rfl)) rfl)
  obtain rfl : k = l.length := by omega
  rw [List.take_length]
  repeat (first | refine W.gob rfl ?_ | refine WL.nil ?_ | refine WL.bf rfl rfl rfl (by omega) ?_ | refine WL.e1 rfl ?_ | refine W.condF rfl ?_)
  refine (?_ : W _ _ _ _ _)
  dsimp only [St.put, Nat.reduceAdd]
  exact W.ret (fin1 rfl rfl rfl rfl)
theorem snX_err {L : List Sf} {st : List Int} {key : Int} (hk : -4 ≤ key ∧ key ≤ 4) {k : Nat} (h : k < L.length) (h1 : ∀ i (hi : i < k), sngE st key (L.take i).reverse (L[i]'(by omega)) = 0) (h2 : sngE st key (L.take k).reverse L[k] ≠ 0) :
    snX L st key = sngE st key (L.take k).reverse L[k] ∧ snL L st key = [] := by
  have e := sngX_at st key L [] k h (fun i hi => by simpa using h1 i hi) (by simpa using h2)
  have e : sngX st key [] L = sngE st key (L.take k).reverse L[k] := by simpa using e
  have e1 : snX L st key = sngE st key (L.take k).reverse L[k] := by
    unfold snX
    rw [if_neg (by omega), e]
  exact ⟨e1, if_neg (by rw [e1]; exact h2)⟩
theorem snX_ok {L : List Sf} {st : List Int} {key : Int} (hk : -4 ≤ key ∧ key ≤ 4) (h1 : ∀ i (hi : i < L.length), sngE st key (L.take i).reverse L[i] = 0) :
    snX L st key = 0 ∧ snL L st key = sngV st key [] L := by
  have e := sngX_all st key L [] (fun i hi => by simpa using h1 i hi)
  have e1 : snX L st key = 0 := by
    unfold snX
    rw [if_neg (by omega), e]
  exact ⟨e1, if_pos e1⟩
theorem pSing_G (L : List Sf) (st : List Int) (key : Int) (hl : L.length ≤ 10000) (hst : st.length ≤ 1000000) :
    Ctg tabB Tryz.prog 33 [.ls 4 (L.map eSf), .ls 1 (st.map eInt), .sc (.int .i64 key)] (.tu [.ls 1 ((snL L st key).map eInt), .sc (.int .i64 (snX L st key))]) := by
  by_cases hk : key < -4 ∨ 4 < key
  · have e1 : snX L st key = 1 := if_pos hk
    have e2 : snL L st key = [] := if_neg (by rw [e1]; decide)
    rw [e2, e1]
    have hk2 : key < -4 ∨ (¬ key < -4 ∧ key > 4) := by omega
    rcases hk2 with hk2 | hk2
    all_goals
      refine Ctg.intro stabB Tryz.func33 rfl Tryz.ntmps33 (Nat.le_of_ble_eq_true rfl) (bd_all rfl) fun w0 F0 hB => ?_; dsimp only [St.init, number, Nat.reduceAdd]
      repeat (first | refine W.gob rfl ?_ | refine WL.nil ?_ | refine WL.bt rfl rfl rfl (by omega) ?_ | refine WL.bf rfl rfl rfl (by omega) ?_ | refine WL.e1 rfl ?_ | refine WL.gyes rfl rfl rfl rfl ?_ | refine WL.opno rfl rfl rfl rfl rfl rfl rfl ?_ | refine W.condT rfl ?_)
      refine (?_ : W _ _ _ _ _)
      dsimp only [St.put, Nat.reduceAdd]
      refine W.tr (Tr.nilR (t := 6) 1 rfl) ?_
      exact W.ret (finN rfl rfl rfl rfl)
  have hk2 : -4 ≤ key ∧ key ≤ 4 := by omega
  have hvl := sngV_length st key L []
  refine Ctg.intro stabB Tryz.func33 rfl Tryz.ntmps33 (Nat.le_of_ble_eq_true rfl) (bd_all rfl) fun w0 F0 hB => ?_; dsimp only [St.init, number, Nat.reduceAdd]
  repeat (first | refine W.gob rfl ?_ | refine WL.nil ?_ | refine WL.bf rfl rfl rfl (by omega) ?_ | refine WL.e1 rfl ?_ | refine WL.gyes rfl rfl rfl rfl ?_ | refine W.condF rfl ?_)
  refine (?_ : WL _ _ _ _ _ _)
  dsimp only [St.put, Nat.reduceAdd]
  refine WL.vl rfl (WV.mkf rfl rfl) ?_
  repeat (first | refine W.go rfl ?_ | refine WL.ev rfl ?_)
  refine (?_ : WL _ _ _ _ _ _)
  dsimp only [St.put, Nat.reduceAdd]
  refine WL.cto (truH _) [] rfl rfl (callF Tryz.func61 rfl rfl) (newStaff_FS key) rfl rfl rfl trivial rfl rfl rfl rfl ?_
  repeat (first | refine W.go rfl ?_ | refine WL.ev rfl ?_ | refine WL.len rfl rfl (by first | exact List.length_map _ | exact List.length_replicate | rfl) ?_)
  refine (?_ : W _ _ _ _ _)
  dsimp only [St.put, Nat.reduceAdd]
  refine W.tr (Tr.nil (t := 10) 3 1 rfl rfl) ?_
  dsimp only [St.put, St.new, St.upd, Nat.reduceAdd]
  refine W.loop (fun s : Nat × List (Ln × Int) => s.1 ≤ L.length ∧ FitG st (L.take s.1).reverse s.2 ∧ ∀ i (hi : i < s.1) (h2 : i < L.length), sngE st key (L.take i).reverse L[i] = 0) (fun s => ⟨[(0, .ls 4 (L.map eSf)), (2, .sc (.int .i64 key)), (8, .fn 88 [.pt 0 0 0]), (9, .pt 2 0 0), (10, .sl 3), (25, .ls 4 (L.map eSf)), (26, .sc (.int .i64 L.length)), (27, .sc (.int .i64 s.1))], [(0, .box 24 [.ls 1 (st.map eInt)]), (1, .opq (mapQ encLn (valA s.2))), (2, .box 214 [.sc (.int .i64 key), .sl 1]), (3, .row 3 1 (((sngV st key [] L).take s.1).map eInt))], 4⟩) (fun s => L.length - s.1) (0, []) ⟨by simp, rfl, fun i hi => absurd hi (Nat.not_lt_zero i)⟩ (Tr.ren id (by repeat (first | exact trivial | refine ⟨⟨?_, ?_⟩, ?_⟩ | rfl)) (by repeat (first | exact trivial | refine ⟨⟨?_, ?_, ?_⟩, ?_⟩ | rfl)) rfl) fun s hs => ?_
  obtain ⟨k, al⟩ := s
  obtain ⟨hk1, hfit, hgood⟩ := hs
  dsimp only at hk1 hfit hgood ⊢
  by_cases hlt : k < L.length
  rotate_left
  · obtain rfl : k = L.length := by omega
    obtain ⟨e1, e2⟩ := snX_ok hk2 (fun i hi => hgood i hi hi)
    rw [e1, e2, List.take_of_length_le (by omega)]
    repeat (first | refine W.gob rfl ?_ | refine WL.nil ?_ | refine WL.bf rfl rfl rfl (by omega) ?_ | refine WL.e1 rfl ?_ | refine W.condF rfl ?_)
    refine (?_ : W _ _ _ _ _)
    dsimp only [St.put, Nat.reduceAdd]
    refine W.tr (Tr.freeze 3 rfl) ?_
    exact W.ret (finN rfl rfl rfl rfl)
  have hal := hfit.alt
  have hstep := fun (ha : 0 ≤ L[k].2.2.2 ∧ L[k].2.2.2 ≤ 3) => sng_step (key := key) hfit L[k] ha
  have hErr : sngE st key (L.take k).reverse L[k] ≠ 0 → snX L st key = sngE st key (L.take k).reverse L[k] ∧ snL L st key = [] := fun h => snX_err hk2 hlt (fun i hi => hgood i hi (by omega)) h
  have hrev := rev_take hlt
  have hvt := sngV_take st key L [] k hlt
  rw [List.append_nil] at hvt
  have hW : ∀ z : Prop, True := fun _ => trivial
  obtain ⟨A, hA⟩ : ∃ A, sngW st (L.take k).reverse L[k] al = A := ⟨_, rfl⟩
  have hAok : AltOk A := by rw [← hA]; exact hal.sngW L[k]
  rw [hA] at hstep
  have hcl := fun ev => cntS_le ev st
  repeat refine W.go rfl ?_
  refine (?_ : W _ _ _ _ _)
  (refine W.cond rfl (fun hif => ?_) (fun hif => ?_) <;> (try simp only [decide_eq_true_eq, decide_eq_false_iff_not, Int.not_lt, Int.not_le, Bool.not_eq_true', Bool.not_eq_false'] at hif))
  rotate_left
  · omega
  repeat (first | refine W.go rfl ?_ | refine WL.ev rfl ?_ | refine WL.idx rfl rfl (by omega) (by first | exact map_at (by omega) | exact map_atZ (by omega) (by omega)) ?_)
  refine (?_ : W _ _ _ _ _)
  dsimp only [St.put, Nat.reduceAdd]
  refine W.meet2 ⟨[(0, .ls 4 (L.map eSf)), (2, .sc (.int .i64 key)), (8, .fn 88 [.pt 0 0 0]), (9, .pt 2 0 0), (10, .sl 3), (25, .ls 4 (L.map eSf)), (26, .sc (.int .i64 L.length)), (27, .sc (.int .i64 k)), (11, .sc (.int .i64 k)), (12, .pt 4 0 0)], [(0, .box 24 [.ls 1 (st.map eInt)]), (1, .opq (mapQ encLn (valA A))), (2, .box 214 [.sc (.int .i64 key), .sl 1]), (3, .row 3 1 (((sngV st key [] L).take k).map eInt)), (4, .box 122 (eSf L[k]))], 5⟩ ?_ ?_
  · by_cases h0 : k = 0
    · have h0' : ¬ (k : Int) > 0 := by omega
      have ht : (L.take k).reverse = [] := by rw [h0]; rfl
      have hAe : A = al := by rw [← hA, ht]; rfl
      rw [hAe]
      refine W.drawK (by kernel_rfl) (by kernel_rfl) ?_
      repeat (first | refine DK.bf rfl rfl (by omega) ?_ | refine DK.ff rfl (by first | (simp; done) | fail) ?_ | refine DK.st rfl ?_ | refine DK.nil ?_)
      repeat (first | refine W.gob rfl ?_ | refine W.condF rfl ?_)
      dsimp only [St.put, Nat.reduceAdd]
      refine (?_ : Tr _ _ _)
      exact (Tr.ren id (by repeat (first | exact trivial | refine ⟨⟨?_, ?_⟩, ?_⟩ | rfl)) (by repeat (first | exact trivial | refine ⟨⟨?_, ?_, ?_⟩, ?_⟩ | rfl)) rfl)
    · have h0' : (k : Int) > 0 := by omega
      have ek : ((k : Int) - 1).toNat = k - 1 := by omega
      have hr1 : (L.take k).reverse = L[k - 1] :: (L.take (k - 1)).reverse := by
        have := rev_take (L := L) (k := k - 1) (by omega)
        rw [show k - 1 + 1 = k by omega] at this
        exact this
      have hc1 := hcl L[k].1
      have hc2 := hcl (L[k - 1]'(by omega)).1
      refine W.drawK (by kernel_rfl) (by kernel_rfl) ?_
      repeat (first | refine DK.bt rfl rfl (by omega) ?_ | refine DK.tt rfl (by first | (simp; done) | fail) ?_ | refine DK.st rfl ?_)
      refine DK.vl rfl (WV.lendV (truH _) rfl (callF Tryz.func88 rfl rfl) rfl rfl rfl rfl rfl rfl truST (sing1_FS st hst L[k].1).g) ?_
      repeat (first | refine DK.st rfl ?_ | refine DK.ar rfl rfl (by unfold I64; omega) ?_ | refine DK.idx rfl rfl (by omega) (by first | exact map_at (by omega) | exact map_atZ (by omega) (by omega)) ?_)
      simp only [ek]
      refine DK.vl rfl (WV.lendV (truH _) rfl (callF Tryz.func88 rfl rfl) rfl rfl rfl rfl rfl rfl truST (sing1_FS st hst (L[k - 1]'(by omega)).1).g) ?_
      repeat (first | refine DK.st rfl ?_ | refine DK.nil ?_)
      by_cases heq : cntS L[k].1 st = cntS (L[k - 1]'(by omega)).1 st
      · have hAe : A = al := by rw [← hA, hr1]; exact if_pos heq
        have hd : decide (((cntS L[k].1 st : Nat) : Int) = (cntS (L[k - 1]'(by omega)).1 st : Nat)) = true := decide_eq_true (by omega)
        rw [hAe, hd]
        repeat (first | refine W.gob rfl ?_ | refine W.condF rfl ?_)
        dsimp only [St.put, Nat.reduceAdd]
        refine (?_ : Tr _ _ _)
        exact (Tr.ren id (by repeat (first | exact trivial | refine ⟨⟨?_, ?_⟩, ?_⟩ | rfl)) (by repeat (first | exact trivial | refine ⟨⟨?_, ?_, ?_⟩, ?_⟩ | rfl)) rfl)
      · have hAe : A = [] := by rw [← hA, hr1]; exact if_neg heq
        have hd : decide (((cntS L[k].1 st : Nat) : Int) = (cntS (L[k - 1]'(by omega)).1 st : Nat)) = false := decide_eq_false (by omega)
        rw [hAe, hd]
        repeat (first | refine W.gob rfl ?_ | refine WL.e1 rfl ?_ | refine W.condT rfl ?_)
        refine (?_ : WL _ _ _ _ _ _)
        dsimp only [St.put, Nat.reduceAdd]
        refine WL.cto (truH _) [1, 2] rfl rfl (callF Tryz.func62 rfl rfl) (stMeasure_FS key al) rfl rfl rfl ⟨⟨rfl, rfl, rfl⟩, ⟨rfl, rfl, rfl⟩, trivial⟩ rfl rfl rfl rfl ?_
        repeat refine WL.nil ?_
        dsimp only [St.put, Nat.reduceAdd]
        refine (?_ : Tr _ _ _)
        exact (Tr.ren id (by repeat (first | exact trivial | refine ⟨⟨?_, ?_⟩, ?_⟩ | rfl)) (by repeat (first | exact trivial | refine ⟨⟨?_, ?_, ?_⟩, ?_⟩ | rfl)) rfl)
  by_cases hb : L[k].2.2.2 < 0 ∨ 3 < L[k].2.2.2
  · have hsE : sngE st key (L.take k).reverse L[k] = 1 := if_pos hb
    obtain ⟨e1, e2⟩ := hErr (by rw [hsE]; decide)
    rw [e1, e2, hsE]
    have hb2 : L[k].2.2.2 < 0 ∨ (¬ L[k].2.2.2 < 0 ∧ L[k].2.2.2 > 3) := by omega
    rcases hb2 with hb2 | hb2
    all_goals
      repeat (first | refine W.gob rfl ?_ | refine WL.nil ?_ | refine WL.bt rfl rfl rfl (by omega) ?_ | refine WL.bf rfl rfl rfl (by omega) ?_ | refine WL.e1 rfl ?_ | refine WL.gyes rfl rfl rfl rfl ?_ | refine WL.opno rfl rfl rfl rfl rfl rfl rfl ?_ | refine W.condT rfl ?_)
      refine (?_ : W _ _ _ _ _)
      dsimp only [St.put, Nat.reduceAdd]
      refine W.tr (Tr.nilR (t := 6) 1 rfl) ?_
      exact W.ret (finN rfl rfl rfl rfl)
  have hb1 : ¬ L[k].2.2.2 < 0 := by omega
  have hb2 : ¬ L[k].2.2.2 > 3 := by omega
  obtain ⟨hfr, hfit2⟩ := hstep ⟨by omega, by omega⟩
  have hUok := hAok.sngU L[k]
  have hsE : sngE st key (L.take k).reverse L[k] = sndX L[k].2.1 (sngA st key (L.take k).reverse L[k]) L[k].2.2.1 := if_neg hb
  have hsQ : sngQ st key (L.take k).reverse L[k] = sndR L[k].2.1 (sngA st key (L.take k).reverse L[k]) L[k].2.2.1 := rfl
  repeat (first | refine W.gob rfl ?_ | refine WL.nil ?_ | refine WL.bf rfl rfl rfl (by omega) ?_ | refine WL.e1 rfl ?_ | refine WL.gyes rfl rfl rfl rfl ?_ | refine W.condF rfl ?_)
  refine (?_ : W _ _ _ _ _)
  dsimp only [St.put, Nat.reduceAdd]
  refine W.meet ⟨[(0, .ls 4 (L.map eSf)), (2, .sc (.int .i64 key)), (8, .fn 88 [.pt 0 0 0]), (9, .pt 2 0 0), (10, .sl 3), (25, .ls 4 (L.map eSf)), (26, .sc (.int .i64 L.length)), (27, .sc (.int .i64 k)), (11, .sc (.int .i64 k)), (12, .pt 4 0 0), (13, .pt 5 0 0)], [(0, .box 24 [.ls 1 (st.map eInt)]), (1, .opq (mapQ encLn (valA (sngU L[k] A)))), (2, .box 214 [.sc (.int .i64 key), .sl 1]), (3, .row 3 1 (((sngV st key [] L).take k).map eInt)), (4, .box 122 (eSf L[k])), (5, .box 124 [.sc (.int .i64 L[k].2.1), .sc (.int .i64 L[k].2.2.1)])], 6⟩ ?_ ?_
  · (refine W.cond rfl (fun hif => ?_) (fun hif => ?_) <;> (try simp only [decide_eq_true_eq, decide_eq_false_iff_not, Int.not_lt, Int.not_le, Bool.not_eq_true', Bool.not_eq_false'] at hif))
    · have hU : sngU L[k] A = updA (L[k].2.1, L[k].2.2.1) (altA L[k].2.2.2 + 2) A := if_pos hif
      rw [hU]
      refine W.dm3 [false, false, false, false, false, true] [4, 5] (by kernel_rfl) (by kernel_rfl) (by kernel_rfl) (by repeat constructor) ?_
      repeat refine DMK.st rfl rfl ?_
      refine DMK.vl rfl (WV.call rfl (callF Tryz.func89 rfl rfl) rfl rfl (alt_FS L[k].2.2.2)) ?_
      refine DMK.ct (truH _) [1, 2] rfl rfl (callF Tryz.func66 rfl rfl) (stAlter_FS key A L[k].2.1 L[k].2.2.1 (altA L[k].2.2.2) (altA_bd _)) rfl rfl rfl ⟨⟨rfl, rfl, rfl⟩, ⟨rfl, rfl, rfl⟩, trivial⟩ rfl rfl rfl rfl (by repeat constructor) ?_
      repeat refine DMK.nil ?_
      dsimp only [St.put, Nat.reduceAdd]
      refine (?_ : Tr _ _ _)
      exact (Tr.ren id (by repeat (first | exact trivial | refine ⟨⟨?_, ?_⟩, ?_⟩ | rfl)) (by repeat (first | exact trivial | refine ⟨⟨?_, ?_, ?_⟩, ?_⟩ | rfl)) rfl)
    · have hU : sngU L[k] A = A := if_neg (by omega)
      rw [hU]
      repeat refine W.go rfl ?_
      refine (?_ : Tr _ _ _)
      exact (Tr.ren id (by repeat (first | exact trivial | refine ⟨⟨?_, ?_⟩, ?_⟩ | rfl)) (by repeat (first | exact trivial | refine ⟨⟨?_, ?_, ?_⟩, ?_⟩ | rfl)) rfl)
  obtain ⟨V, hV⟩ : ∃ V, sngU L[k] A = V := ⟨_, rfl⟩
  rw [hV] at hfr hfit2 hUok ⊢
  repeat refine W.go rfl ?_
  refine (?_ : W _ _ _ _ _)
  refine W.dm3 [false, false, false, false, true, false, false, false, false, false, false, false, false, false] [4, 5] (by kernel_rfl) (by kernel_rfl) (by kernel_rfl) (by repeat constructor) ?_
  repeat refine DMK.st rfl rfl ?_
  refine DMK.ct (truH _) [1, 2] rfl rfl (callF Tryz.func64 rfl rfl) (stInForce_FS key V L[k].2.1 L[k].2.2.1 hk2 hUok) rfl rfl rfl ⟨⟨rfl, rfl, rfl⟩, ⟨rfl, rfl, rfl⟩, trivial⟩ rfl rfl rfl rfl (by repeat constructor) ?_
  repeat refine DMK.st rfl rfl ?_
  have hfr' : frcA key V (L[k].2.1, L[k].2.2.1) = sngA st key (L.take k).reverse L[k] := hfr
  simp only [hfr']
  obtain ⟨B, hB2⟩ : ∃ B, sngA st key (L.take k).reverse L[k] = B := ⟨_, rfl⟩
  rw [hB2] at hsE hsQ
  simp only [hB2]
  have hSo := pSounding_G L[k].2.1 B L[k].2.2.1
  rw [← hsE, ← hsQ] at hSo
  refine DMK.vl rfl (WV.callG hB rfl (callF Tryz.func90 rfl rfl) rfl rfl hSo) ?_
  repeat (first | refine DMK.st rfl rfl ?_ | refine DMK.nil ?_)
  obtain ⟨z, hz⟩ : ∃ z, sngE st key (L.take k).reverse L[k] = z := ⟨_, rfl⟩
  rw [hz] at hErr ⊢
  by_cases hz0 : z = 0
  · rw [hz0] at hz ⊢
    repeat (first | refine W.gob rfl ?_ | refine WL.nil ?_ | refine WL.nf rfl rfl rfl (by omega) ?_ | refine WL.e1 rfl ?_ | refine WL.ar rfl rfl (by unfold I64; omega) ?_ | refine WL.app rfl rfl rfl (by first | omega | (simp; done) | (simp; omega)) ?_ | refine W.condF rfl ?_)
    dsimp only [St.put, Nat.reduceAdd]
    refine ⟨(k + 1, V), ⟨by dsimp only; omega, by rw [hrev]; exact hfit2, fun i hi h2 => ?_⟩, by dsimp only; omega, ?_⟩
    · by_cases e : i = k
      · subst e; exact hz
      · exact hgood i (by dsimp only at hi; omega) h2
    · dsimp only
      rw [hvt]
      exact (Tr.ren (fun q => bif Nat.beq q 3 then 7 else q) (by repeat (first | exact trivial | refine ⟨⟨?_, ?_⟩, ?_⟩ | rfl)) (by repeat (first | exact trivial | refine ⟨⟨?_, ?_, ?_⟩, ?_⟩ | rfl | exact congrArg (fun q => some (AO.row _ _ q)) (by rw [List.map_append]; rfl))) rfl)
  · obtain ⟨e1, e2⟩ := hErr hz0
    rw [e1, e2]
    repeat (first | refine W.gob rfl ?_ | refine WL.nil ?_ | refine WL.nt rfl rfl rfl (by omega) ?_ | refine WL.e1 rfl ?_ | refine W.condT rfl ?_)
    refine (?_ : W _ _ _ _ _)
    dsimp only [St.put, Nat.reduceAdd]
    refine W.tr (Tr.nilR (t := 6) 1 rfl) ?_
    exact W.ret (finN rfl rfl rfl rfl)
end Go.Proofs.YtkgnmddakiagbaaGreatDoor
