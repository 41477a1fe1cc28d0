/- The staff of an event in an edition: the program's and the reference's, plain. -/
import Derived.Test.YtkgnmddakiagbaaGreatDoorPSgZq
import Derived.Test.YtkgnmddakiagbaaGreatDoorBwubZq
import Derived.Test.YtkgnmddakiagbaaGreatDoorProg
import Derived.BigQuiet
import Derived.Deep.QuietTactic
import Derived.WalkKit
import Derived.Handy
import Derived.WalkLawsBesides
import Derived.Deep.RegionHeld3
import Derived.Shelf.Strings.Builder1
import Derived.Shelf.Strings.Builder2
import Derived.Shelf.Small.Strs
import Derived.Shelf.Strings.BuilderF
import Derived.Shelf.Strings.BuilderK
import Derived.Shelf.Strings.Builder2Cap
import Derived.Shelf.Strconv.Itoa0
import Derived.Shelf.Strconv.Itoa1
import Derived.Shelf.LaysM
import Derived.Shelf.Strconv.Itoa2
import Derived.Shelf.Strconv.Itoa3
import Derived.Shelf.Strings.Search1
import Derived.Shelf.Strings.Search2
import Derived.Shelf.Strings.Search3
import Derived.Shelf.Strings.Cut
import Derived.Shelf.Strings.Count
import Derived.Shelf.Strings.Shaped
import Derived.Shelf.Strings.Prefix
import Derived.Shelf.Bits.Mul64
import Derived.Shelf.Strings.Repeat
import Derived.Shelf.Unicode.DecodeSlow
import Derived.Shelf.Strings.BuilderCap
import Derived.Lib.Hide
import Derived.Deep.Draws
import Derived.OwnWalk
import Derived.Maps.AppendAt
import Derived.Deep.AppendLies
import Derived.Laws.OwnMore
import Derived.Deep.MidRow
import Derived.Still
import Derived.Lib.FrozenHead
import Derived.Test.YtkgnmddakiagbaaGreatDoorEHubZq
import Derived.Lib.ItoaNum
import Derived.Laws.StructEq
import Derived.Deep.RegionWith
import Derived.Deep.DeepCutAuto
import Derived.Shelf.Strings.OnBuilder
import Derived.RangeFuncNested
import Derived.RangeFuncBound
import Derived.RangeFuncCalls
import Derived.RangeFuncLeaves
import Derived.RangeFuncBox
import Derived.Shelf.Abstract
import Derived.Shelf.RegionOpen
import Derived.OwnWalkIn
import Derived.TacticsInMore
import Derived.LoopNIn
import Derived.LoopIn
import Derived.WideKeyRuns
import Derived.DeepKeys3
set_option linter.unusedVariables false
set_option linter.unusedSimpArgs false
namespace Go.Proofs.YtkgnmddakiagbaaGreatDoor
open Go.RowKit
def fstL (MS : List Me) : List Int := MS.map fun x => x.1
theorem bumpM_fst (t : Int) : ∀ l : List Me, fstL (bumpM t l) = fstL l
  | [] => rfl
  | [x] => rfl
  | x :: y :: r => by
    have := bumpM_fst t (y :: r)
    show x.1 :: fstL (bumpM t (y :: r)) = x.1 :: fstL (y :: r)
    rw [this]
theorem mea_fst (evs : List Ev) (k : Nat) : fstL (mea evs (k + 1)) = if newM evs k then fstL (mea evs k) ++ [(k : Int)] else fstL (mea evs k) := by
  rw [mea, bumpM_fst]
  split
  · simp [fstL]
  · rfl
theorem mea_asc (evs : List Ev) : ∀ k, (fstL (mea evs k)).Pairwise (· < ·) ∧ ∀ x ∈ fstL (mea evs k), x < (k : Int)
  | 0 => by simp [mea, fstL]
  | k + 1 => by
    obtain ⟨h1, h2⟩ := mea_asc evs k
    rw [mea_fst]
    split
    · refine ⟨List.pairwise_append.2 ⟨h1, by simp, fun a ha b hb => ?_⟩, fun x hx => ?_⟩
      · rw [List.mem_singleton] at hb; rw [hb]; exact h2 a ha
      · rcases List.mem_append.1 hx with hx | hx
        · have := h2 x hx; omega
        · rw [List.mem_singleton] at hx; omega
    · exact ⟨h1, fun x hx => by have := h2 x hx; omega⟩
theorem take_filter (ev : Int) : ∀ l : List Me, (fstL l).Pairwise (· < ·) → (l.takeWhile fun x => decide (x.1 ≤ ev)).length = cntS ev (fstL l)
  | [], _ => rfl
  | x :: r, h => by
    have h : (x.1 :: fstL r).Pairwise (· < ·) := h
    obtain ⟨h1, h2⟩ := List.pairwise_cons.1 h
    have ih := take_filter ev r h2
    by_cases hx : x.1 ≤ ev
    · rw [List.takeWhile_cons_of_pos (by simpa using hx)]
      show _ = ((x.1 :: fstL r).filter fun y => decide (y ≤ ev)).length
      rw [List.filter_cons_of_pos (by simpa using hx), List.length_cons, List.length_cons, ih]
      rfl
    · rw [List.takeWhile_cons_of_neg (by simpa using hx)]
      show _ = ((x.1 :: fstL r).filter fun y => decide (y ≤ ev)).length
      rw [List.filter_cons_of_neg (by simpa using hx)]
      have : (fstL r).filter (fun y => decide (y ≤ ev)) = [] := by
        rw [List.filter_eq_nil_iff]
        intro y hy
        have := h1 y hy
        simp; omega
      rw [this]; rfl
theorem nextF_cnt {MS : List Me} {ev : Int} {m : Nat} (h : (fstL MS).Pairwise (· < ·)) (hm : m ≤ MS.length) (hl : ∀ x ∈ MS.take m, x.1 ≤ ev) : nextF MS ev m = cntS ev (fstL MS) := by
  have e : fstL MS = fstL (MS.take m) ++ fstL (MS.drop m) := by unfold fstL; rw [← List.map_append, List.take_append_drop]
  have h2 : (fstL (MS.drop m)).Pairwise (· < ·) := by
    rw [e] at h; exact (List.pairwise_append.1 h).2.1
  unfold nextF
  rw [take_filter ev _ h2, e]
  unfold cntS
  rw [List.filter_append, List.length_append]
  have : (fstL (MS.take m)).filter (fun y => decide (y ≤ ev)) = fstL (MS.take m) := by
    rw [List.filter_eq_self]
    intro y hy
    obtain ⟨x, hx, rfl⟩ := List.mem_map.1 hy
    simpa using hl x hx
  rw [this]
  simp [fstL, List.length_take]
  omega
theorem cnt_take {MS : List Me} {ev : Int} (h : (fstL MS).Pairwise (· < ·)) : ∀ x ∈ MS.take (cntS ev (fstL MS)), x.1 ≤ ev := by
  intro x hx
  rw [← take_filter ev MS h] at hx
  have e : MS.take (MS.takeWhile fun x => decide (x.1 ≤ ev)).length = MS.takeWhile fun x => decide (x.1 ≤ ev) := List.prefix_iff_eq_take.1 (List.takeWhile_prefix _) |>.symm
  rw [e] at hx
  have := List.all_eq_true.1 (List.all_takeWhile (p := fun x : Me => decide (x.1 ≤ ev)) (l := MS)) x hx
  simpa using this
end Go.Proofs.YtkgnmddakiagbaaGreatDoor
namespace Go.Proofs.YtkgnmddakiagbaaGreatDoor
open Go.RowKit
theorem accN_alt {a : Int} (h : -1 ≤ a ∧ a ≤ 1) : altA (accN a) = a ∧ 0 < accN a ∧ accN a ≤ 3 := by
  have : a = -1 ∨ a = 0 ∨ a = 1 := by omega
  rcases this with h | h | h <;> subst h <;> decide
def FitS (st : List Int) (s : ES) : Prop := (∀ k, fitA (scanK st s.next k s.out.reverse) (lookA k s.alt))
theorem fit_frc {st : List Int} {key : Int} {ev : Int} {k : Ln} {s : ES} (h : FitS st s) (hn : s.next = cntS ev st) : frcR st key ev k s.out.reverse = frcA key s.alt k := by
  unfold frcR frcA
  rw [← hn]
  rcases h k with ⟨h1, h2⟩ | ⟨h1, h2, h3⟩
  · rw [h1, h2]; rfl
  · have hv : 0 < lookA k s.alt := by rw [h3]; unfold altA; split <;> (try split) <;> omega
    rw [if_pos h1, if_pos hv, h3]; omega
theorem fit_put {st : List Int} {key ev : Int} {sp : Int × Int × Int} {s : ES} (h : FitS st s) (hn : s.next = cntS ev st) (ha : -1 ≤ sp.2.1 ∧ sp.2.1 ≤ 1) : FitS st (putE key ev sp s) ∧ (putE key ev sp s).next = s.next := by
  unfold putE
  split
  · refine ⟨fun k => ?_, rfl⟩
    show fitA (scanK st s.next k (s.out ++ [_]).reverse) (lookA k s.alt)
    rw [List.reverse_append]
    show fitA (if cntS ev st = s.next then (if (sp.1, sp.2.2) = k ∧ 0 < (0 : Int) then 0 else scanK st s.next k s.out.reverse) else 0) _
    rw [if_pos hn.symm, if_neg (by omega)]
    exact h k
  · refine ⟨fun k => ?_, rfl⟩
    show fitA (scanK st s.next k (s.out ++ [_]).reverse) (lookA k (updA (sp.1, sp.2.2) (sp.2.1 + 2) s.alt))
    rw [List.reverse_append, lookA_upd]
    show fitA (if cntS ev st = s.next then (if (sp.1, sp.2.2) = k ∧ 0 < accN sp.2.1 then accN sp.2.1 else scanK st s.next k s.out.reverse) else 0) _
    obtain ⟨a1, a2, a3⟩ := accN_alt ha
    rw [if_pos hn.symm]
    by_cases hk : (sp.1, sp.2.2) = k
    · rw [if_pos ⟨hk, a2⟩, if_pos hk.symm]
      exact .inr ⟨a2, a3, by rw [a1]⟩
    · rw [if_neg (fun x => hk x.1), if_neg (fun x => hk x.symm)]
      exact h k
theorem fit_clr {MS : List Me} {ev : Int} {s : ES} (h : FitS (fstL MS) s) (hl : ∀ x, s.out.reverse.head? = some x → cntS x.1 (fstL MS) = s.next) (hn : nextF MS ev s.next = cntS ev (fstL MS)) :
    FitS (fstL MS) (clrE MS ev s) ∧ (clrE MS ev s).next = cntS ev (fstL MS) ∧ (clrE MS ev s).out = s.out := by
  refine ⟨fun k => ?_, hn, rfl⟩
  show fitA (scanK (fstL MS) (nextF MS ev s.next) k s.out.reverse) (lookA k (if nextF MS ev s.next = s.next then s.alt else []))
  by_cases he : nextF MS ev s.next = s.next
  · rw [if_pos he, he]; exact h k
  · rw [if_neg he]
    refine .inl ⟨?_, rfl⟩
    cases hr : s.out.reverse with
    | nil => rfl
    | cons x r =>
      have := hl x (by rw [hr]; rfl)
      unfold scanK
      rw [if_neg (by rw [this]; exact fun q => he q.symm)]
theorem eng_step {MS : List Me} {key : Int} {s : ES} {n : Nt} (h : FitS (fstL MS) s) (hl : ∀ x, s.out.reverse.head? = some x → cntS x.1 (fstL MS) = s.next) (hn : nextF MS n.1 s.next = cntS n.1 (fstL MS)) (hx : spX n.2.2.1 key = 0) :
    (engN key MS s n).out = s.out ++ [(n.1, (spV n.2.2.1 key).1, (spV n.2.2.1 key).2.2, if (spV n.2.2.1 key).2.1 = frcR (fstL MS) key n.1 ((spV n.2.2.1 key).1, (spV n.2.2.1 key).2.2) s.out.reverse then 0 else accN (spV n.2.2.1 key).2.1)]
    ∧ FitS (fstL MS) (engN key MS s n) ∧ (engN key MS s n).next = cntS n.1 (fstL MS) := by
  obtain ⟨h1, h2, h3⟩ := fit_clr h hl hn
  have ha := spV_al hx
  obtain ⟨h4, h5⟩ := fit_put (key := key) (ev := n.1) h1 h2 ha
  have hf := fit_frc (key := key) (k := ((spV n.2.2.1 key).1, (spV n.2.2.1 key).2.2)) h1 h2
  rw [h3] at hf
  refine ⟨?_, h4, h5.trans h2⟩
  rw [hf]
  show (putE key n.1 (spV n.2.2.1 key) (clrE MS n.1 s)).out = _
  unfold putE
  split
  · rename_i hc
    show (clrE MS n.1 s).out ++ _ = _
    rw [h3]
  · rename_i hc
    show (clrE MS n.1 s).out ++ _ = _
    rw [h3]
end Go.Proofs.YtkgnmddakiagbaaGreatDoor
namespace Go.Proofs.YtkgnmddakiagbaaGreatDoor
open Go.RowKit
def refN (st : List Int) (key : Int) (out : List Sf) (n : Nt) : Sf := (n.1, (spV n.2.2.1 key).1, (spV n.2.2.1 key).2.2, if (spV n.2.2.1 key).2.1 = frcR st key n.1 ((spV n.2.2.1 key).1, (spV n.2.2.1 key).2.2) out.reverse then 0 else accN (spV n.2.2.1 key).2.1)
def refE (st : List Int) (key : Int) : List Sf → List Nt → List Sf
  | out, [] => out
  | out, n :: r => refE st key (out ++ [refN st key out n]) r
theorem eng_fold {MS : List Me} {key : Int} (hA : (fstL MS).Pairwise (· < ·)) : ∀ (L : List Nt) (s : ES), FitS (fstL MS) s → (∀ x, s.out.reverse.head? = some x → cntS x.1 (fstL MS) = s.next) → s.next ≤ MS.length → (∀ x ∈ MS.take s.next, ∀ n ∈ L, x.1 ≤ n.1) →
    L.Pairwise (fun a b => a.1 ≤ b.1) → (∀ n ∈ L, spX n.2.2.1 key = 0) → (L.foldl (engN key MS) s).out = refE (fstL MS) key s.out L
  | [], s, _, _, _, _, _, _ => rfl
  | n :: r, s, h, hl, hm, ht, hp, hx => by
    have hn := nextF_cnt hA hm fun x hx2 => ht x hx2 n (by simp)
    obtain ⟨h1, h2, h3⟩ := eng_step (key := key) h hl hn (hx n (by simp))
    obtain ⟨p1, p2⟩ := List.pairwise_cons.1 hp
    rw [List.foldl_cons]
    have ih := eng_fold hA r (engN key MS s n) h2 (fun x hx2 => by
      rw [h1, List.reverse_append] at hx2
      have e : x = _ := (Option.some.inj hx2).symm
      rw [e, h3]) (by rw [h3]; have := cntS_le n.1 (fstL MS); simpa [fstL] using this) (fun x hx2 m hm2 => by
        rw [h3] at hx2
        have q1 := cnt_take hA x hx2
        have q2 := p1 m hm2
        omega) p2 fun m hm2 => hx m (by simp [hm2])
    rw [ih, h1]
    rfl
theorem engS_ref {MS : List Me} {key : Int} (hA : (fstL MS).Pairwise (· < ·)) (L : List Nt) (hp : L.Pairwise (fun a b => a.1 ≤ b.1)) (hx : ∀ n ∈ L, spX n.2.2.1 key = 0) : (engS key MS L).out = refE (fstL MS) key [] L :=
  eng_fold hA L ⟨[], 0, []⟩ (fun k => .inl ⟨rfl, rfl⟩) (fun x h => by cases h) (Nat.zero_le _) (fun x h => by simp at h) hp hx
end Go.Proofs.YtkgnmddakiagbaaGreatDoor
namespace Go.Proofs.YtkgnmddakiagbaaGreatDoor
open Go.RowKit
theorem notesR_asc (p : Pce) : ∀ k, (notesR p k).Pairwise (fun a b => a.1 ≤ b.1) ∧ ∀ n ∈ notesR p k, n.1 < (k : Int)
  | 0 => by simp [notesR]
  | k + 1 => by
    obtain ⟨h1, h2⟩ := notesR_asc p k
    have e1 : ∀ x, (noteR p k x).1 = (k : Int) := fun x => rfl
    unfold notesR
    cases p.evs[k]? with
    | none => exact ⟨h1, fun n hn => by have := h2 n hn; omega⟩
    | some e =>
      refine ⟨List.pairwise_append.2 ⟨h1, ?_, fun a ha b hb => ?_⟩, fun n hn => ?_⟩
      · rw [List.pairwise_map]
        have : ∀ l : List Stp, l.Pairwise fun a b => (noteR p k a).1 ≤ (noteR p k b).1 := fun l => by
          induction l with
          | nil => exact List.Pairwise.nil
          | cons a r ih => exact List.pairwise_cons.2 ⟨fun b _ => by rw [e1, e1]; omega, ih⟩
        exact this _
      · obtain ⟨x, _, rfl⟩ := List.mem_map.1 hb
        have := h2 a ha
        rw [e1]; omega
      · rcases List.mem_append.1 hn with hn | hn
        · have := h2 n hn; omega
        · obtain ⟨x, _, rfl⟩ := List.mem_map.1 hn
          rw [e1]; omega
end Go.Proofs.YtkgnmddakiagbaaGreatDoor
namespace Go.Proofs.YtkgnmddakiagbaaGreatDoor
open Go.RowKit
def refT (st : List Int) (key : Int) : List Sf → List Nt → List Sf
  | _, [] => []
  | out, n :: r => refN st key out n :: refT st key (out ++ [refN st key out n]) r
theorem refE_T (st : List Int) (key : Int) : ∀ (L : List Nt) (out : List Sf), refE st key out L = out ++ refT st key out L
  | [], out => by simp [refE, refT]
  | n :: r, out => by
    show refE st key (out ++ [refN st key out n]) r = out ++ (refN st key out n :: refT st key (out ++ [refN st key out n]) r)
    rw [refE_T st key r]; simp
theorem spX_of {p key : Int} (h : spX p key = 0) : sndX (spV p key).1 (spV p key).2.1 (spV p key).2.2 = 0 ∧ sndR (spV p key).1 (spV p key).2.1 (spV p key).2.2 = p := by
  have e : spV p key = (spP p key).getD (0, 0, 0) := if_pos h
  have hs : (spP p key).isSome = true := by
    unfold spX at h
    by_cases h1 : 0 ≤ p ∧ p ≤ 127
    · rw [if_neg (fun x => x h1)] at h
      by_cases h2 : -4 ≤ key ∧ key ≤ 4
      · rw [if_neg (fun x => x h2)] at h
        by_cases h3 : (spP p key).isSome = true
        · exact h3
        · rw [if_neg h3] at h; cases h
      · rw [if_pos h2] at h; cases h
    · rw [if_pos h1] at h; cases h
  obtain ⟨r, hr⟩ := Option.isSome_iff_exists.1 hs
  rw [e, hr]
  obtain ⟨a, b⟩ := spP_of hr
  obtain ⟨c, d⟩ := snd_ok a
  exact ⟨d, c.trans b⟩
theorem sngA_ref {st : List Int} {key : Int} {out : List Sf} {n : Nt} (hx : spX n.2.2.1 key = 0) :
    sngA st key out.reverse (refN st key out n) = (spV n.2.2.1 key).2.1 ∧ 0 ≤ (refN st key out n).2.2.2 ∧ (refN st key out n).2.2.2 ≤ 3 := by
  have ha := spV_al hx
  obtain ⟨a1, a2, a3⟩ := accN_alt ha
  by_cases hc : (spV n.2.2.1 key).2.1 = frcR st key n.1 ((spV n.2.2.1 key).1, (spV n.2.2.1 key).2.2) out.reverse
  · have e : refN st key out n = (n.1, (spV n.2.2.1 key).1, (spV n.2.2.1 key).2.2, 0) := by unfold refN; rw [if_pos hc]
    rw [e]
    refine ⟨?_, by simp, by simp⟩
    unfold sngA
    rw [if_neg (by simp)]
    exact hc.symm
  · have e : refN st key out n = (n.1, (spV n.2.2.1 key).1, (spV n.2.2.1 key).2.2, accN (spV n.2.2.1 key).2.1) := by unfold refN; rw [if_neg hc]
    rw [e]
    refine ⟨?_, by show 0 ≤ accN _; omega, a3⟩
    unfold sngA
    rw [if_pos a2]
    exact a1
theorem sng_ref {st : List Int} {key : Int} : ∀ (L : List Nt) (out : List Sf), (∀ n ∈ L, spX n.2.2.1 key = 0) → sngX st key out.reverse (refT st key out L) = 0 ∧ sngV st key out.reverse (refT st key out L) = L.map fun n => n.2.2.1
  | [], out, _ => ⟨rfl, rfl⟩
  | n :: r, out, h => by
    have hx := h n (by simp)
    obtain ⟨h1, h2, h3⟩ := sngA_ref (st := st) (out := out) hx
    obtain ⟨h4, h5⟩ := spX_of hx
    obtain ⟨i1, i2⟩ := sng_ref (st := st) (key := key) r (out ++ [refN st key out n]) fun m hm => h m (by simp [hm])
    have er : (out ++ [refN st key out n]).reverse = refN st key out n :: out.reverse := by simp
    rw [er] at i1 i2
    have hr1 : (refN st key out n).2.1 = (spV n.2.2.1 key).1 := rfl
    have hr2 : (refN st key out n).2.2.1 = (spV n.2.2.1 key).2.2 := rfl
    have hE : sngE st key out.reverse (refN st key out n) = 0 := by
      unfold sngE
      rw [if_neg (by omega), h1, hr1, hr2, h4]
    have hQ : sngQ st key out.reverse (refN st key out n) = n.2.2.1 := by
      unfold sngQ
      rw [h1, hr1, hr2, h5]
    refine ⟨?_, ?_⟩
    · show (if sngE st key out.reverse (refN st key out n) = 0 then _ else _) = (0 : Int)
      rw [if_pos hE]; exact i1
    · show sngQ st key out.reverse (refN st key out n) :: _ = _
      rw [hQ, List.map_cons]
      exact congrArg _ i2
theorem engL_ref {p : Pce} {key : Int} (hx : engX p key = 0) : engL p key = refE (fstL (mea p.evs p.evs.length)) key [] (notesR p p.evs.length) ∧ ∀ n ∈ notesR p p.evs.length, spX n.2.2.1 key = 0 := by
  have hb : engB key (notesR p p.evs.length) = false := by
    unfold engX at hx
    split at hx
    · split at hx
      · cases hx
      · cases hq : engB key (notesR p p.evs.length) with
        | false => rfl
        | true => rw [hq] at hx; cases hx
    · rename_i h; exact absurd hx h
  have hall : ∀ n ∈ notesR p p.evs.length, spX n.2.2.1 key = 0 := fun n hn => by
    have := (List.any_eq_false.1 hb) n hn
    simpa using this
  have e : engL p key = (engS key (mea p.evs p.evs.length) (notesR p p.evs.length)).out := if_pos hx
  rw [e]
  exact ⟨engS_ref (mea_asc p.evs p.evs.length).1 _ (notesR_asc p p.evs.length).1 hall, hall⟩
theorem sung_back {p : Pce} {key : Int} (hk : -4 ≤ key ∧ key ≤ 4) (hx : engX p key = 0) :
    snX (engL p key) (fstL (mea p.evs p.evs.length)) key = 0 ∧ snL (engL p key) (fstL (mea p.evs p.evs.length)) key = (notesR p p.evs.length).map fun n => n.2.2.1 := by
  obtain ⟨e, hall⟩ := engL_ref hx
  obtain ⟨a, b⟩ := sng_ref (st := fstL (mea p.evs p.evs.length)) (key := key) (notesR p p.evs.length) [] hall
  have e2 : engL p key = refT (fstL (mea p.evs p.evs.length)) key [] (notesR p p.evs.length) := by rw [e, refE_T]; rfl
  have hX : snX (engL p key) (fstL (mea p.evs p.evs.length)) key = 0 := by
    unfold snX
    rw [if_neg (by omega), e2]; exact a
  refine ⟨hX, ?_⟩
  unfold snL
  rw [if_pos hX, e2]; exact b
/-! Which pitches cannot be spelled. -/
theorem sp_fin : ((List.range 128).all fun p => (List.range 9).all fun k => (spP (p : Int) ((k : Int) - 4)).isSome || (p == 0 && k == 8)) = true := by decide +kernel
theorem spX_zero {q key : Int} (hq : 0 ≤ q ∧ q ≤ 127) (hk : -4 ≤ key ∧ key ≤ 4) (h : spX q key ≠ 0) : q = 0 ∧ key = 4 := by
  obtain ⟨a, rfl⟩ := Int.eq_ofNat_of_zero_le hq.1
  obtain ⟨b, hb⟩ := Int.eq_ofNat_of_zero_le (show 0 ≤ key + 4 by omega)
  have h1 := List.all_eq_true.1 (List.all_eq_true.1 sp_fin a (List.mem_range.2 (by omega))) b (List.mem_range.2 (by omega))
  rw [show (b : Int) - 4 = key by omega] at h1
  rcases Bool.or_eq_true_iff.1 h1 with h1 | h1
  · exact absurd (by unfold spX; rw [if_neg (fun x => x hq), if_neg (fun x => x hk), if_pos h1]) h
  · simp at h1; omega
theorem crsE_top {st : List Int} : ∀ {cs : List (Int × Int × Bool)}, crsE st cs = 0 → ∀ k (h : k < cs.length), topOf st cs[k] ≤ 127 := by
  intro cs
  induction cs with
  | nil => intro _ k h; simp at h
  | cons x r ih =>
    intro h k hk
    unfold crsE at h
    by_cases h1 : x.2.1 < 0 ∨ (st.length : Int) < x.2.1
    · rw [if_pos h1] at h; cases h
    · rw [if_neg h1] at h
      by_cases h2 : (x.1 < 0 ∨ 127 < x.1) ∨ 127 < topOf st x
      · rw [if_pos h2] at h; cases h
      · rw [if_neg h2] at h
        cases k with
        | zero => simp; omega
        | succ k => simpa using ih h k (by simpa using hk)
theorem stepsBad_asc : ∀ {st : List Int} {last : Int}, stepsBad last st = false → (∀ x ∈ st, last < x) ∧ st.Pairwise (· < ·)
  | [], last, _ => ⟨by simp, .nil⟩
  | x :: r, last, h => by
    unfold stepsBad at h
    rw [Bool.or_eq_false_iff] at h
    have hx := of_decide_eq_false h.1
    obtain ⟨a, b⟩ := stepsBad_asc h.2
    refine ⟨fun y hy => ?_, List.pairwise_cons.2 ⟨a, b⟩⟩
    rcases List.mem_cons.1 hy with rfl | hy
    · omega
    · have := a y hy; omega
theorem pit_127 {p : Pce} (h0 : pceE p = 0) {k : Nat} {x : Stp} (hx : StpOk p k x) : pitN p.cs p.st x.1 x.2.1 ≤ 127 := by
  obtain ⟨hI, _, _⟩ := pceE_zero h0
  obtain ⟨l1, l2, l3, l4, l5⟩ := insE_len hI
  have hc := hx.crs
  have hk : (x.1 - 1).toNat < p.cs.length := by omega
  have hp := crsE_p l5 _ hk
  have htop := crsE_top l5 _ hk
  have hfr := crsE_fr l5 _ hk
  have ef : fretsOf p.cs x.1 = p.cs[(x.1 - 1).toNat].2.1 := by
    have := fretsOf_at hk
    rw [← this]; congr 1; omega
  have hf := hx.fret
  rw [ef] at hf
  obtain ⟨_, hasc⟩ := stepsBad_asc l4
  unfold pitN
  rw [List.getD_eq_getElem?_getD, List.getElem?_eq_getElem hk]
  simp only [Option.getD_some]
  obtain ⟨c, hcc⟩ : ∃ c, p.cs[(x.1 - 1).toNat] = c := ⟨_, rfl⟩
  rw [hcc] at hp htop hfr hf ⊢
  unfold topOf at htop
  have hoct : (0 : Int) ≤ if c.2.2 then 12 else 0 := by split <;> omega
  by_cases h : 0 < x.2.1
  · rw [if_pos h]
    have hs : (x.2.1 - 1).toNat < p.st.length := by omega
    have hs2 : c.2.1.toNat - 1 < p.st.length := by omega
    rw [if_pos (by omega), List.getD_eq_getElem?_getD, List.getElem?_eq_getElem hs2] at htop
    rw [List.getD_eq_getElem?_getD, List.getElem?_eq_getElem hs]
    simp only [Option.getD_some] at htop ⊢
    have hle : p.st[(x.2.1 - 1).toNat] ≤ p.st[c.2.1.toNat - 1] := by
      rcases Nat.lt_or_ge (x.2.1 - 1).toNat (c.2.1.toNat - 1) with hh | hh
      · exact Int.le_of_lt (List.pairwise_iff_getElem.1 hasc _ _ hs hs2 hh)
      · have e : (x.2.1 - 1).toNat = c.2.1.toNat - 1 := by omega
        simp only [e]; exact Int.le_refl _
    omega
  · rw [if_neg h]; omega
theorem eng_zero {p : Pce} (h0 : pceE p = 0) {key : Int} (hk : -4 ≤ key ∧ key ≤ 4) (h : engX p key ≠ 0) : (∃ n ∈ notesR p p.evs.length, n.2.2.1 = 0) ∧ key = 4 := by
  have hb : engB key (notesR p p.evs.length) = true := by
    unfold engX at h
    rw [if_pos h0, if_neg (by omega)] at h
    cases hq : engB key (notesR p p.evs.length) with
    | true => rfl
    | false => rw [hq] at h; exact absurd rfl h
  unfold engB at hb
  obtain ⟨n, hn, hx⟩ := List.any_eq_true.1 hb
  have hx : spX n.2.2.1 key ≠ 0 := by simpa using hx
  have hq : ∀ m, m ≤ p.evs.length → ∀ n ∈ notesR p m, 0 ≤ n.2.2.1 ∧ n.2.2.1 ≤ 127 := by
    intro m
    induction m with
    | zero => intro _ n hn; cases hn
    | succ m ih =>
      intro hm n hn
      have e1 : notesR p (m + 1) = notesR p m ++ p.evs[m].stops.map (noteR p m) := by
        show (match p.evs[m]? with | some e => _ | none => _) = _
        rw [List.getElem?_eq_getElem (show m < p.evs.length by omega)]
      rw [e1] at hn
      rcases List.mem_append.1 hn with hn | hn
      · exact ih (by omega) n hn
      · obtain ⟨x, hx, rfl⟩ := List.mem_map.1 hn
        have hok := (evOk_of h0 (show m < p.evs.length by omega)).stops x hx
        exact ⟨(pit_bd h0 hok).1, pit_127 h0 hok⟩
  obtain ⟨a, b⟩ := spX_zero (hq _ (Nat.le_refl _) n hn) hk hx
  exact ⟨⟨n, hn, a⟩, b⟩
end Go.Proofs.YtkgnmddakiagbaaGreatDoor
namespace Go.Proofs.YtkgnmddakiagbaaGreatDoor
open Go.RowKit
set_option maxRecDepth 100000
set_option maxHeartbeats 4000000
def longB (p : Pce) : Bool := bigB p || decide (60 < p.evs.length)
theorem long_FS (p : Pce) : Ctr Tryz.prog 20 [ePce p] (.sc (.bool (longB p))) := by
  refine Ctr.intro Tryz.func20 rfl Tryz.ntmps20 (Nat.le_of_ble_eq_true rfl) (bd_all rfl) fun w0 F0 => ?_; dsimp only [St.init, number, Nat.reduceAdd]
  repeat refine W.go rfl ?_
  refine (?_ : WL _ _ _ _ _ _)
  dsimp only [St.put, Nat.reduceAdd]
  refine WL.vl rfl (WV.call rfl (callF Tryz.func11 rfl rfl) rfl rfl (big_FS p)) ?_
  repeat refine WL.ev rfl ?_
  refine (?_ : WL _ _ _ _ _ _)
  dsimp only [St.put, Nat.reduceAdd]
  refine WL.partG rfl rfl rfl rfl (fun hp => ?_) (fun hp => ?_)
  · repeat (first | refine WL.ev rfl ?_ | refine WL.opno rfl rfl rfl rfl rfl rfl rfl ?_)
    refine (?_ : W _ _ _ _ _)
    dsimp only [St.put, Nat.reduceAdd]
    exact W.ret (fin1 rfl rfl (sc_bool (by unfold longB; rw [hp]; rfl)) rfl)
  · repeat (first | refine WL.ev rfl ?_ | refine WL.gyes rfl rfl rfl rfl ?_ | refine WL.len rfl rfl (by first | exact List.length_map _ | exact List.length_replicate | rfl) ?_)
    refine (?_ : W _ _ _ _ _)
    dsimp only [St.put, Nat.reduceAdd]
    refine W.ret (fin1 rfl rfl (sc_bool ?_) rfl)
    unfold longB
    rw [hp, Bool.false_or]
    show decide _ = decide _
    rw [decide_eq_decide]; omega
theorem pcOk_of3 {p : Pce} (h : longB p = false) : PcOk p := pcOk_of2 (p := p) (by unfold longB at h; simp only [Bool.or_eq_false_iff] at h; exact h.1)
end Go.Proofs.YtkgnmddakiagbaaGreatDoor
namespace Go.Proofs.YtkgnmddakiagbaaGreatDoor
open Go.RowKit
theorem putE_ev (key ev : Int) (sp : Int × Int × Int) (s : ES) : (putE key ev sp s).out.map (·.1) = s.out.map (·.1) ++ [ev] := by
  unfold putE
  split <;> simp
theorem eng_ev (key : Int) (MS : List Me) : ∀ (L : List Nt) (s : ES), (L.foldl (engN key MS) s).out.map (·.1) = s.out.map (·.1) ++ L.map (·.1)
  | [], s => by simp
  | n :: r, s => by
    rw [List.foldl_cons, eng_ev key MS r, show engN key MS s n = putE key n.1 (spV n.2.2.1 key) (clrE MS n.1 s) from rfl, putE_ev]
    simp [clrE]
theorem engL_ev {p : Pce} {key : Int} (hx : engX p key = 0) : (engL p key).map (·.1) = (notesR p p.evs.length).map (·.1) := by
  have e : engL p key = (engS key (mea p.evs p.evs.length) (notesR p p.evs.length)).out := if_pos hx
  rw [e]
  exact eng_ev key _ _ ⟨[], 0, []⟩
end Go.Proofs.YtkgnmddakiagbaaGreatDoor
