/- The column of an event: the program's walk, over trees. -/
import Derived.Test.YteldgllgagjciaaGreatLkB
import Derived.Test.YteldgllgagjciaaGreatEX
import Derived.Test.YteldgllgagjciaaGreatEG
import Derived.Test.YteldgllgagjciaaGreatMk1
import Derived.Test.YteldgllgagjciaaGreatMk2
import Derived.Test.YteldgllgagjciaaGreatMk3
import Derived.Test.YteldgllgagjciaaGreatMk4
import Derived.Test.YteldgllgagjciaaGreatLk1
import Derived.Test.YteldgllgagjciaaGreatLk2
import Derived.Test.YteldgllgagjciaaGreatLk3
import Derived.Test.YteldgllgagjciaaGreatLk4
import Derived.Test.YteldgllgagjciaaGreatShelf

/- The column of an event: plain words. -/
namespace Go.Proofs.YteldgllgagjciaaGreat
open Go.RowKit
set_option linter.unusedVariables false
/-- A blank and a word. -/
def sp (t : List UInt8) : List UInt8 := 32 :: t
theorem sp_inj {a b : List UInt8} (h : sp a = sp b) : a = b := by injection h
/-- The cell of a stop, by what is the longest hold of a course. -/
def stT (s : Int) (L : Int → Nat) (x : Stp) : List UInt8 := cellS s x.1 x.2.1 x.2.2.1 x.2.2.2.1 x.2.2.2.2 (L x.1)
def stK (s : Int) (L : Int → Nat) (x : Stp) : Bool := cellOk s x.1 x.2.1 x.2.2.1 x.2.2.2.1 x.2.2.2.2 (L x.1)
def stOn (l : List Stp) (c : Int) : Option Stp := l.find? fun x => x.1 == c
/-- What stands on the line of a course. -/
def stF (s : Int) (L : Int → Nat) (l : List Stp) (c : Int) : List UInt8 :=
  match stOn l c with
  | some x => stT s L x
  | none => [45]
/-- The courses of a list rise. -/
def asc : Int → List Stp → Prop
  | _, [] => True
  | m, x :: r => m < x.1 ∧ asc x.1 r
theorem asc_of {p : Pce} {i : Int} : ∀ {l : List Stp} {last : Int}, stopsE p i last l = 0 → asc last l
  | [], _, _ => trivial
  | x :: r, last, h => by
    unfold stopsE at h
    by_cases h1 : stopE p i x last ≠ 0
    · rw [if_pos h1] at h; exact absurd h h1
    · rw [if_neg h1] at h
      refine ⟨?_, asc_of h⟩
      by_cases h2 : last < x.1
      · exact h2
      · exfalso; apply h1
        unfold stopE
        split
        · decide
        · split
          · decide
          · rw [if_pos (by omega)]; decide
theorem asc_lt : ∀ {l : List Stp} {m : Int}, asc m l → ∀ x ∈ l, m < x.1
  | y :: r, m, h, x, hx => by
    rcases List.mem_cons.1 hx with rfl | hx
    · exact h.1
    · have := asc_lt h.2 x hx; have := h.1; omega
theorem asc_take {l : List Stp} : ∀ {m : Int} (k : Nat) (h : k < l.length), asc m l → ∀ x ∈ l.take k, x.1 < l[k].1 := by
  induction l with
  | nil => intro m k h; simp at h
  | cons y r ih =>
    intro m k h ha x hx
    cases k with
    | zero => simp at hx
    | succ k =>
      simp only [List.take_succ_cons, List.mem_cons] at hx
      rcases hx with rfl | hx
      · exact asc_lt ha.2 _ (by simp)
      · simpa using ih k (by simpa using h) ha.2 x hx
theorem stOn_none {l : List Stp} {c : Int} (h : ∀ x ∈ l, x.1 ≠ c) : stOn l c = none := by
  unfold stOn
  rw [List.find?_eq_none]
  intro x hx
  simpa using h x hx
theorem stOn_snoc (l : List Stp) (x : Stp) (c : Int) (h : ∀ y ∈ l, y.1 < x.1) : stOn (l ++ [x]) c = if c = x.1 then some x else stOn l c := by
  by_cases e : c = x.1
  · rw [if_pos e]
    have h0 : stOn l c = none := stOn_none fun y hy => by have := h y hy; omega
    unfold stOn at h0 ⊢
    rw [List.find?_append, h0]
    simp [e]
  · rw [if_neg e]
    unfold stOn
    rw [List.find?_append]
    have : [x].find? (fun y => y.1 == c) = none := by simp; omega
    rw [this, Option.or_none]
theorem stF_snoc (s : Int) (L : Int → Nat) (l : List Stp) (x : Stp) (c : Int) (h : ∀ y ∈ l, y.1 < x.1) : stF s L (l ++ [x]) c = if c = x.1 then stT s L x else stF s L l c := by
  unfold stF
  rw [stOn_snoc l x c h]
  by_cases e : c = x.1
  · rw [if_pos e, if_pos e]
  · rw [if_neg e, if_neg e]
/-- The course of the line j + 1 of a staff of n lines. -/
def cAt (s : Int) (n j : Nat) : Int := if s = 2 then (n : Int) - j else (j : Int) + 1
def staffL (s : Int) (L : Int → Nat) (n : Nat) (l : List Stp) : List (List UInt8) := (List.range n).map fun j => stF s L l (cAt s n j)
theorem staffL_nil (s : Int) (L : Int → Nat) (n : Nat) : staffL s L n [] = List.replicate n [45] := by
  unfold staffL
  apply List.ext_getElem
  · simp
  · intro i h1 h2; simp [stF, stOn]
theorem staffL_snoc (s : Int) (L : Int → Nat) (n : Nat) (l : List Stp) (x : Stp) (hs : s ≠ 4) (h : ∀ y ∈ l, y.1 < x.1) (h1 : 1 ≤ x.1) (hn : x.1 ≤ n) : staffL s L n (l ++ [x]) = (staffL s L n l).set (lineV s x.1 n - 1).toNat (stT s L x) := by
  apply List.ext_getElem
  · simp [staffL]
  · intro j h2 h3
    have hj : j < n := by simpa [staffL] using h2
    rw [List.getElem_set]
    simp only [staffL, List.getElem_map, List.getElem_range]
    rw [stF_snoc s L l x _ h]
    have e : cAt s n j = x.1 ↔ (lineV s x.1 n - 1).toNat = j := by
      unfold cAt lineV
      rw [if_neg hs]
      by_cases e2 : s = 2
      · rw [if_pos e2, if_pos e2]; omega
      · rw [if_neg e2, if_neg e2]; omega
    by_cases e3 : cAt s n j = x.1
    · rw [if_pos e3, if_pos (e.1 e3)]
    · rw [if_neg e3, if_neg (fun q => e3 (e.2 q))]
def outL (s : Int) (L : Int → Nat) (n : Nat) (l : List Stp) : List (List UInt8) :=
  if s = 2 then ((l.filter fun x => decide ((n : Int) < x.1)).map (stT s L)).reverse else (l.filter fun x => decide ((n : Int) < x.1)).map (stT s L)
theorem outL_in (s : Int) (L : Int → Nat) (n : Nat) (l : List Stp) (x : Stp) (h : x.1 ≤ n) : outL s L n (l ++ [x]) = outL s L n l := by
  unfold outL
  have : [x].filter (fun x => decide ((n : Int) < x.1)) = [] := by simp; omega
  rw [List.filter_append, this, List.append_nil]
theorem outL_out (s : Int) (L : Int → Nat) (n : Nat) (l : List Stp) (x : Stp) (h : ¬ x.1 ≤ n) : outL s L n (l ++ [x]) = if s = 2 then stT s L x :: outL s L n l else outL s L n l ++ [stT s L x] := by
  unfold outL
  have : [x].filter (fun x => decide ((n : Int) < x.1)) = [x] := by simp; omega
  rw [List.filter_append, this]
  by_cases e : s = 2
  · rw [if_pos e, if_pos e, if_pos e]; simp
  · rw [if_neg e, if_neg e, if_neg e]; simp
theorem outL_len (s : Int) (L : Int → Nat) (n : Nat) (l : List Stp) : (outL s L n l).length ≤ l.length := by
  unfold outL
  split
  · simp; exact List.length_filter_le _ _
  · simp; exact List.length_filter_le _ _
/-- The words of a column. -/
def headW (s : Int) (e : Ev) : List (List UInt8) := if e.bar = true then [[124], tW e.val (sgI e.dot e.three)] else [tW e.val (sgI e.dot e.three)]
def staffN (s : Int) (p : Pce) : Nat := if s = 4 then 0 else min p.cs.length 6
def colW (s : Int) (p : Pce) (i : Int) (e : Ev) : List (List UInt8) :=
  headW s e ++ (if e.tie = true then [[126]] else if e.stops.length = 0 then [[37]] else
    if s = 2 then outL s (fun c => longestN p.evs i c) (staffN s p) e.stops ++ staffL s (fun c => longestN p.evs i c) (staffN s p) e.stops
    else staffL s (fun c => longestN p.evs i c) (staffN s p) e.stops ++ outL s (fun c => longestN p.evs i c) (staffN s p) e.stops)
def spW (l : List (List UInt8)) : List UInt8 := l.flatMap sp
def joinW : List (List UInt8) → List UInt8
  | [] => []
  | x :: r => x ++ spW r
theorem joinW_lib (l : List (List UInt8)) : Lib.join l [32] = joinW l := by
  cases l with
  | nil => rfl
  | cons x r =>
    rw [Lib.join_cons]
    show x ++ Lib.joinTail [32] r = x ++ r.flatMap sp
    unfold Lib.joinTail
    rw [List.flatMap_def]; rfl
def colS (s : Int) (p : Pce) (i : Int) (e : Ev) : List UInt8 := joinW (colW s p i e)
/-! The reference goes over the courses. -/
def refHead (s : Int) (e : Ev) : List UInt8 := (if e.bar = true then [124, 32] else []) ++ tW e.val (sgI e.dot e.three)
theorem head_join (s : Int) (e : Ev) (r : List (List UInt8)) : joinW (headW s e ++ r) = refHead s e ++ spW r := by
  unfold headW refHead
  by_cases h : e.bar = true
  · rw [if_pos h, if_pos h]; simp [joinW, spW, sp]
  · rw [if_neg h, if_neg h]; simp [joinW]
theorem colS_tie {s : Int} {p : Pce} {i : Int} {e : Ev} (h : e.tie = true) : colS s p i e = refHead s e ++ [32, 126] := by
  unfold colS colW
  rw [if_pos h, head_join]; rfl
theorem colS_rest {s : Int} {p : Pce} {i : Int} {e : Ev} (h : ¬ e.tie = true) (h1 : e.stops.length = 0) : colS s p i e = refHead s e ++ [32, 37] := by
  unfold colS colW
  rw [if_neg h, if_pos h1, head_join]; rfl
/-- What stands on the staff, by the courses up to c. -/
def refStaff (s : Int) (L : Int → Nat) (l : List Stp) (m : Nat) : List UInt8 :=
  if s = 2 then ((List.range m).map fun q : Nat => sp (stF s L l ((q : Int) + 1))).reverse.flatten else ((List.range m).map fun q : Nat => sp (stF s L l ((q : Int) + 1))).flatten
theorem refStaff_succ (s : Int) (L : Int → Nat) (l : List Stp) (m : Nat) : refStaff s L l (m + 1) = if s = 2 then sp (stF s L l ((m : Int) + 1)) ++ refStaff s L l m else refStaff s L l m ++ sp (stF s L l ((m : Int) + 1)) := by
  unfold refStaff
  rw [List.range_succ, List.map_append]
  by_cases e : s = 2
  · rw [if_pos e, if_pos e, if_pos e]; simp
  · rw [if_neg e, if_neg e, if_neg e]; simp
theorem refStaff_all (s : Int) (L : Int → Nat) (l : List Stp) (n : Nat) : refStaff s L l n = spW (staffL s L n l) := by
  unfold refStaff staffL spW
  rw [List.flatMap_def, List.map_map]
  by_cases e : s = 2
  · rw [if_pos e]
    congr 1
    apply List.ext_getElem
    · simp
    · intro j h1 h2
      have hj : j < n := by simpa using h1
      simp only [List.getElem_reverse, List.getElem_map, List.getElem_range, List.length_map, List.length_range, Function.comp_apply, cAt, if_pos e]
      congr 2; omega
  · rw [if_neg e]
    congr 1
    apply List.map_congr_left
    intro j hj
    simp only [Function.comp_apply, cAt, if_neg e]
/-- What stands outside, by the courses up to c. -/
def refOut (s : Int) (L : Int → Nat) (n : Nat) (l : List Stp) (c : Int) : List UInt8 := spW (outL s L n (l.filter fun x => decide (x.1 ≤ c)))
theorem filter_up {l : List Stp} {c : Int} : ∀ {m : Int}, asc m l → (l.filter fun x => decide (x.1 ≤ c + 1)) = (l.filter fun x => decide (x.1 ≤ c)) ++ (stOn l (c + 1)).toList := by
  induction l with
  | nil => intro m _; rfl
  | cons x r ih =>
    intro m ha
    by_cases h1 : x.1 ≤ c
    · have e : stOn (x :: r) (c + 1) = stOn r (c + 1) := by
        unfold stOn
        rw [List.find?_cons_of_neg (by simp; omega)]
      rw [List.filter_cons_of_pos (by simp; omega), List.filter_cons_of_pos (by simpa using h1), e, ih ha.2]; rfl
    · have hr : ∀ y ∈ r, ¬ y.1 ≤ c + 1 := fun y hy => by have := asc_lt ha.2 y hy; omega
      have e1 : (r.filter fun x => decide (x.1 ≤ c + 1)) = [] := by rw [List.filter_eq_nil_iff]; intro y hy; simpa using hr y hy
      have e2 : (r.filter fun x => decide (x.1 ≤ c)) = [] := by rw [List.filter_eq_nil_iff]; intro y hy; have := hr y hy; simp; omega
      rw [List.filter_cons_of_neg (l := r) (p := fun x => decide (x.1 ≤ c)) (by simpa using h1), e2]
      by_cases h2 : x.1 = c + 1
      · rw [List.filter_cons_of_pos (by simp; omega), e1]
        unfold stOn
        rw [List.find?_cons_of_pos (by simpa using h2)]; rfl
      · rw [List.filter_cons_of_neg (by simp; omega), e1]
        have : stOn (x :: r) (c + 1) = none := stOn_none fun y hy => by
          rcases List.mem_cons.1 hy with rfl | hy
          · exact h2
          · have := hr y hy; omega
        rw [this]; rfl
theorem stOn_eq {l : List Stp} {c : Int} {x : Stp} (h : stOn l c = some x) : x ∈ l ∧ x.1 = c := by
  unfold stOn at h
  exact ⟨List.mem_of_find?_eq_some h, by simpa using List.find?_some h⟩
theorem refOut_up (s : Int) (L : Int → Nat) (n : Nat) (l : List Stp) (c m : Int) (ha : asc m l) : refOut s L n l (c + 1) = match stOn l (c + 1) with
    | some x => if c + 1 ≤ n then refOut s L n l c else if s = 2 then sp (stT s L x) ++ refOut s L n l c else refOut s L n l c ++ sp (stT s L x)
    | none => refOut s L n l c := by
  unfold refOut
  rw [filter_up ha]
  cases hx : stOn l (c + 1) with
  | none => simp
  | some x =>
    have hxc := (stOn_eq hx).2
    simp only [Option.toList_some]
    by_cases h1 : c + 1 ≤ n
    · rw [if_pos h1, outL_in _ _ _ _ _ (by omega)]
    · rw [if_neg h1, outL_out _ _ _ _ _ (by omega)]
      by_cases e : s = 2
      · rw [if_pos e, if_pos e]; simp [spW]
      · rw [if_neg e, if_neg e]; simp [spW]
theorem refOut_zero (s : Int) (L : Int → Nat) (n : Nat) (l : List Stp) (ha : asc 0 l) : refOut s L n l 0 = [] := by
  unfold refOut
  have : (l.filter fun x => decide (x.1 ≤ 0)) = [] := by rw [List.filter_eq_nil_iff]; intro y hy; have := asc_lt ha y hy; simp; omega
  rw [this]
  unfold outL; split <;> rfl
theorem refOut_all (s : Int) (L : Int → Nat) (n : Nat) (l : List Stp) (c : Int) (h : ∀ x ∈ l, x.1 ≤ c) : refOut s L n l c = spW (outL s L n l) := by
  unfold refOut
  rw [List.filter_eq_self.2 fun x hx => by simpa using h x hx]
theorem colS_chord {s : Int} {p : Pce} {i : Int} {e : Ev} {L : Int → Nat} (hL : L = fun c => longestN p.evs i c) (h : ¬ e.tie = true) (h1 : ¬ e.stops.length = 0) (c : Int) (hc : ∀ x ∈ e.stops, x.1 ≤ c) :
    colS s p i e = refHead s e ++ (if s = 2 then refOut s L (staffN s p) e.stops c else []) ++ refStaff s L e.stops (staffN s p) ++ (if s = 2 then [] else refOut s L (staffN s p) e.stops c) := by
  subst hL
  unfold colS colW
  rw [if_neg h, if_neg h1, head_join, refOut_all _ _ _ _ _ hc, refStaff_all]
  by_cases e : s = 2
  · rw [if_pos e, if_pos e, if_pos e]; simp [spW]
  · rw [if_neg e, if_neg e, if_neg e]; simp [spW]
/-! Lengths; no cell is a dash. -/
theorem cellS_len (s c f r g h L : Int) (hs : 1 ≤ s ∧ s ≤ 4) (hc : 1 ≤ c ∧ c ≤ 14) (hf : 0 ≤ f ∧ f ≤ 18) : (cellS s c f r g h L).length ≤ 12 := by
  unfold cellS
  have h1 := (pS_len s c f hs hc hf).1
  have h2 := rR_len s r
  have h3 := rG_len s g
  have h4 := pH_len s h L
  simp only [List.length_append]; omega
theorem symDash : ((List.range' 1 4).all fun s => (List.range' 1 14).all fun c => (List.range 19).all fun f => !(pOk (s : Nat) (c : Nat) (f : Nat)) || (match pS (s : Nat) (c : Nat) (f : Nat) with | x :: _ => x != 45 | [] => false)) = true := by
  decide +kernel
theorem cellS_dash (s c f r g h L : Int) (hs : 1 ≤ s ∧ s ≤ 4) (hc : 1 ≤ c ∧ c ≤ 14) (hf : 0 ≤ f ∧ f ≤ 18) (ho : pOk s c f = true) : cellS s c f r g h L ≠ [45] := by
  obtain ⟨s, rfl⟩ := Int.eq_ofNat_of_zero_le (show 0 ≤ s by omega)
  obtain ⟨c, rfl⟩ := Int.eq_ofNat_of_zero_le (show 0 ≤ c by omega)
  obtain ⟨f, rfl⟩ := Int.eq_ofNat_of_zero_le hf.1
  have h := symDash
  rw [List.all_eq_true] at h
  have h1 := h s (List.mem_range'_1.2 (by omega))
  rw [List.all_eq_true] at h1
  have h2 := h1 c (List.mem_range'_1.2 (by omega))
  rw [List.all_eq_true] at h2
  have h3 := h2 f (List.mem_range.2 (by omega))
  rw [Bool.or_eq_true] at h3
  rcases h3 with h3 | h3
  · rw [Bool.not_eq_true'] at h3; rw [h3] at ho; cases ho
  · unfold cellS
    cases hp : pS (s : Nat) (c : Nat) (f : Nat) with
    | nil => rw [hp] at h3; cases h3
    | cons x r =>
      rw [hp] at h3
      have : x ≠ 45 := by simpa using h3
      simp only [List.cons_append]
      intro e
      injection e with e1 _
      exact this e1
/-- What the system says of every stop of the event. -/
theorem stK_of {s : Int} {p : Pce} {i : Int} {e : Ev} (h : lackE s p i e = []) : ∀ x ∈ e.stops, stK s (fun c => longestN p.evs i c) x = true := fun x hx => by
  unfold lackE at h
  have h1 := (List.append_eq_nil_iff.1 h).2
  rw [List.flatMap_eq_nil_iff] at h1
  have h2 := h1 x hx
  unfold lackStop at h2
  by_cases e1 : pOk s x.1 x.2.1 = false
  · rw [if_pos e1] at h2; cases h2
  · rw [if_neg e1] at h2
    have lk : ∀ b i c w, lkIf b i c w = [] → b = true := fun b i c w h => by cases b <;> first | rfl | cases h
    obtain ⟨a1, a2⟩ := List.append_eq_nil_iff.1 h2
    obtain ⟨a2, a3⟩ := List.append_eq_nil_iff.1 a2
    unfold stK cellOk
    rw [lk _ _ _ _ a1, lk _ _ _ _ a2, lk _ _ _ _ a3]
    simpa using e1
theorem spW_len {n : Nat} : ∀ {l : List (List UInt8)}, (∀ t ∈ l, t.length ≤ n) → (spW l).length ≤ (n + 1) * l.length
  | [], _ => by simp [spW]
  | x :: r, h => by
    have h1 := spW_len (l := r) fun t ht => h t (by simp [ht])
    have h2 := h x (by simp)
    unfold spW at h1 ⊢
    rw [List.flatMap_cons, List.length_append, List.length_cons, Nat.mul_succ]
    have : (sp x).length = x.length + 1 := by simp [sp]
    omega
end Go.Proofs.YteldgllgagjciaaGreat

/- The column of an event: the program, over trees. -/
namespace Go.Proofs.YteldgllgagjciaaGreat
open Go.RowKit
set_option linter.unusedVariables false
set_option linter.unusedSimpArgs false
set_option maxRecDepth 100000
set_option maxHeartbeats 4000000
/-- Values that are plain. -/
def plV : AV → Option Value
  | .sc v => some v
  | .ag l =>
    match scs l with
    | some xs => some (.agg xs.toArray)
    | none => none
  | _ => none
def plL : List AV → Option (List Value)
  | [] => some []
  | x :: r =>
    match plV x, plL r with
    | some v, some l => some (v :: l)
    | _, _ => none
theorem plV_of {F : View} {av : AV} {u v : Value} (h : plV av = some v) (r : RP F av u) : u = v := by
  cases av with
  | sc x => cases h; exact r.sc_eq
  | ag l =>
    cases hs : scs l with
    | none => simp [plV, hs] at h
    | some xs =>
      simp [plV, hs] at h
      subst h
      obtain ⟨cs, rfl, h1, h2⟩ := (R.pu (G := ⟨F, fun _ => 0, fun _ => 0, fun _ => undef⟩) _ _ r).ag_of
      have e : cs.toList = xs := scs_of (G := ⟨F, fun _ => 0, fun _ => 0, fun _ => undef⟩) hs (by simpa using h1) (fun i av u p q => h2 i av u p (by simpa using q))
      subst e
      simp
  | _ => cases h
theorem plL_of {F : View} : ∀ {l : List AV} {xs vs : List Value}, plL l = some xs → vs.length = l.length → (∀ (i : Nat) av u, l[i]? = some av → vs[i]? = some u → RP F av u) → vs = xs
  | [], xs, vs, h, hl, _ => by cases h; exact List.eq_nil_of_length_eq_zero hl
  | x :: r, xs, [], h, hl, _ => by cases hl
  | x :: r, xs, v :: vs, h, hl, hq => by
    unfold plL at h
    split at h
    · rename_i u l h1 h2
      cases h
      rw [plV_of h1 (hq 0 x v rfl rfl), plL_of (F := F) (vs := vs) h2 (by simpa using hl) fun i av u a b => hq (i + 1) av u (by simpa using a) (by simpa using b)]
    · cases h
theorem Ctr.of_pl {P : Program} {f : FuncId} {args : List AV} {xs : List Value} {res : AV} {v : Value} (hs : plL args = some xs) (hv : ∀ F, RP F res v) (h : ∀ w, Calls P f xs.toArray w (Ret v w)) : Ctr P f args res := by
  intro w F vs hF hR
  have := plL_of hs hR.1 hR.2
  subst this
  exact (h w).mono fun e w' ⟨he, hb⟩ => ⟨v, F, he, hb, fun _ _ h => h, fun p u x => by rw [hb.cell (cell_block (hF p u x))]; exact hF p u x, fun _ _ h => .inl h, hv F⟩
theorem rp_tu2 {F : View} {u v : Value} : RP F (.tu [.sc u, .sc v]) (.tuple #[u, v]) := .tu _ _ rfl fun i av x a b => by
  match i with
  | 0 => cases a; cases b; exact .sc _
  | 1 => cases a; cases b; exact .sc _
  | i + 2 => simp at a
def eSg (e : Ev) : AV := .ag [.sc (.int .i64 e.val), .sc (.bool e.dot), .sc (.bool e.three)]
theorem sg_cases {v : Int} {d t : Bool} (h : sgOk v d t = true) : 0 ≤ v ∧ v ≤ 7 ∧ sgI d t ≤ 2 ∧ d = sgD (sgI d t) ∧ t = sgT (sgI d t) ∧ (v = 0 → sgI d t = 0) := by
  have hv : 0 ≤ v ∧ v ≤ 7 := by
    unfold sgOk at h
    simp only [Bool.or_eq_true, Bool.and_eq_true, beq_iff_eq, decide_eq_true_eq] at h
    omega
  refine ⟨hv.1, hv.2, ?_⟩
  cases d <;> cases t
  · exact ⟨by decide, rfl, rfl, fun _ => rfl⟩
  · refine ⟨by decide, rfl, rfl, fun h0 => ?_⟩
    subst h0; cases h
  · refine ⟨by decide, rfl, rfl, fun h0 => ?_⟩
    subst h0; cases h
  · exfalso
    unfold sgOk at h
    by_cases h1 : 1 ≤ v <;> by_cases h2 : v ≤ 7 <;> simp [h1, h2] at h
theorem timeWord_FS (s : Int) (hs : 1 ≤ s ∧ s ≤ 4) (e : Ev) (h : sgOk e.val e.dot e.three = true) : Ctr Tryz.prog 45 [.sc (sysV s), eSg e] (.tu [.sc (.string (bs (tW e.val (sgI e.dot e.three)))), .sc (.bool (tOk s e.val (sgI e.dot e.three)))]) := by
  obtain ⟨h1, h2, h3, h4, h5, h6⟩ := sg_cases h
  obtain ⟨i, hi⟩ : ∃ i, sgI e.dot e.three = i := ⟨_, rfl⟩
  rw [hi] at h3 h4 h5 h6 ⊢
  unfold eSg
  rw [h4, h5]
  rcases sys_cases hs with rfl | rfl | rfl | rfl
  · exact Ctr.of_pl rfl (fun _ => rp_tu2) fun w => ptw_1 e.val i w ⟨h1, h2⟩ h3 h6
  · exact Ctr.of_pl rfl (fun _ => rp_tu2) fun w => ptw_2 e.val i w ⟨h1, h2⟩ h3 h6
  · exact Ctr.of_pl rfl (fun _ => rp_tu2) fun w => ptw_3 e.val i w ⟨h1, h2⟩ h3 h6
  · exact Ctr.of_pl rfl (fun _ => rp_tu2) fun w => ptw_4 e.val i w ⟨h1, h2⟩ h3 h6
theorem cell_FS (s : Int) (hs : 1 ≤ s ∧ s ≤ 4) (x : Stp) (L : Int) (hc : 1 ≤ x.1 ∧ x.1 ≤ 14) (hf : 0 ≤ x.2.1 ∧ x.2.1 ≤ 18) (hr : 0 ≤ x.2.2.1 ∧ x.2.2.1 ≤ 3) (hg : 0 ≤ x.2.2.2.1 ∧ x.2.2.2.1 ≤ 4) (hh : 0 ≤ x.2.2.2.2 ∧ x.2.2.2.2 ≤ 15) :
    Ctr Tryz.prog 34 [.sc (sysV s), .ag (eStp x), .sc (.int .i64 L)] (.tu [.sc (.string (bs (cellS s x.1 x.2.1 x.2.2.1 x.2.2.2.1 x.2.2.2.2 L))), .sc (.bool (cellOk s x.1 x.2.1 x.2.2.1 x.2.2.2.1 x.2.2.2.2 L))]) := by
  rcases sys_cases hs with rfl | rfl | rfl | rfl
  · exact Ctr.of_pl rfl (fun _ => rp_tu2) fun w => pcell_1 _ _ _ _ _ _ w hc hf hr hg hh
  · exact Ctr.of_pl rfl (fun _ => rp_tu2) fun w => pcell_2 _ _ _ _ _ _ w hc hf hr hg hh
  · exact Ctr.of_pl rfl (fun _ => rp_tu2) fun w => pcell_3 _ _ _ _ _ _ w hc hf hr hg hh
  · exact Ctr.of_pl rfl (fun _ => rp_tu2) fun w => pcell_4 _ _ _ _ _ _ w hc hf hr hg hh
theorem pLong_FS (p : Pce) (hO : PcOk p) (i x : Int) : Ctr Tryz.prog 39 [ePce p, .sc (.int .i64 i), .sc (.int .i64 x)] (.sc (.int .i64 (longestN p.evs i x))) :=
  Ctr.of_pc (pre := []) (post := [.sc (.int .i64 i), .sc (.int .i64 x)]) rfl rfl (fun _ => .sc _) fun w M hM => pLongest_any M p i x w hM hO
theorem pstaff_FS (cs : List (Int × Int × Bool)) (st : List Int) (h : cs.length ≤ 64) : Ctr Tryz.prog 47 [.ag (eIns cs st)] (.sc (.int .i64 ((min cs.length 6 : Nat) : Int))) := by
  refine Ctr.intro Tryz.func47 rfl Tryz.ntmps47 (Nat.le_of_ble_eq_true rfl) (bd_all rfl) fun w0 F0 => ?_; dsimp only [St.init, number, Nat.reduceAdd]
  repeat (first | refine W.go rfl ?_ | refine WL.nil ?_ | refine WL.ev rfl ?_ | refine WL.gyes rfl rfl rfl rfl ?_ | refine WL.opno rfl rfl rfl rfl rfl rfl rfl ?_ | refine WL.ar rfl rfl (by unfold I64; omega) ?_ | refine WL.len rfl rfl (by first | exact List.length_map _ | exact List.length_replicate | rfl) ?_ | refine WL.idx rfl rfl (by omega) (by first | exact map_at (by omega) | exact map_atZ (by omega) (by omega)) ?_ | refine WL.ixs rfl rfl (by first | omega | (simp; done) | (simp; omega)) ?_ | refine WL.app rfl rfl rfl (by first | omega | (simp; done) | (simp; omega)) ?_ | refine WL.cat rfl rfl (by first | omega | (simp; done) | (simp; omega)) ?_ | refine W.condT rfl ?_ | refine W.condF rfl ?_)
  (first | refine (?_ : W _ _ _ _ _) | refine (?_ : WL _ _ _ _ _ _) | skip)
  try dsimp only [St.put, Nat.reduceAdd]
  refine WL.mm rfl rfl (show _ = ((min cs.length 6 : Nat) : Int) by split <;> omega) ?_
  repeat (first | refine W.go rfl ?_ | refine WL.nil ?_ | refine WL.ev rfl ?_ | refine WL.gyes rfl rfl rfl rfl ?_ | refine WL.opno rfl rfl rfl rfl rfl rfl rfl ?_ | refine WL.ar rfl rfl (by unfold I64; omega) ?_ | refine WL.len rfl rfl (by first | exact List.length_map _ | exact List.length_replicate | rfl) ?_ | refine WL.idx rfl rfl (by omega) (by first | exact map_at (by omega) | exact map_atZ (by omega) (by omega)) ?_ | refine WL.ixs rfl rfl (by first | omega | (simp; done) | (simp; omega)) ?_ | refine WL.app rfl rfl rfl (by first | omega | (simp; done) | (simp; omega)) ?_ | refine WL.cat rfl rfl (by first | omega | (simp; done) | (simp; omega)) ?_ | refine W.condT rfl ?_ | refine W.condF rfl ?_)
  (first | refine (?_ : W _ _ _ _ _) | refine (?_ : WL _ _ _ _ _ _) | skip)
  try dsimp only [St.put, Nat.reduceAdd]
  exact W.ret (fin1 rfl rfl rfl rfl)
/-- A method of a system. -/
theorem WV.sys {P : Program} {C : Cx} {o : Oper} {σ : St} {s : Int} (hs : 1 ≤ s ∧ s ≤ 4) {x : Operand} {name : String} {xs : Array Operand} {ts : Array TypeId} {args : List AV} {res : AV} (fs : Int → FuncId) (ho : o.op = .call { callee := .invoke x name, args := xs, argTypes := ts })
    (hr : σ.ev x = some (.sc (sysV s)))
    (h1 : ∀ vs w, (callMethod (sysV 1) name vs).run P w = .ok (.enter (fs 1) (#[.agg #[]] ++ vs)) w) (h2 : ∀ vs w, (callMethod (sysV 2) name vs).run P w = .ok (.enter (fs 2) (#[.agg #[]] ++ vs)) w)
    (h3 : ∀ vs w, (callMethod (sysV 3) name vs).run P w = .ok (.enter (fs 3) (#[.agg #[]] ++ vs)) w) (h4 : ∀ vs w, (callMethod (sysV 4) name vs).run P w = .ok (.enter (fs 4) (#[.agg #[]] ++ vs)) w)
    (hx : σ.evs xs.toList = some args) (hp : args.all AV.pu2 = true) (h : Ctr P (fs s) (.ag [] :: args) res) : WV P C o σ res := by
  rcases sys_cases hs with rfl | rfl | rfl | rfl
  · exact WV.inv (l := []) ho hr h1 rfl hx hp h
  · exact WV.inv (l := []) ho hr h2 rfl hx hp h
  · exact WV.inv (l := []) ho hr h3 rfl hx hp h
  · exact WV.inv (l := []) ho hr h4 rfl hx hp h
def lineF (s : Int) : FuncId := if s = 1 then 95 else if s = 2 then 126 else if s = 3 then 134 else 141
def behindF (s : Int) : FuncId := if s = 1 then 97 else if s = 2 then 128 else if s = 3 then 136 else 143
theorem line_FS (s : Int) (hs : 1 ≤ s ∧ s ≤ 4) (c n : Int) (hc : 1 ≤ c ∧ c ≤ 14) (hn : 0 ≤ n ∧ n ≤ 6) : Ctr Tryz.prog (lineF s) [.ag [], .sc (.int .i64 c), .sc (.int .i64 n)] (.sc (.int .i64 (lineV s c n))) := by
  rcases sys_cases hs with rfl | rfl | rfl | rfl
  · show Ctr Tryz.prog 95 _ _
    refine Ctr.intro Tryz.func95 rfl Tryz.ntmps95 (Nat.le_of_ble_eq_true rfl) (bd_all rfl) fun w0 F0 => ?_; dsimp only [St.init, number, Nat.reduceAdd]
    repeat (first | refine W.go rfl ?_ | refine WL.nil ?_ | refine WL.ev rfl ?_ | refine WL.gyes rfl rfl rfl rfl ?_ | refine WL.opno rfl rfl rfl rfl rfl rfl rfl ?_ | refine WL.ar rfl rfl (by unfold I64; omega) ?_ | refine WL.len rfl rfl (by first | exact List.length_map _ | exact List.length_replicate | rfl) ?_ | refine WL.idx rfl rfl (by omega) (by first | exact map_at (by omega) | exact map_atZ (by omega) (by omega)) ?_ | refine WL.ixs rfl rfl (by first | omega | (simp; done) | (simp; omega)) ?_ | refine WL.app rfl rfl rfl (by first | omega | (simp; done) | (simp; omega)) ?_ | refine WL.cat rfl rfl (by first | omega | (simp; done) | (simp; omega)) ?_ | refine W.condT rfl ?_ | refine W.condF rfl ?_)
    (first | refine (?_ : W _ _ _ _ _) | refine (?_ : WL _ _ _ _ _ _) | skip)
    try dsimp only [St.put, Nat.reduceAdd]
    exact W.ret (fin1 rfl rfl rfl rfl)
  · show Ctr Tryz.prog 126 _ _
    refine Ctr.intro Tryz.func126 rfl Tryz.ntmps126 (Nat.le_of_ble_eq_true rfl) (bd_all rfl) fun w0 F0 => ?_; dsimp only [St.init, number, Nat.reduceAdd]
    repeat (first | refine W.go rfl ?_ | refine WL.nil ?_ | refine WL.ev rfl ?_ | refine WL.gyes rfl rfl rfl rfl ?_ | refine WL.opno rfl rfl rfl rfl rfl rfl rfl ?_ | refine WL.ar rfl rfl (by unfold I64; omega) ?_ | refine WL.len rfl rfl (by first | exact List.length_map _ | exact List.length_replicate | rfl) ?_ | refine WL.idx rfl rfl (by omega) (by first | exact map_at (by omega) | exact map_atZ (by omega) (by omega)) ?_ | refine WL.ixs rfl rfl (by first | omega | (simp; done) | (simp; omega)) ?_ | refine WL.app rfl rfl rfl (by first | omega | (simp; done) | (simp; omega)) ?_ | refine WL.cat rfl rfl (by first | omega | (simp; done) | (simp; omega)) ?_ | refine W.condT rfl ?_ | refine W.condF rfl ?_)
    (first | refine (?_ : W _ _ _ _ _) | refine (?_ : WL _ _ _ _ _ _) | skip)
    try dsimp only [St.put, Nat.reduceAdd]
    exact W.ret (fin1 rfl rfl rfl rfl)
  · show Ctr Tryz.prog 134 _ _
    refine Ctr.intro Tryz.func134 rfl Tryz.ntmps134 (Nat.le_of_ble_eq_true rfl) (bd_all rfl) fun w0 F0 => ?_; dsimp only [St.init, number, Nat.reduceAdd]
    repeat (first | refine W.go rfl ?_ | refine WL.nil ?_ | refine WL.ev rfl ?_ | refine WL.gyes rfl rfl rfl rfl ?_ | refine WL.opno rfl rfl rfl rfl rfl rfl rfl ?_ | refine WL.ar rfl rfl (by unfold I64; omega) ?_ | refine WL.len rfl rfl (by first | exact List.length_map _ | exact List.length_replicate | rfl) ?_ | refine WL.idx rfl rfl (by omega) (by first | exact map_at (by omega) | exact map_atZ (by omega) (by omega)) ?_ | refine WL.ixs rfl rfl (by first | omega | (simp; done) | (simp; omega)) ?_ | refine WL.app rfl rfl rfl (by first | omega | (simp; done) | (simp; omega)) ?_ | refine WL.cat rfl rfl (by first | omega | (simp; done) | (simp; omega)) ?_ | refine W.condT rfl ?_ | refine W.condF rfl ?_)
    (first | refine (?_ : W _ _ _ _ _) | refine (?_ : WL _ _ _ _ _ _) | skip)
    try dsimp only [St.put, Nat.reduceAdd]
    exact W.ret (fin1 rfl rfl rfl rfl)
  · show Ctr Tryz.prog 141 _ _
    refine Ctr.intro Tryz.func141 rfl Tryz.ntmps141 (Nat.le_of_ble_eq_true rfl) (bd_all rfl) fun w0 F0 => ?_; dsimp only [St.init, number, Nat.reduceAdd]
    repeat (first | refine W.go rfl ?_ | refine WL.nil ?_ | refine WL.ev rfl ?_ | refine WL.gyes rfl rfl rfl rfl ?_ | refine WL.opno rfl rfl rfl rfl rfl rfl rfl ?_ | refine WL.ar rfl rfl (by unfold I64; omega) ?_ | refine WL.len rfl rfl (by first | exact List.length_map _ | exact List.length_replicate | rfl) ?_ | refine WL.idx rfl rfl (by omega) (by first | exact map_at (by omega) | exact map_atZ (by omega) (by omega)) ?_ | refine WL.ixs rfl rfl (by first | omega | (simp; done) | (simp; omega)) ?_ | refine WL.app rfl rfl rfl (by first | omega | (simp; done) | (simp; omega)) ?_ | refine WL.cat rfl rfl (by first | omega | (simp; done) | (simp; omega)) ?_ | refine W.condT rfl ?_ | refine W.condF rfl ?_)
    (first | refine (?_ : W _ _ _ _ _) | refine (?_ : WL _ _ _ _ _ _) | skip)
    try dsimp only [St.put, Nat.reduceAdd]
    exact W.ret (fin1 rfl rfl rfl rfl)
theorem behind_FS (s : Int) (hs : 1 ≤ s ∧ s ≤ 4) : Ctr Tryz.prog (behindF s) [.ag []] (.sc (.bool (!decide (s = 2)))) := by
  rcases sys_cases hs with rfl | rfl | rfl | rfl
  · show Ctr Tryz.prog 97 _ _
    refine Ctr.intro Tryz.func97 rfl Tryz.ntmps97 (Nat.le_of_ble_eq_true rfl) (bd_all rfl) fun w0 F0 => ?_; dsimp only [St.init, number, Nat.reduceAdd]
    repeat (first | refine W.go rfl ?_ | refine WL.nil ?_ | refine WL.ev rfl ?_ | refine WL.gyes rfl rfl rfl rfl ?_ | refine WL.opno rfl rfl rfl rfl rfl rfl rfl ?_ | refine WL.ar rfl rfl (by unfold I64; omega) ?_ | refine WL.len rfl rfl (by first | exact List.length_map _ | exact List.length_replicate | rfl) ?_ | refine WL.idx rfl rfl (by omega) (by first | exact map_at (by omega) | exact map_atZ (by omega) (by omega)) ?_ | refine WL.ixs rfl rfl (by first | omega | (simp; done) | (simp; omega)) ?_ | refine WL.app rfl rfl rfl (by first | omega | (simp; done) | (simp; omega)) ?_ | refine WL.cat rfl rfl (by first | omega | (simp; done) | (simp; omega)) ?_ | refine W.condT rfl ?_ | refine W.condF rfl ?_)
    (first | refine (?_ : W _ _ _ _ _) | refine (?_ : WL _ _ _ _ _ _) | skip)
    try dsimp only [St.put, Nat.reduceAdd]
    exact W.ret (fin1 rfl rfl rfl rfl)
  · show Ctr Tryz.prog 128 _ _
    refine Ctr.intro Tryz.func128 rfl Tryz.ntmps128 (Nat.le_of_ble_eq_true rfl) (bd_all rfl) fun w0 F0 => ?_; dsimp only [St.init, number, Nat.reduceAdd]
    repeat (first | refine W.go rfl ?_ | refine WL.nil ?_ | refine WL.ev rfl ?_ | refine WL.gyes rfl rfl rfl rfl ?_ | refine WL.opno rfl rfl rfl rfl rfl rfl rfl ?_ | refine WL.ar rfl rfl (by unfold I64; omega) ?_ | refine WL.len rfl rfl (by first | exact List.length_map _ | exact List.length_replicate | rfl) ?_ | refine WL.idx rfl rfl (by omega) (by first | exact map_at (by omega) | exact map_atZ (by omega) (by omega)) ?_ | refine WL.ixs rfl rfl (by first | omega | (simp; done) | (simp; omega)) ?_ | refine WL.app rfl rfl rfl (by first | omega | (simp; done) | (simp; omega)) ?_ | refine WL.cat rfl rfl (by first | omega | (simp; done) | (simp; omega)) ?_ | refine W.condT rfl ?_ | refine W.condF rfl ?_)
    (first | refine (?_ : W _ _ _ _ _) | refine (?_ : WL _ _ _ _ _ _) | skip)
    try dsimp only [St.put, Nat.reduceAdd]
    exact W.ret (fin1 rfl rfl rfl rfl)
  · show Ctr Tryz.prog 136 _ _
    refine Ctr.intro Tryz.func136 rfl Tryz.ntmps136 (Nat.le_of_ble_eq_true rfl) (bd_all rfl) fun w0 F0 => ?_; dsimp only [St.init, number, Nat.reduceAdd]
    repeat (first | refine W.go rfl ?_ | refine WL.nil ?_ | refine WL.ev rfl ?_ | refine WL.gyes rfl rfl rfl rfl ?_ | refine WL.opno rfl rfl rfl rfl rfl rfl rfl ?_ | refine WL.ar rfl rfl (by unfold I64; omega) ?_ | refine WL.len rfl rfl (by first | exact List.length_map _ | exact List.length_replicate | rfl) ?_ | refine WL.idx rfl rfl (by omega) (by first | exact map_at (by omega) | exact map_atZ (by omega) (by omega)) ?_ | refine WL.ixs rfl rfl (by first | omega | (simp; done) | (simp; omega)) ?_ | refine WL.app rfl rfl rfl (by first | omega | (simp; done) | (simp; omega)) ?_ | refine WL.cat rfl rfl (by first | omega | (simp; done) | (simp; omega)) ?_ | refine W.condT rfl ?_ | refine W.condF rfl ?_)
    (first | refine (?_ : W _ _ _ _ _) | refine (?_ : WL _ _ _ _ _ _) | skip)
    try dsimp only [St.put, Nat.reduceAdd]
    exact W.ret (fin1 rfl rfl rfl rfl)
  · show Ctr Tryz.prog 143 _ _
    refine Ctr.intro Tryz.func143 rfl Tryz.ntmps143 (Nat.le_of_ble_eq_true rfl) (bd_all rfl) fun w0 F0 => ?_; dsimp only [St.init, number, Nat.reduceAdd]
    repeat (first | refine W.go rfl ?_ | refine WL.nil ?_ | refine WL.ev rfl ?_ | refine WL.gyes rfl rfl rfl rfl ?_ | refine WL.opno rfl rfl rfl rfl rfl rfl rfl ?_ | refine WL.ar rfl rfl (by unfold I64; omega) ?_ | refine WL.len rfl rfl (by first | exact List.length_map _ | exact List.length_replicate | rfl) ?_ | refine WL.idx rfl rfl (by omega) (by first | exact map_at (by omega) | exact map_atZ (by omega) (by omega)) ?_ | refine WL.ixs rfl rfl (by first | omega | (simp; done) | (simp; omega)) ?_ | refine WL.app rfl rfl rfl (by first | omega | (simp; done) | (simp; omega)) ?_ | refine WL.cat rfl rfl (by first | omega | (simp; done) | (simp; omega)) ?_ | refine W.condT rfl ?_ | refine W.condF rfl ?_)
    (first | refine (?_ : W _ _ _ _ _) | refine (?_ : WL _ _ _ _ _ _) | skip)
    try dsimp only [St.put, Nat.reduceAdd]
    exact W.ret (fin1 rfl rfl rfl rfl)
/-! strings.Join. -/
def eStr (t : List UInt8) : List AV := [.sc (.string (bs t))]
theorem join_FS (l : List (List UInt8)) (h1 : l.length ≤ 1000) (h2 : (joinW l).length ≤ 1000000) : Ctr Tryz.prog 46 [.ls 1 (l.map eStr), .sc (.string (bs [32]))] (.sc (.string (bs (joinW l)))) := by
  intro w F vs hF hR
  match vs, hR.1 with
  | [v, v2], _ =>
    obtain rfl := (hR.2 1 _ v2 rfl rfl).sc_eq
    obtain ⟨A, c, rfl, hrd, hc⟩ := rd_of_rp (n := 1) (f := fun t => [Value.string (bs t)]) hF (by omega) (fun _ => rfl) (fun x j u h => by
      match j with
      | 0 => cases h; rfl
      | j + 1 => simp at h) (hR.2 0 _ v rfl rfl)
    have fin : ∀ e w', e = Ending.returned (.string (bs (joinW l))) → Below w.heap.size w w' → ∃ v F', e = .returned v ∧ Below w.heap.size w w' ∧ View.le F F' ∧ (∀ p u, F' p = some u → w'.cell? p = some u) ∧ (∀ p u, F' p = some u → F p = some u ∨ w.heap.size ≤ p.block) ∧ RP F' (.sc (.string (bs (joinW l)))) v :=
      fun e w' he hb => ⟨_, F, he, hb, fun _ _ h => h, fun p u x => by rw [hb.cell (cell_block (hF p u x))]; exact hF p u x, fun _ _ h => .inl h, .sc _⟩
    by_cases h0 : l.length = 0
    · obtain rfl := List.eq_nil_of_length_eq_zero h0
      exact (Tryz.strings_Join_none A c (bs [32]) w).mono fun e w' ⟨he, hw⟩ => fin e w' he (hw ▸ Below.refl _ _)
    · obtain ⟨ad, had, hlt, hcell⟩ := hrd (by simp; omega)
      subst had
      have hsp : ad.spot = none := by
        have := hcell 0 _ (List.getElem?_eq_getElem (by simp; omega)) 0 (.string (bs (l[0]'(by omega)))) (by simp)
        rw [Nat.zero_mul, Nat.add_zero, add_zero'] at this
        unfold World.cell? at this
        cases hs : ad.spot with
        | none => rfl
        | some q =>
          split at this
          · rw [hs] at this; simp at this
          · cases this
      obtain ⟨bk, off, sp⟩ := ad
      simp only at hsp hlt
      subst hsp
      have hm : (l.map bs).map (fun b => b.data.toList) = l := by
        rw [List.map_map]
        exact (List.map_congr_left fun t _ => rfl).trans (List.map_id l)
      have := Tryz.strings_Join bk off c (l.map bs) (bs [32]) w (fun j x hx => ?_) hlt (by simp; omega) (by simpa using hc) (by rw [hm, bs_data, joinW_lib]; omega)
      · rw [hm, bs_data, joinW_lib, List.length_map] at this
        exact this.mono fun e w' ⟨he, hb⟩ => fin e w' he hb
      · rw [List.getElem?_map] at hx
        cases hq : l[j]? with
        | none => simp [hq] at hx
        | some t =>
          rw [hq] at hx
          obtain rfl : bs t = x := by simpa using hx
          have := hcell j _ (by rw [List.getElem?_map, hq]; rfl) 0 (.string (bs t)) rfl
          rw [add_flat, Nat.mul_one, Nat.add_zero] at this
          exact this
end Go.Proofs.YteldgllgagjciaaGreat

namespace Go.Proofs.YteldgllgagjciaaGreat
open Go.RowKit
set_option linter.unusedVariables false
set_option linter.unusedSimpArgs false
set_option maxRecDepth 100000
set_option maxHeartbeats 4000000
theorem headW_bar {s : Int} {e : Ev} (h : e.bar = true) : headW s e = [[124], tW e.val (sgI e.dot e.three)] := if_pos h
theorem headW_no {s : Int} {e : Ev} (h : e.bar = false) : headW s e = [tW e.val (sgI e.dot e.three)] := if_neg (by simp [h])
def fillL (n k : Nat) : List (List UInt8) := (List.range n).map fun j => if j < k then [45] else []
theorem fillL_zero (n : Nat) : (fillL n 0).map eStr = List.replicate n [.sc (.string ⟨#[]⟩)] := by
  unfold fillL
  rw [List.map_map]
  apply List.ext_getElem
  · simp
  · intro i h1 h2; simp [eStr, bs]
theorem fillL_len (n k : Nat) : (fillL n k).length = n := by simp [fillL]
theorem fillL_succ (n k : Nat) (h : k < n) : (fillL n k).set k [45] = fillL n (k + 1) := by
  unfold fillL
  apply List.ext_getElem
  · simp
  · intro i h1 h2
    rw [List.getElem_set]
    simp only [List.getElem_map, List.getElem_range]
    by_cases e : k = i
    · rw [if_pos e, if_pos (by omega)]
    · rw [if_neg e]
      by_cases e2 : i < k
      · rw [if_pos e2, if_pos (by omega)]
      · rw [if_neg e2, if_neg (by omega)]
theorem fillL_all (s : Int) (L : Int → Nat) (n : Nat) : fillL n n = staffL s L n [] := by
  rw [staffL_nil]
  unfold fillL
  apply List.ext_getElem
  · simp
  · intro i h1 h2
    have hi : i < n := by simpa using h1
    simp [hi]
theorem headW_len (s : Int) (e : Ev) : (headW s e).length ≤ 2 := by unfold headW; split <;> simp
theorem staffN_le (s : Int) (p : Pce) : staffN s p ≤ 6 := by unfold staffN; split <;> omega
theorem staffL_len (s : Int) (L : Int → Nat) (n : Nat) (l : List Stp) : (staffL s L n l).length = n := by simp [staffL]
theorem tW_len (v : Int) (i : Nat) (h : 0 ≤ v ∧ v ≤ 7) : (tW v i).length ≤ 2 := by
  unfold tW
  have hc : (cut tmLet (v - 1) v).length ≤ 1 := by simp only [cut, List.length_take, List.length_drop]; omega
  split
  · decide
  · split
    · omega
    · split <;> simp <;> omega
theorem stF_len (s : Int) (hs : 1 ≤ s ∧ s ≤ 4) (L : Int → Nat) (l : List Stp) (c : Int) (h : ∀ x ∈ l, (1 ≤ x.1 ∧ x.1 ≤ 14) ∧ (0 ≤ x.2.1 ∧ x.2.1 ≤ 18)) : (stF s L l c).length ≤ 12 := by
  unfold stF
  split
  · rename_i x hx
    have := h x (stOn_eq hx).1
    exact cellS_len _ _ _ _ _ _ _ hs this.1 this.2
  · simp
theorem in_of {e : Ev} (h : StopsIn e) : ∀ x ∈ e.stops, (1 ≤ x.1 ∧ x.1 ≤ 14) ∧ (0 ≤ x.2.1 ∧ x.2.1 ≤ 18) := fun x hx => by
  obtain ⟨k, hk, rfl⟩ := List.getElem_of_mem hx
  exact ⟨(h k hk).1, (h k hk).2.1⟩
theorem joinW_len {n : Nat} (l : List (List UInt8)) (h : ∀ t ∈ l, t.length ≤ n) : (joinW l).length ≤ (n + 1) * l.length := by
  cases l with
  | nil => simp [joinW]
  | cons x r =>
    have h1 := spW_len (l := r) fun t ht => h t (by simp [ht])
    have h2 := h x (by simp)
    simp only [joinW, List.length_append, List.length_cons, Nat.mul_succ]
    omega
theorem joinW_bd (s : Int) (hs : 1 ≤ s ∧ s ≤ 4) (p : Pce) (i : Int) (e : Ev) (hsg : sgOk e.val e.dot e.three = true) (hv : StopsIn e) (h20 : e.stops.length ≤ 20) : (colW s p i e).length ≤ 1000 ∧ (joinW (colW s p i e)).length ≤ 1000000 := by
  have hi := in_of hv
  have hh := headW_len s e
  have hst : ∀ t ∈ staffL s (fun c => longestN p.evs i c) (staffN s p) e.stops, t.length ≤ 12 := fun t ht => by
    unfold staffL at ht
    obtain ⟨j, _, rfl⟩ := List.mem_map.1 ht
    exact stF_len s hs _ _ _ hi
  have hou : ∀ t ∈ outL s (fun c => longestN p.evs i c) (staffN s p) e.stops, t.length ≤ 12 := fun t ht => by
    have : t ∈ (e.stops.filter fun x => decide (((staffN s p : Nat) : Int) < x.1)).map (stT s fun c => longestN p.evs i c) := by
      unfold outL at ht
      split at ht
      · simpa using ht
      · exact ht
    obtain ⟨x, hx, rfl⟩ := List.mem_map.1 this
    have := hi x (List.mem_filter.1 hx).1
    exact cellS_len _ _ _ _ _ _ _ hs this.1 this.2
  have hlo := outL_len s (fun c => longestN p.evs i c) (staffN s p) e.stops
  have hls := staffL_len s (fun c => longestN p.evs i c) (staffN s p) e.stops
  have hn6 := staffN_le s p
  have hall : ∀ t ∈ colW s p i e, t.length ≤ 12 := fun t ht => by
    unfold colW at ht
    rcases List.mem_append.1 ht with ht | ht
    · have htw := tW_len e.val (sgI e.dot e.three) ⟨(sg_cases hsg).1, (sg_cases hsg).2.1⟩
      unfold headW at ht
      split at ht
      · simp only [List.mem_cons, List.not_mem_nil, or_false] at ht
        rcases ht with rfl | rfl
        · simp
        · omega
      · simp only [List.mem_cons, List.not_mem_nil, or_false] at ht
        subst ht; omega
    · split at ht
      · simp at ht; subst ht; simp
      · split at ht
        · simp at ht; subst ht; simp
        · split at ht
          · rcases List.mem_append.1 ht with ht | ht
            · exact hou t ht
            · exact hst t ht
          · rcases List.mem_append.1 ht with ht | ht
            · exact hst t ht
            · exact hou t ht
  have hlen : (colW s p i e).length ≤ 40 := by
    unfold colW
    rw [List.length_append]
    split
    · simp; omega
    · split
      · simp; omega
      · split
        · rw [List.length_append]; omega
        · rw [List.length_append]; omega
  refine ⟨by omega, ?_⟩
  have := joinW_len _ hall
  have h2 : (12 + 1) * (colW s p i e).length ≤ 13 * 40 := Nat.mul_le_mul_left 13 hlen
  omega
theorem column_FS (s : Int) (hs : 1 ≤ s ∧ s ≤ 4) (p : Pce) (i : Nat) (hi : i < p.evs.length) (hO : PcOk p) (h0 : pceE p = 0) :
    Ctr Tryz.prog 29 [.sc (.int .u8 s), .sc (sysV s), ePce p, .sc (.int .i64 i)] (.sc (.string (bs (colS s p i p.evs[i])))) := by
  have hn3 := hO.n3
  have hE := (pceE_zero h0).2.2 i hi
  have hv := stopsIn_of h0 i hi
  have hsg := (evE_zero hE).1
  refine Ctr.intro Tryz.func29 rfl Tryz.ntmps29 (Nat.le_of_ble_eq_true rfl) (bd_all rfl) fun w0 F0 => ?_; dsimp only [St.init, number, Nat.reduceAdd]
  repeat (first | refine W.go rfl ?_ | refine WL.nil ?_ | refine WL.ev rfl ?_ | refine WL.gyes rfl rfl rfl rfl ?_ | refine WL.opno rfl rfl rfl rfl rfl rfl rfl ?_ | refine WL.ar rfl rfl (by unfold I64; omega) ?_ | refine WL.len rfl rfl (by first | exact List.length_map _ | exact List.length_replicate | rfl) ?_ | refine WL.idx rfl rfl (by omega) (by first | exact map_at (by omega) | exact map_atZ (by omega) (by omega)) ?_ | refine WL.ixs rfl rfl (by first | omega | (simp; done) | (simp; omega)) ?_ | refine WL.app rfl rfl rfl (by first | omega | (simp; done) | (simp; omega)) ?_ | refine WL.cat rfl rfl (by first | omega | (simp; done) | (simp; omega)) ?_ | refine W.condT rfl ?_ | refine W.condF rfl ?_)
  (first | refine (?_ : W _ _ _ _ _) | refine (?_ : WL _ _ _ _ _ _) | skip)
  try dsimp only [St.put, Nat.reduceAdd]
  refine WL.vl rfl (WV.call rfl (callF Tryz.func45 rfl rfl) rfl rfl (timeWord_FS s hs p.evs[i] hsg)) ?_
  repeat (first | refine W.go rfl ?_ | refine WL.nil ?_ | refine WL.ev rfl ?_ | refine WL.gyes rfl rfl rfl rfl ?_ | refine WL.opno rfl rfl rfl rfl rfl rfl rfl ?_ | refine WL.ar rfl rfl (by unfold I64; omega) ?_ | refine WL.len rfl rfl (by first | exact List.length_map _ | exact List.length_replicate | rfl) ?_ | refine WL.idx rfl rfl (by omega) (by first | exact map_at (by omega) | exact map_atZ (by omega) (by omega)) ?_ | refine WL.ixs rfl rfl (by first | omega | (simp; done) | (simp; omega)) ?_ | refine WL.app rfl rfl rfl (by first | omega | (simp; done) | (simp; omega)) ?_ | refine WL.cat rfl rfl (by first | omega | (simp; done) | (simp; omega)) ?_ | refine W.condT rfl ?_ | refine W.condF rfl ?_)
  (first | refine (?_ : W _ _ _ _ _) | refine (?_ : WL _ _ _ _ _ _) | skip)
  try dsimp only [St.put, Nat.reduceAdd]
  refine W.meet ⟨[(0, .sc (.int .u8 s)), (1, .sc (sysV s)), (3, .sc (.int .i64 i)), (6, .pt 0 0 0), (9, .pt 1 0 0), (12, .sl 2)], [(0, .box 29 (ePce p).cells), (1, .box 46 (eEv p.evs[i])), (2, .row 9 1 ((headW s p.evs[i]).map eStr))], 3⟩ ?_ ?_
  · (refine W.cond rfl (fun hif => ?_) (fun hif => ?_) <;> (try simp only [decide_eq_true_eq, decide_eq_false_iff_not, Int.not_lt, Int.not_le, Bool.not_eq_true', Bool.not_eq_false'] at hif))
    · rw [headW_bar hif]
      repeat (first | refine W.go rfl ?_ | refine WL.nil ?_ | refine WL.ev rfl ?_ | refine WL.gyes rfl rfl rfl rfl ?_ | refine WL.opno rfl rfl rfl rfl rfl rfl rfl ?_ | refine WL.ar rfl rfl (by unfold I64; omega) ?_ | refine WL.len rfl rfl (by first | exact List.length_map _ | exact List.length_replicate | rfl) ?_ | refine WL.idx rfl rfl (by omega) (by first | exact map_at (by omega) | exact map_atZ (by omega) (by omega)) ?_ | refine WL.ixs rfl rfl (by first | omega | (simp; done) | (simp; omega)) ?_ | refine WL.app rfl rfl rfl (by first | omega | (simp; done) | (simp; omega)) ?_ | refine WL.cat rfl rfl (by first | omega | (simp; done) | (simp; omega)) ?_ | refine W.condT rfl ?_ | refine W.condF rfl ?_)
      (first | refine (?_ : W _ _ _ _ _) | refine (?_ : WL _ _ _ _ _ _) | skip)
      try dsimp only [St.put, Nat.reduceAdd]
      refine (?_ : Tr _ _ _)
      exact (Tr.ren (fun q => bif Nat.beq q 2 then 3 else q) (by repeat (first | exact trivial | refine ⟨⟨?_, ?_⟩, ?_⟩ | rfl)) (by repeat (first | exact trivial | refine ⟨⟨?_, ?_, ?_⟩, ?_⟩ | rfl | exact congrArg (fun q => some (AO.row _ _ q)) (by first | rfl | (simp; done) | (simp [eInt]; done) | (simp [eLk]; done)))) rfl)
    · rw [headW_no hif]
      repeat (first | refine W.go rfl ?_ | refine WL.nil ?_ | refine WL.ev rfl ?_ | refine WL.gyes rfl rfl rfl rfl ?_ | refine WL.opno rfl rfl rfl rfl rfl rfl rfl ?_ | refine WL.ar rfl rfl (by unfold I64; omega) ?_ | refine WL.len rfl rfl (by first | exact List.length_map _ | exact List.length_replicate | rfl) ?_ | refine WL.idx rfl rfl (by omega) (by first | exact map_at (by omega) | exact map_atZ (by omega) (by omega)) ?_ | refine WL.ixs rfl rfl (by first | omega | (simp; done) | (simp; omega)) ?_ | refine WL.app rfl rfl rfl (by first | omega | (simp; done) | (simp; omega)) ?_ | refine WL.cat rfl rfl (by first | omega | (simp; done) | (simp; omega)) ?_ | refine W.condT rfl ?_ | refine W.condF rfl ?_)
      (first | refine (?_ : W _ _ _ _ _) | refine (?_ : WL _ _ _ _ _ _) | skip)
      try dsimp only [St.put, Nat.reduceAdd]
      refine (?_ : Tr _ _ _)
      exact (Tr.ren (fun q => q) (by repeat (first | exact trivial | refine ⟨⟨?_, ?_⟩, ?_⟩ | rfl)) (by repeat (first | exact trivial | refine ⟨⟨?_, ?_, ?_⟩, ?_⟩ | rfl | exact congrArg (fun q => some (AO.row _ _ q)) (by first | rfl | (simp; done) | (simp [eInt]; done) | (simp [eLk]; done)))) rfl)
  obtain ⟨L, hL⟩ : ∃ L : Int → Nat, L = fun c => longestN p.evs i c := ⟨_, rfl⟩
  have hwl := headW_len s p.evs[i]
  have hjl := joinW_bd s hs p i p.evs[i] hsg hv (hO.n4 i hi)
  unfold colS at *
  obtain ⟨n, hn⟩ : ∃ n, staffN s p = n := ⟨_, rfl⟩
  have hn6 := staffN_le s p
  rw [hn] at hn6
  have hjoin := join_FS (colW s p i p.evs[i]) hjl.1 hjl.2
  have e1 : p.evs[i].tie = true → colW s p i p.evs[i] = headW s p.evs[i] ++ [[126]] := fun h => by unfold colW; rw [if_pos h]
  have e2 : p.evs[i].tie = false → (p.evs[i].stops.length : Int) = 0 → colW s p i p.evs[i] = headW s p.evs[i] ++ [[37]] := fun h h1 => by unfold colW; rw [if_neg (by simp [h]), if_pos (by omega)]
  have e3 : p.evs[i].tie = false → ¬ (p.evs[i].stops.length : Int) = 0 → s = 2 → colW s p i p.evs[i] = headW s p.evs[i] ++ outL s L n p.evs[i].stops ++ staffL s L n p.evs[i].stops := fun h h1 h2 => by
    unfold colW; rw [if_neg (by simp [h]), if_neg (by omega), if_pos h2, hn, ← hL, List.append_assoc]
  have e4 : p.evs[i].tie = false → ¬ (p.evs[i].stops.length : Int) = 0 → ¬ s = 2 → colW s p i p.evs[i] = headW s p.evs[i] ++ staffL s L n p.evs[i].stops ++ outL s L n p.evs[i].stops := fun h h1 h2 => by
    unfold colW; rw [if_neg (by simp [h]), if_neg (by omega), if_neg h2, hn, ← hL, List.append_assoc]
  obtain ⟨hd, hhd⟩ : ∃ l, headW s p.evs[i] = l := ⟨_, rfl⟩
  obtain ⟨cw, hcw⟩ : ∃ l, colW s p i p.evs[i] = l := ⟨_, rfl⟩
  rw [hhd] at e1 e2 e3 e4 hwl ⊢
  rw [hcw] at e1 e2 e3 e4 hjoin ⊢
  clear hcw hjl
  repeat (first | refine W.go rfl ?_ | refine WL.nil ?_ | refine WL.ev rfl ?_ | refine WL.gyes rfl rfl rfl rfl ?_ | refine WL.opno rfl rfl rfl rfl rfl rfl rfl ?_ | refine WL.ar rfl rfl (by unfold I64; omega) ?_ | refine WL.len rfl rfl (by first | exact List.length_map _ | exact List.length_replicate | rfl) ?_ | refine WL.idx rfl rfl (by omega) (by first | exact map_at (by omega) | exact map_atZ (by omega) (by omega)) ?_ | refine WL.ixs rfl rfl (by first | omega | (simp; done) | (simp; omega)) ?_ | refine WL.app rfl rfl rfl (by first | omega | (simp; done) | (simp; omega)) ?_ | refine WL.cat rfl rfl (by first | omega | (simp; done) | (simp; omega)) ?_ | refine W.condT rfl ?_ | refine W.condF rfl ?_)
  (first | refine (?_ : W _ _ _ _ _) | refine (?_ : WL _ _ _ _ _ _) | skip)
  try dsimp only [St.put, Nat.reduceAdd]
  (refine W.cond rfl (fun hif => ?_) (fun hif => ?_) <;> (try simp only [decide_eq_true_eq, decide_eq_false_iff_not, Int.not_lt, Int.not_le, Bool.not_eq_true', Bool.not_eq_false'] at hif))
  · have e := e1 hif
    rw [e, List.map_append] at hjoin
    rw [e]
    repeat (first | refine W.go rfl ?_ | refine WL.nil ?_ | refine WL.ev rfl ?_ | refine WL.gyes rfl rfl rfl rfl ?_ | refine WL.opno rfl rfl rfl rfl rfl rfl rfl ?_ | refine WL.ar rfl rfl (by unfold I64; omega) ?_ | refine WL.len rfl rfl (by first | exact List.length_map _ | exact List.length_replicate | rfl) ?_ | refine WL.idx rfl rfl (by omega) (by first | exact map_at (by omega) | exact map_atZ (by omega) (by omega)) ?_ | refine WL.ixs rfl rfl (by first | omega | (simp; done) | (simp; omega)) ?_ | refine WL.app rfl rfl rfl (by first | omega | (simp; done) | (simp; omega)) ?_ | refine WL.cat rfl rfl (by first | omega | (simp; done) | (simp; omega)) ?_ | refine W.condT rfl ?_ | refine W.condF rfl ?_)
    (first | refine (?_ : W _ _ _ _ _) | refine (?_ : WL _ _ _ _ _ _) | skip)
    try dsimp only [St.put, Nat.reduceAdd]
    refine WL.tr (Tr.freeze 4 rfl) ?_
    refine WL.vl rfl (WV.call rfl (callF Tryz.func46 rfl rfl) rfl rfl hjoin) ?_
    repeat (first | refine W.go rfl ?_ | refine WL.nil ?_ | refine WL.ev rfl ?_ | refine WL.gyes rfl rfl rfl rfl ?_ | refine WL.opno rfl rfl rfl rfl rfl rfl rfl ?_ | refine WL.ar rfl rfl (by unfold I64; omega) ?_ | refine WL.len rfl rfl (by first | exact List.length_map _ | exact List.length_replicate | rfl) ?_ | refine WL.idx rfl rfl (by omega) (by first | exact map_at (by omega) | exact map_atZ (by omega) (by omega)) ?_ | refine WL.ixs rfl rfl (by first | omega | (simp; done) | (simp; omega)) ?_ | refine WL.app rfl rfl rfl (by first | omega | (simp; done) | (simp; omega)) ?_ | refine WL.cat rfl rfl (by first | omega | (simp; done) | (simp; omega)) ?_ | refine W.condT rfl ?_ | refine W.condF rfl ?_)
    (first | refine (?_ : W _ _ _ _ _) | refine (?_ : WL _ _ _ _ _ _) | skip)
    try dsimp only [St.put, Nat.reduceAdd]
    exact W.ret (fin1 rfl rfl rfl rfl)
  have htie := hif
  repeat (first | refine W.go rfl ?_ | refine WL.nil ?_ | refine WL.ev rfl ?_ | refine WL.gyes rfl rfl rfl rfl ?_ | refine WL.opno rfl rfl rfl rfl rfl rfl rfl ?_ | refine WL.ar rfl rfl (by unfold I64; omega) ?_ | refine WL.len rfl rfl (by first | exact List.length_map _ | exact List.length_replicate | rfl) ?_ | refine WL.idx rfl rfl (by omega) (by first | exact map_at (by omega) | exact map_atZ (by omega) (by omega)) ?_ | refine WL.ixs rfl rfl (by first | omega | (simp; done) | (simp; omega)) ?_ | refine WL.app rfl rfl rfl (by first | omega | (simp; done) | (simp; omega)) ?_ | refine WL.cat rfl rfl (by first | omega | (simp; done) | (simp; omega)) ?_ | refine W.condT rfl ?_ | refine W.condF rfl ?_)
  (first | refine (?_ : W _ _ _ _ _) | refine (?_ : WL _ _ _ _ _ _) | skip)
  try dsimp only [St.put, Nat.reduceAdd]
  (refine W.cond rfl (fun hif => ?_) (fun hif => ?_) <;> (try simp only [decide_eq_true_eq, decide_eq_false_iff_not, Int.not_lt, Int.not_le, Bool.not_eq_true', Bool.not_eq_false'] at hif))
  · have e := e2 htie hif
    rw [e, List.map_append] at hjoin
    rw [e]
    repeat (first | refine W.go rfl ?_ | refine WL.nil ?_ | refine WL.ev rfl ?_ | refine WL.gyes rfl rfl rfl rfl ?_ | refine WL.opno rfl rfl rfl rfl rfl rfl rfl ?_ | refine WL.ar rfl rfl (by unfold I64; omega) ?_ | refine WL.len rfl rfl (by first | exact List.length_map _ | exact List.length_replicate | rfl) ?_ | refine WL.idx rfl rfl (by omega) (by first | exact map_at (by omega) | exact map_atZ (by omega) (by omega)) ?_ | refine WL.ixs rfl rfl (by first | omega | (simp; done) | (simp; omega)) ?_ | refine WL.app rfl rfl rfl (by first | omega | (simp; done) | (simp; omega)) ?_ | refine WL.cat rfl rfl (by first | omega | (simp; done) | (simp; omega)) ?_ | refine W.condT rfl ?_ | refine W.condF rfl ?_)
    (first | refine (?_ : W _ _ _ _ _) | refine (?_ : WL _ _ _ _ _ _) | skip)
    try dsimp only [St.put, Nat.reduceAdd]
    refine WL.tr (Tr.freeze 4 rfl) ?_
    refine WL.vl rfl (WV.call rfl (callF Tryz.func46 rfl rfl) rfl rfl hjoin) ?_
    repeat (first | refine W.go rfl ?_ | refine WL.nil ?_ | refine WL.ev rfl ?_ | refine WL.gyes rfl rfl rfl rfl ?_ | refine WL.opno rfl rfl rfl rfl rfl rfl rfl ?_ | refine WL.ar rfl rfl (by unfold I64; omega) ?_ | refine WL.len rfl rfl (by first | exact List.length_map _ | exact List.length_replicate | rfl) ?_ | refine WL.idx rfl rfl (by omega) (by first | exact map_at (by omega) | exact map_atZ (by omega) (by omega)) ?_ | refine WL.ixs rfl rfl (by first | omega | (simp; done) | (simp; omega)) ?_ | refine WL.app rfl rfl rfl (by first | omega | (simp; done) | (simp; omega)) ?_ | refine WL.cat rfl rfl (by first | omega | (simp; done) | (simp; omega)) ?_ | refine W.condT rfl ?_ | refine W.condF rfl ?_)
    (first | refine (?_ : W _ _ _ _ _) | refine (?_ : WL _ _ _ _ _ _) | skip)
    try dsimp only [St.put, Nat.reduceAdd]
    exact W.ret (fin1 rfl rfl rfl rfl)
  have hne := hif
  have e3 := e3 htie hne
  have e4 := e4 htie hne
  repeat (first | refine W.go rfl ?_ | refine WL.nil ?_ | refine WL.ev rfl ?_ | refine WL.gyes rfl rfl rfl rfl ?_ | refine WL.opno rfl rfl rfl rfl rfl rfl rfl ?_ | refine WL.ar rfl rfl (by unfold I64; omega) ?_ | refine WL.len rfl rfl (by first | exact List.length_map _ | exact List.length_replicate | rfl) ?_ | refine WL.idx rfl rfl (by omega) (by first | exact map_at (by omega) | exact map_atZ (by omega) (by omega)) ?_ | refine WL.ixs rfl rfl (by first | omega | (simp; done) | (simp; omega)) ?_ | refine WL.app rfl rfl rfl (by first | omega | (simp; done) | (simp; omega)) ?_ | refine WL.cat rfl rfl (by first | omega | (simp; done) | (simp; omega)) ?_ | refine W.condT rfl ?_ | refine W.condF rfl ?_)
  (first | refine (?_ : W _ _ _ _ _) | refine (?_ : WL _ _ _ _ _ _) | skip)
  try dsimp only [St.put, Nat.reduceAdd]
  refine W.meet ⟨[(0, .sc (.int .u8 s)), (1, .sc (sysV s)), (3, .sc (.int .i64 i)), (6, .pt 0 0 0), (9, .pt 1 0 0), (12, .sl 2), (13, .sc (.int .i64 (n : Int)))], [(0, .box 29 (ePce p).cells), (1, .box 46 (eEv p.evs[i])), (2, .row 9 1 (hd.map eStr))], 3⟩ ?_ ?_
  · (refine W.cond rfl (fun hif => ?_) (fun hif => ?_) <;> (try simp only [decide_eq_true_eq, decide_eq_false_iff_not, Int.not_lt, Int.not_le, Bool.not_eq_true', Bool.not_eq_false'] at hif))
    · have hsn : ¬ s = 4 := by simpa using hif
      have hc0 : n = min p.cs.length 6 := by rw [← hn]; exact if_neg hsn
      rw [hc0]
      repeat (first | refine W.go rfl ?_ | refine WL.nil ?_ | refine WL.ev rfl ?_ | refine WL.gyes rfl rfl rfl rfl ?_ | refine WL.opno rfl rfl rfl rfl rfl rfl rfl ?_ | refine WL.ar rfl rfl (by unfold I64; omega) ?_ | refine WL.len rfl rfl (by first | exact List.length_map _ | exact List.length_replicate | rfl) ?_ | refine WL.idx rfl rfl (by omega) (by first | exact map_at (by omega) | exact map_atZ (by omega) (by omega)) ?_ | refine WL.ixs rfl rfl (by first | omega | (simp; done) | (simp; omega)) ?_ | refine WL.app rfl rfl rfl (by first | omega | (simp; done) | (simp; omega)) ?_ | refine WL.cat rfl rfl (by first | omega | (simp; done) | (simp; omega)) ?_ | refine W.condT rfl ?_ | refine W.condF rfl ?_)
      (first | refine (?_ : W _ _ _ _ _) | refine (?_ : WL _ _ _ _ _ _) | skip)
      try dsimp only [St.put, Nat.reduceAdd]
      refine WL.vl rfl (WV.call rfl (callF Tryz.func47 rfl rfl) rfl rfl (pstaff_FS p.cs p.st hO.n1)) ?_
      repeat (first | refine W.go rfl ?_ | refine WL.nil ?_ | refine WL.ev rfl ?_ | refine WL.gyes rfl rfl rfl rfl ?_ | refine WL.opno rfl rfl rfl rfl rfl rfl rfl ?_ | refine WL.ar rfl rfl (by unfold I64; omega) ?_ | refine WL.len rfl rfl (by first | exact List.length_map _ | exact List.length_replicate | rfl) ?_ | refine WL.idx rfl rfl (by omega) (by first | exact map_at (by omega) | exact map_atZ (by omega) (by omega)) ?_ | refine WL.ixs rfl rfl (by first | omega | (simp; done) | (simp; omega)) ?_ | refine WL.app rfl rfl rfl (by first | omega | (simp; done) | (simp; omega)) ?_ | refine WL.cat rfl rfl (by first | omega | (simp; done) | (simp; omega)) ?_ | refine W.condT rfl ?_ | refine W.condF rfl ?_)
      (first | refine (?_ : W _ _ _ _ _) | refine (?_ : WL _ _ _ _ _ _) | skip)
      try dsimp only [St.put, Nat.reduceAdd]
      refine (?_ : Tr _ _ _)
      exact (Tr.ren (fun q => q) (by repeat (first | exact trivial | refine ⟨⟨?_, ?_⟩, ?_⟩ | rfl)) (by repeat (first | exact trivial | refine ⟨⟨?_, ?_, ?_⟩, ?_⟩ | rfl | exact congrArg (fun q => some (AO.row _ _ q)) (by first | rfl | (simp; done) | (simp [eInt]; done) | (simp [eLk]; done)))) rfl)
    · have hsn : s = 4 := by simpa using hif
      have hc0 : n = 0 := by rw [← hn]; exact if_pos hsn
      rw [hc0]
      repeat (first | refine W.go rfl ?_ | refine WL.nil ?_ | refine WL.ev rfl ?_ | refine WL.gyes rfl rfl rfl rfl ?_ | refine WL.opno rfl rfl rfl rfl rfl rfl rfl ?_ | refine WL.ar rfl rfl (by unfold I64; omega) ?_ | refine WL.len rfl rfl (by first | exact List.length_map _ | exact List.length_replicate | rfl) ?_ | refine WL.idx rfl rfl (by omega) (by first | exact map_at (by omega) | exact map_atZ (by omega) (by omega)) ?_ | refine WL.ixs rfl rfl (by first | omega | (simp; done) | (simp; omega)) ?_ | refine WL.app rfl rfl rfl (by first | omega | (simp; done) | (simp; omega)) ?_ | refine WL.cat rfl rfl (by first | omega | (simp; done) | (simp; omega)) ?_ | refine W.condT rfl ?_ | refine W.condF rfl ?_)
      (first | refine (?_ : W _ _ _ _ _) | refine (?_ : WL _ _ _ _ _ _) | skip)
      try dsimp only [St.put, Nat.reduceAdd]
      refine (?_ : Tr _ _ _)
      exact (Tr.ren (fun q => q) (by repeat (first | exact trivial | refine ⟨⟨?_, ?_⟩, ?_⟩ | rfl)) (by repeat (first | exact trivial | refine ⟨⟨?_, ?_, ?_⟩, ?_⟩ | rfl | exact congrArg (fun q => some (AO.row _ _ q)) (by first | rfl | (simp; done) | (simp [eInt]; done) | (simp [eLk]; done)))) rfl)
  repeat (first | refine W.go rfl ?_ | refine WL.nil ?_ | refine WL.ev rfl ?_ | refine WL.gyes rfl rfl rfl rfl ?_ | refine WL.opno rfl rfl rfl rfl rfl rfl rfl ?_ | refine WL.ar rfl rfl (by unfold I64; omega) ?_ | refine WL.len rfl rfl (by first | exact List.length_map _ | exact List.length_replicate | rfl) ?_ | refine WL.idx rfl rfl (by omega) (by first | exact map_at (by omega) | exact map_atZ (by omega) (by omega)) ?_ | refine WL.ixs rfl rfl (by first | omega | (simp; done) | (simp; omega)) ?_ | refine WL.app rfl rfl rfl (by first | omega | (simp; done) | (simp; omega)) ?_ | refine WL.cat rfl rfl (by first | omega | (simp; done) | (simp; omega)) ?_ | refine W.condT rfl ?_ | refine W.condF rfl ?_)
  (first | refine (?_ : W _ _ _ _ _) | refine (?_ : WL _ _ _ _ _ _) | skip)
  try dsimp only [St.put, Nat.reduceAdd]
  refine WL.op rfl (WO.make1 (k := n) rfl rfl rfl rfl rfl rfl (fun k => by rw [Nat.mul_one]; exact toList_madeCells_one _ _) rfl rfl rfl rfl rfl (by omega) rfl) ?_
  repeat (first | refine W.go rfl ?_ | refine WL.nil ?_ | refine WL.ev rfl ?_ | refine WL.gyes rfl rfl rfl rfl ?_ | refine WL.opno rfl rfl rfl rfl rfl rfl rfl ?_ | refine WL.ar rfl rfl (by unfold I64; omega) ?_ | refine WL.len rfl rfl (by first | exact List.length_map _ | exact List.length_replicate | rfl) ?_ | refine WL.idx rfl rfl (by omega) (by first | exact map_at (by omega) | exact map_atZ (by omega) (by omega)) ?_ | refine WL.ixs rfl rfl (by first | omega | (simp; done) | (simp; omega)) ?_ | refine WL.app rfl rfl rfl (by first | omega | (simp; done) | (simp; omega)) ?_ | refine WL.cat rfl rfl (by first | omega | (simp; done) | (simp; omega)) ?_ | refine W.condT rfl ?_ | refine W.condF rfl ?_)
  (first | refine (?_ : W _ _ _ _ _) | refine (?_ : WL _ _ _ _ _ _) | skip)
  try dsimp only [St.put, Nat.reduceAdd]
  have hz := fillL_zero n
  refine W.loop (fun k : Nat => k ≤ n) (fun k => ⟨[(0, .sc (.int .u8 s)), (1, .sc (sysV s)), (3, .sc (.int .i64 i)), (6, .pt 0 0 0), (9, .pt 1 0 0), (12, .sl 2), (13, .sc (.int .i64 (n : Int))), (14, .sl 3), (63, .sc (.int .i64 (n : Int))), (64, .sc (.int .i64 k))], [(0, .box 29 (ePce p).cells), (1, .box 46 (eEv p.evs[i])), (2, .row 9 1 (hd.map eStr)), (3, .row 9 1 ((fillL n k).map eStr))], 4⟩) (fun k => n - k) 0 (by omega) (Tr.ren (fun q => q) (by repeat (first | exact trivial | refine ⟨⟨?_, ?_⟩, ?_⟩ | rfl)) (by repeat (first | exact trivial | refine ⟨⟨?_, ?_, ?_⟩, ?_⟩ | rfl | exact congrArg (fun q => some (AO.row _ _ q)) hz.symm)) rfl) fun k hk => ?_
  repeat (first | refine W.go rfl ?_ | refine WL.nil ?_ | refine WL.ev rfl ?_ | refine WL.gyes rfl rfl rfl rfl ?_ | refine WL.opno rfl rfl rfl rfl rfl rfl rfl ?_ | refine WL.ar rfl rfl (by unfold I64; omega) ?_ | refine WL.len rfl rfl (by first | exact List.length_map _ | exact List.length_replicate | rfl) ?_ | refine WL.idx rfl rfl (by omega) (by first | exact map_at (by omega) | exact map_atZ (by omega) (by omega)) ?_ | refine WL.ixs rfl rfl (by first | omega | (simp; done) | (simp; omega)) ?_ | refine WL.app rfl rfl rfl (by first | omega | (simp; done) | (simp; omega)) ?_ | refine WL.cat rfl rfl (by first | omega | (simp; done) | (simp; omega)) ?_ | refine W.condT rfl ?_ | refine W.condF rfl ?_)
  (first | refine (?_ : W _ _ _ _ _) | refine (?_ : WL _ _ _ _ _ _) | skip)
  try dsimp only [St.put, Nat.reduceAdd]
  (refine W.cond rfl (fun hif => ?_) (fun hif => ?_) <;> (try simp only [decide_eq_true_eq, decide_eq_false_iff_not, Int.not_lt, Int.not_le, Bool.not_eq_true', Bool.not_eq_false'] at hif))
  · have hk2 : k < n := by omega
    have hl := fillL_len n k
    have hset : ((fillL n k).map eStr).set k (eStr [45]) = (fillL n (k + 1)).map eStr := by rw [← List.map_set, fillL_succ n k hk2]
    have hix : 0 ≤ (k : Int) ∧ (k : Int) < ((fillL n k).map eStr).length := ⟨by omega, by simp [hl]; omega⟩
    have hat : ((fillL n k).map eStr)[((k : Nat) : Int).toNat]? = some (eStr ((fillL n k)[k]'(by omega))) := map_at (by omega)
    repeat (first | refine W.go rfl ?_ | refine WL.nil ?_ | refine WL.ev rfl ?_ | refine WL.gyes rfl rfl rfl rfl ?_ | refine WL.opno rfl rfl rfl rfl rfl rfl rfl ?_ | refine WL.ar rfl rfl (by unfold I64; omega) ?_ | refine WL.len rfl rfl (by first | exact List.length_map _ | exact List.length_replicate | rfl) ?_ | refine WL.idx rfl rfl (by omega) (by first | exact map_at (by omega) | exact map_atZ (by omega) (by omega)) ?_ | refine WL.ixs rfl rfl (by first | omega | (simp; done) | (simp; omega)) ?_ | refine WL.app rfl rfl rfl (by first | omega | (simp; done) | (simp; omega)) ?_ | refine WL.cat rfl rfl (by first | omega | (simp; done) | (simp; omega)) ?_ | refine W.condT rfl ?_ | refine W.condF rfl ?_)
    (first | refine (?_ : W _ _ _ _ _) | refine (?_ : WL _ _ _ _ _ _) | skip)
    try dsimp only [St.put, Nat.reduceAdd]
    refine WL.sto rfl rfl rfl rfl hat (by exact Nat.le_refl _) ?_
    repeat (first | refine W.go rfl ?_ | refine WL.nil ?_ | refine WL.ev rfl ?_ | refine WL.gyes rfl rfl rfl rfl ?_ | refine WL.opno rfl rfl rfl rfl rfl rfl rfl ?_ | refine WL.ar rfl rfl (by unfold I64; omega) ?_ | refine WL.len rfl rfl (by first | exact List.length_map _ | exact List.length_replicate | rfl) ?_ | refine WL.idx rfl rfl (by omega) (by first | exact map_at (by omega) | exact map_atZ (by omega) (by omega)) ?_ | refine WL.ixs rfl rfl (by first | omega | (simp; done) | (simp; omega)) ?_ | refine WL.app rfl rfl rfl (by first | omega | (simp; done) | (simp; omega)) ?_ | refine WL.cat rfl rfl (by first | omega | (simp; done) | (simp; omega)) ?_ | refine W.condT rfl ?_ | refine W.condF rfl ?_)
    (first | refine (?_ : W _ _ _ _ _) | refine (?_ : WL _ _ _ _ _ _) | skip)
    try dsimp only [St.put, Nat.reduceAdd]
    refine ⟨k + 1, by omega, by omega, ?_⟩
    exact (Tr.ren (fun q => q) (by repeat (first | exact trivial | refine ⟨⟨?_, ?_⟩, ?_⟩ | rfl)) (by repeat (first | exact trivial | refine ⟨⟨?_, ?_, ?_⟩, ?_⟩ | rfl | exact congrArg (fun q => some (AO.row _ _ q)) hset)) rfl)
  have hkn : k = n := by omega
  rw [hkn, fillL_all s L n]
  repeat (first | refine W.go rfl ?_ | refine WL.nil ?_ | refine WL.ev rfl ?_ | refine WL.gyes rfl rfl rfl rfl ?_ | refine WL.opno rfl rfl rfl rfl rfl rfl rfl ?_ | refine WL.ar rfl rfl (by unfold I64; omega) ?_ | refine WL.len rfl rfl (by first | exact List.length_map _ | exact List.length_replicate | rfl) ?_ | refine WL.idx rfl rfl (by omega) (by first | exact map_at (by omega) | exact map_atZ (by omega) (by omega)) ?_ | refine WL.ixs rfl rfl (by first | omega | (simp; done) | (simp; omega)) ?_ | refine WL.app rfl rfl rfl (by first | omega | (simp; done) | (simp; omega)) ?_ | refine WL.cat rfl rfl (by first | omega | (simp; done) | (simp; omega)) ?_ | refine W.condT rfl ?_ | refine W.condF rfl ?_)
  (first | refine (?_ : W _ _ _ _ _) | refine (?_ : WL _ _ _ _ _ _) | skip)
  try dsimp only [St.put, Nat.reduceAdd]
  refine W.tr (Tr.nil (t := 16) 9 1 rfl rfl) ?_
  have hasc : asc 0 p.evs[i].stops := asc_of (evE_zero hE).2.2.2
  refine W.loop (fun k : Nat => k ≤ p.evs[i].stops.length) (fun k => ⟨[(0, .sc (.int .u8 s)), (1, .sc (sysV s)), (3, .sc (.int .i64 i)), (6, .pt 0 0 0), (9, .pt 1 0 0), (12, .sl 2), (13, .sc (.int .i64 (n : Int))), (14, .sl 3), (16, .sl 4), (72, eStps p.evs[i].stops), (73, .sc (.int .i64 p.evs[i].stops.length)), (74, .sc (.int .i64 k))], [(0, .box 29 (ePce p).cells), (1, .box 46 (eEv p.evs[i])), (2, .row 9 1 (hd.map eStr)), (3, .row 9 1 ((staffL s L n (p.evs[i].stops.take k)).map eStr)), (4, .row 9 1 ((outL s L n (p.evs[i].stops.take k)).map eStr))], 5⟩) (fun k => p.evs[i].stops.length - k) 0 (by omega) (Tr.ren (fun q => q) (by repeat (first | exact trivial | refine ⟨⟨?_, ?_⟩, ?_⟩ | rfl)) (by repeat (first | exact trivial | refine ⟨⟨?_, ?_, ?_⟩, ?_⟩ | rfl | exact congrArg (fun q => some (AO.row _ _ q)) (by rw [List.take_zero]; unfold outL; split <;> rfl))) rfl) fun k hk => ?_
  repeat (first | refine W.go rfl ?_ | refine WL.nil ?_ | refine WL.ev rfl ?_ | refine WL.gyes rfl rfl rfl rfl ?_ | refine WL.opno rfl rfl rfl rfl rfl rfl rfl ?_ | refine WL.ar rfl rfl (by unfold I64; omega) ?_ | refine WL.len rfl rfl (by first | exact List.length_map _ | exact List.length_replicate | rfl) ?_ | refine WL.idx rfl rfl (by omega) (by first | exact map_at (by omega) | exact map_atZ (by omega) (by omega)) ?_ | refine WL.ixs rfl rfl (by first | omega | (simp; done) | (simp; omega)) ?_ | refine WL.app rfl rfl rfl (by first | omega | (simp; done) | (simp; omega)) ?_ | refine WL.cat rfl rfl (by first | omega | (simp; done) | (simp; omega)) ?_ | refine W.condT rfl ?_ | refine W.condF rfl ?_)
  (first | refine (?_ : W _ _ _ _ _) | refine (?_ : WL _ _ _ _ _ _) | skip)
  try dsimp only [St.put, Nat.reduceAdd]
  (refine W.cond rfl (fun hif => ?_) (fun hif => ?_) <;> (try simp only [decide_eq_true_eq, decide_eq_false_iff_not, Int.not_lt, Int.not_le, Bool.not_eq_true', Bool.not_eq_false'] at hif))
  · have hk2 : k < p.evs[i].stops.length := by omega
    have hb := hv k hk2
    have hlt := asc_take k hk2 hasc
    have htk := List.take_succ_eq_append_getElem hk2
    have hLx : (longestN p.evs i p.evs[i].stops[k].1 : Int) = L p.evs[i].stops[k].1 := by rw [hL]
    obtain ⟨x, hx⟩ : ∃ x, p.evs[i].stops[k] = x := ⟨_, rfl⟩
    obtain ⟨tk, htkk⟩ : ∃ l, p.evs[i].stops.take k = l := ⟨_, rfl⟩
    obtain ⟨tk1, htk1⟩ : ∃ l, p.evs[i].stops.take (k + 1) = l := ⟨_, rfl⟩
    have h20 := hO.n4 i hi
    have hol := outL_len s L n (p.evs[i].stops.take k)
    rw [List.length_take] at hol
    repeat (first | refine W.go rfl ?_ | refine WL.nil ?_ | refine WL.ev rfl ?_ | refine WL.gyes rfl rfl rfl rfl ?_ | refine WL.opno rfl rfl rfl rfl rfl rfl rfl ?_ | refine WL.ar rfl rfl (by unfold I64; omega) ?_ | refine WL.len rfl rfl (by first | exact List.length_map _ | exact List.length_replicate | rfl) ?_ | refine WL.idx rfl rfl (by omega) (by first | exact map_at (by omega) | exact map_atZ (by omega) (by omega)) ?_ | refine WL.ixs rfl rfl (by first | omega | (simp; done) | (simp; omega)) ?_ | refine WL.app rfl rfl rfl (by first | omega | (simp; done) | (simp; omega)) ?_ | refine WL.cat rfl rfl (by first | omega | (simp; done) | (simp; omega)) ?_ | refine W.condT rfl ?_ | refine W.condF rfl ?_)
    (first | refine (?_ : W _ _ _ _ _) | refine (?_ : WL _ _ _ _ _ _) | skip)
    try dsimp only [St.put, Nat.reduceAdd]
    rw [hx] at hb hlt htk hLx ⊢
    rw [htkk] at hlt htk hol ⊢
    rw [htk1] at htk
    refine W.drawK (by kernel_rfl) (by kernel_rfl) ?_
    repeat (first | refine DK.tt rfl (by first | (simp; done) | fail) ?_ | refine DK.ff rfl (by first | (simp; done) | fail) ?_ | refine DK.st rfl ?_ | refine DK.ar rfl rfl (by unfold I64; omega) ?_ | refine DK.len rfl rfl (by first | exact List.length_map _ | exact List.length_replicate | rfl) ?_ | refine DK.idx rfl rfl (by omega) (by first | exact map_at (by omega) | exact map_atZ (by omega) (by omega)) ?_ | refine DK.ixs rfl rfl (by first | omega | (simp; done) | (simp; omega)) ?_ | refine DK.cat rfl rfl (by first | omega | (simp; done) | (simp; omega)) ?_ | refine DK.nil ?_)
    refine DK.vl rfl (WV.call rfl (callF Tryz.func39 rfl rfl) rfl rfl (pLong_FS p hO i _)) ?_
    refine DK.vl rfl (WV.call rfl (callF Tryz.func34 rfl rfl) rfl rfl (cell_FS s hs x _ hb.1 hb.2.1 hb.2.2.1 hb.2.2.2.1 hb.2.2.2.2)) ?_
    repeat (first | refine DK.tt rfl (by first | (simp; done) | fail) ?_ | refine DK.ff rfl (by first | (simp; done) | fail) ?_ | refine DK.st rfl ?_ | refine DK.ar rfl rfl (by unfold I64; omega) ?_ | refine DK.len rfl rfl (by first | exact List.length_map _ | exact List.length_replicate | rfl) ?_ | refine DK.idx rfl rfl (by omega) (by first | exact map_at (by omega) | exact map_atZ (by omega) (by omega)) ?_ | refine DK.ixs rfl rfl (by first | omega | (simp; done) | (simp; omega)) ?_ | refine DK.cat rfl rfl (by first | omega | (simp; done) | (simp; omega)) ?_ | refine DK.nil ?_)
    rw [hLx]
    repeat (first | refine W.go rfl ?_ | refine WL.nil ?_ | refine WL.ev rfl ?_ | refine WL.gyes rfl rfl rfl rfl ?_ | refine WL.opno rfl rfl rfl rfl rfl rfl rfl ?_ | refine WL.ar rfl rfl (by unfold I64; omega) ?_ | refine WL.len rfl rfl (by first | exact List.length_map _ | exact List.length_replicate | rfl) ?_ | refine WL.idx rfl rfl (by omega) (by first | exact map_at (by omega) | exact map_atZ (by omega) (by omega)) ?_ | refine WL.ixs rfl rfl (by first | omega | (simp; done) | (simp; omega)) ?_ | refine WL.app rfl rfl rfl (by first | omega | (simp; done) | (simp; omega)) ?_ | refine WL.cat rfl rfl (by first | omega | (simp; done) | (simp; omega)) ?_ | refine W.condT rfl ?_ | refine W.condF rfl ?_)
    (first | refine (?_ : W _ _ _ _ _) | refine (?_ : WL _ _ _ _ _ _) | skip)
    try dsimp only [St.put, Nat.reduceAdd]
    (refine W.cond rfl (fun hif => ?_) (fun hif => ?_) <;> (try simp only [decide_eq_true_eq, decide_eq_false_iff_not, Int.not_lt, Int.not_le, Bool.not_eq_true', Bool.not_eq_false'] at hif))
    · have hxn : x.1 ≤ n := hif
      have hs4 : s ≠ 4 := fun e => by rw [← hn, staffN, if_pos e] at hxn; omega
      have hli : 1 ≤ lineV s x.1 n ∧ lineV s x.1 n ≤ n := by
        unfold lineV
        rw [if_neg hs4]
        split <;> omega
      have hst := staffL_snoc s L n tk x hs4 hlt hb.1.1 hxn
      have hou := outL_in s L n tk x hxn
      rw [← htk] at hst hou
      have hsl := staffL_len s L n tk
      obtain ⟨lv, hlv⟩ : ∃ z, lineV s x.1 n = z := ⟨_, rfl⟩
      rw [hlv] at hli hst
      have hix : 0 ≤ lv - 1 ∧ lv - 1 < ((staffL s L n tk).map eStr).length := ⟨by omega, by rw [List.length_map, hsl]; omega⟩
      have hat : ((staffL s L n tk).map eStr)[(lv - 1).toNat]? = some (eStr ((staffL s L n tk)[(lv - 1).toNat]'(by omega))) := map_atZ (by omega) (by rw [hsl]; omega)
      have hset : ((staffL s L n tk).map eStr).set (lv - 1).toNat (eStr (stT s L x)) = (staffL s L n tk1).map eStr := by rw [hst, List.map_set]
      have hlf := line_FS s hs x.1 n hb.1 ⟨by omega, by omega⟩
      rw [hlv] at hlf
      repeat (first | refine W.go rfl ?_ | refine WL.nil ?_ | refine WL.ev rfl ?_ | refine WL.gyes rfl rfl rfl rfl ?_ | refine WL.opno rfl rfl rfl rfl rfl rfl rfl ?_ | refine WL.ar rfl rfl (by unfold I64; omega) ?_ | refine WL.len rfl rfl (by first | exact List.length_map _ | exact List.length_replicate | rfl) ?_ | refine WL.idx rfl rfl (by omega) (by first | exact map_at (by omega) | exact map_atZ (by omega) (by omega)) ?_ | refine WL.ixs rfl rfl (by first | omega | (simp; done) | (simp; omega)) ?_ | refine WL.app rfl rfl rfl (by first | omega | (simp; done) | (simp; omega)) ?_ | refine WL.cat rfl rfl (by first | omega | (simp; done) | (simp; omega)) ?_ | refine W.condT rfl ?_ | refine W.condF rfl ?_)
      (first | refine (?_ : W _ _ _ _ _) | refine (?_ : WL _ _ _ _ _ _) | skip)
      try dsimp only [St.put, Nat.reduceAdd]
      refine WL.vl rfl (WV.sys hs lineF rfl rfl (fun vs w => by kernel_rfl) (fun vs w => by kernel_rfl) (fun vs w => by kernel_rfl) (fun vs w => by kernel_rfl) rfl rfl hlf) ?_
      repeat (first | refine W.go rfl ?_ | refine WL.nil ?_ | refine WL.ev rfl ?_ | refine WL.gyes rfl rfl rfl rfl ?_ | refine WL.opno rfl rfl rfl rfl rfl rfl rfl ?_ | refine WL.ar rfl rfl (by unfold I64; omega) ?_ | refine WL.len rfl rfl (by first | exact List.length_map _ | exact List.length_replicate | rfl) ?_ | refine WL.idx rfl rfl (by omega) (by first | exact map_at (by omega) | exact map_atZ (by omega) (by omega)) ?_ | refine WL.ixs rfl rfl (by first | omega | (simp; done) | (simp; omega)) ?_ | refine WL.app rfl rfl rfl (by first | omega | (simp; done) | (simp; omega)) ?_ | refine WL.cat rfl rfl (by first | omega | (simp; done) | (simp; omega)) ?_ | refine W.condT rfl ?_ | refine W.condF rfl ?_)
      (first | refine (?_ : W _ _ _ _ _) | refine (?_ : WL _ _ _ _ _ _) | skip)
      try dsimp only [St.put, Nat.reduceAdd]
      refine WL.sto rfl rfl rfl rfl hat (by exact Nat.le_refl _) ?_
      repeat (first | refine W.go rfl ?_ | refine WL.nil ?_ | refine WL.ev rfl ?_ | refine WL.gyes rfl rfl rfl rfl ?_ | refine WL.opno rfl rfl rfl rfl rfl rfl rfl ?_ | refine WL.ar rfl rfl (by unfold I64; omega) ?_ | refine WL.len rfl rfl (by first | exact List.length_map _ | exact List.length_replicate | rfl) ?_ | refine WL.idx rfl rfl (by omega) (by first | exact map_at (by omega) | exact map_atZ (by omega) (by omega)) ?_ | refine WL.ixs rfl rfl (by first | omega | (simp; done) | (simp; omega)) ?_ | refine WL.app rfl rfl rfl (by first | omega | (simp; done) | (simp; omega)) ?_ | refine WL.cat rfl rfl (by first | omega | (simp; done) | (simp; omega)) ?_ | refine W.condT rfl ?_ | refine W.condF rfl ?_)
      (first | refine (?_ : W _ _ _ _ _) | refine (?_ : WL _ _ _ _ _ _) | skip)
      try dsimp only [St.put, Nat.reduceAdd]
      refine ⟨k + 1, by omega, by omega, ?_⟩
      rw [htk1]
      exact (Tr.ren (fun q => q) (by repeat (first | exact trivial | refine ⟨⟨?_, ?_⟩, ?_⟩ | rfl)) (by repeat (first | exact trivial | refine ⟨⟨?_, ?_, ?_⟩, ?_⟩ | rfl | exact congrArg (fun q => some (AO.row _ _ q)) hset | exact congrArg (fun q => some (AO.row _ _ q)) (congrArg (List.map eStr) hou.symm))) rfl)
    have hxn : ¬ x.1 ≤ n := by omega
    have hst : staffL s L n tk1 = staffL s L n tk := by
      rw [htk]
      unfold staffL
      apply List.map_congr_left
      intro j hj
      rw [stF_snoc s L tk x _ hlt, if_neg]
      have hj : j < n := by simpa using hj
      unfold cAt
      split <;> omega
    have hou := outL_out s L n tk x hxn
    rw [← htk] at hou
    have happ1 : ¬ s = 2 → (outL s L n tk).map eStr ++ [eStr (stT s L x)] = (outL s L n tk1).map eStr := fun h => by rw [hou, if_neg h, List.map_append]; rfl
    have happ2 : s = 2 → [eStr (stT s L x)] ++ (outL s L n tk).map eStr = (outL s L n tk1).map eStr := fun h => by rw [hou, if_pos h]; rfl
    repeat (first | refine W.go rfl ?_ | refine WL.nil ?_ | refine WL.ev rfl ?_ | refine WL.gyes rfl rfl rfl rfl ?_ | refine WL.opno rfl rfl rfl rfl rfl rfl rfl ?_ | refine WL.ar rfl rfl (by unfold I64; omega) ?_ | refine WL.len rfl rfl (by first | exact List.length_map _ | exact List.length_replicate | rfl) ?_ | refine WL.idx rfl rfl (by omega) (by first | exact map_at (by omega) | exact map_atZ (by omega) (by omega)) ?_ | refine WL.ixs rfl rfl (by first | omega | (simp; done) | (simp; omega)) ?_ | refine WL.app rfl rfl rfl (by first | omega | (simp; done) | (simp; omega)) ?_ | refine WL.cat rfl rfl (by first | omega | (simp; done) | (simp; omega)) ?_ | refine W.condT rfl ?_ | refine W.condF rfl ?_)
    (first | refine (?_ : W _ _ _ _ _) | refine (?_ : WL _ _ _ _ _ _) | skip)
    try dsimp only [St.put, Nat.reduceAdd]
    refine WL.vl rfl (WV.sys hs behindF rfl rfl (fun vs w => by kernel_rfl) (fun vs w => by kernel_rfl) (fun vs w => by kernel_rfl) (fun vs w => by kernel_rfl) rfl rfl (behind_FS s hs)) ?_
    repeat (first | refine W.go rfl ?_ | refine WL.nil ?_ | refine WL.ev rfl ?_ | refine WL.gyes rfl rfl rfl rfl ?_ | refine WL.opno rfl rfl rfl rfl rfl rfl rfl ?_ | refine WL.ar rfl rfl (by unfold I64; omega) ?_ | refine WL.len rfl rfl (by first | exact List.length_map _ | exact List.length_replicate | rfl) ?_ | refine WL.idx rfl rfl (by omega) (by first | exact map_at (by omega) | exact map_atZ (by omega) (by omega)) ?_ | refine WL.ixs rfl rfl (by first | omega | (simp; done) | (simp; omega)) ?_ | refine WL.app rfl rfl rfl (by first | omega | (simp; done) | (simp; omega)) ?_ | refine WL.cat rfl rfl (by first | omega | (simp; done) | (simp; omega)) ?_ | refine W.condT rfl ?_ | refine W.condF rfl ?_)
    (first | refine (?_ : W _ _ _ _ _) | refine (?_ : WL _ _ _ _ _ _) | skip)
    try dsimp only [St.put, Nat.reduceAdd]
    (refine W.cond rfl (fun hif => ?_) (fun hif => ?_) <;> (try simp only [decide_eq_true_eq, decide_eq_false_iff_not, Int.not_lt, Int.not_le, Bool.not_eq_true', Bool.not_eq_false'] at hif))
    · have hs2 : s ≠ 2 := by simpa using hif
      have happ1 := happ1 hs2
      repeat (first | refine W.go rfl ?_ | refine WL.nil ?_ | refine WL.ev rfl ?_ | refine WL.gyes rfl rfl rfl rfl ?_ | refine WL.opno rfl rfl rfl rfl rfl rfl rfl ?_ | refine WL.ar rfl rfl (by unfold I64; omega) ?_ | refine WL.len rfl rfl (by first | exact List.length_map _ | exact List.length_replicate | rfl) ?_ | refine WL.idx rfl rfl (by omega) (by first | exact map_at (by omega) | exact map_atZ (by omega) (by omega)) ?_ | refine WL.ixs rfl rfl (by first | omega | (simp; done) | (simp; omega)) ?_ | refine WL.app rfl rfl rfl (by first | omega | (simp; done) | (simp; omega)) ?_ | refine WL.cat rfl rfl (by first | omega | (simp; done) | (simp; omega)) ?_ | refine W.condT rfl ?_ | refine W.condF rfl ?_)
      (first | refine (?_ : W _ _ _ _ _) | refine (?_ : WL _ _ _ _ _ _) | skip)
      try dsimp only [St.put, Nat.reduceAdd]
      refine ⟨k + 1, by omega, by omega, ?_⟩
      rw [htk1]
      exact (Tr.ren (fun q => bif Nat.beq q 4 then 7 else q) (by repeat (first | exact trivial | refine ⟨⟨?_, ?_⟩, ?_⟩ | rfl)) (by repeat (first | exact trivial | refine ⟨⟨?_, ?_, ?_⟩, ?_⟩ | rfl | exact congrArg (fun q => some (AO.row _ _ q)) (congrArg (List.map eStr) hst.symm) | exact congrArg (fun q => some (AO.row _ _ q)) happ1)) rfl)
    have hs2 : s = 2 := by simpa using hif
    have happ2 := happ2 hs2
    repeat (first | refine W.go rfl ?_ | refine WL.nil ?_ | refine WL.ev rfl ?_ | refine WL.gyes rfl rfl rfl rfl ?_ | refine WL.opno rfl rfl rfl rfl rfl rfl rfl ?_ | refine WL.ar rfl rfl (by unfold I64; omega) ?_ | refine WL.len rfl rfl (by first | exact List.length_map _ | exact List.length_replicate | rfl) ?_ | refine WL.idx rfl rfl (by omega) (by first | exact map_at (by omega) | exact map_atZ (by omega) (by omega)) ?_ | refine WL.ixs rfl rfl (by first | omega | (simp; done) | (simp; omega)) ?_ | refine WL.app rfl rfl rfl (by first | omega | (simp; done) | (simp; omega)) ?_ | refine WL.cat rfl rfl (by first | omega | (simp; done) | (simp; omega)) ?_ | refine W.condT rfl ?_ | refine W.condF rfl ?_)
    (first | refine (?_ : W _ _ _ _ _) | refine (?_ : WL _ _ _ _ _ _) | skip)
    try dsimp only [St.put, Nat.reduceAdd]
    refine ⟨k + 1, by omega, by omega, ?_⟩
    rw [htk1]
    exact (Tr.ren (fun q => bif Nat.beq q 4 then 7 else q) (by repeat (first | exact trivial | refine ⟨⟨?_, ?_⟩, ?_⟩ | rfl)) (by repeat (first | exact trivial | refine ⟨⟨?_, ?_, ?_⟩, ?_⟩ | rfl | exact congrArg (fun q => some (AO.row _ _ q)) (congrArg (List.map eStr) hst.symm) | exact congrArg (fun q => some (AO.row _ _ q)) happ2)) rfl)
  have hke : k = p.evs[i].stops.length := by omega
  rw [hke, List.take_length]
  have hsl := staffL_len s L n p.evs[i].stops
  have hol := outL_len s L n p.evs[i].stops
  have h20 := hO.n4 i hi
  repeat (first | refine W.go rfl ?_ | refine WL.nil ?_ | refine WL.ev rfl ?_ | refine WL.gyes rfl rfl rfl rfl ?_ | refine WL.opno rfl rfl rfl rfl rfl rfl rfl ?_ | refine WL.ar rfl rfl (by unfold I64; omega) ?_ | refine WL.len rfl rfl (by first | exact List.length_map _ | exact List.length_replicate | rfl) ?_ | refine WL.idx rfl rfl (by omega) (by first | exact map_at (by omega) | exact map_atZ (by omega) (by omega)) ?_ | refine WL.ixs rfl rfl (by first | omega | (simp; done) | (simp; omega)) ?_ | refine WL.app rfl rfl rfl (by first | omega | (simp; done) | (simp; omega)) ?_ | refine WL.cat rfl rfl (by first | omega | (simp; done) | (simp; omega)) ?_ | refine W.condT rfl ?_ | refine W.condF rfl ?_)
  (first | refine (?_ : W _ _ _ _ _) | refine (?_ : WL _ _ _ _ _ _) | skip)
  try dsimp only [St.put, Nat.reduceAdd]
  refine WL.vl rfl (WV.sys hs behindF rfl rfl (fun vs w => by kernel_rfl) (fun vs w => by kernel_rfl) (fun vs w => by kernel_rfl) (fun vs w => by kernel_rfl) rfl rfl (behind_FS s hs)) ?_
  repeat (first | refine W.go rfl ?_ | refine WL.nil ?_ | refine WL.ev rfl ?_ | refine WL.gyes rfl rfl rfl rfl ?_ | refine WL.opno rfl rfl rfl rfl rfl rfl rfl ?_ | refine WL.ar rfl rfl (by unfold I64; omega) ?_ | refine WL.len rfl rfl (by first | exact List.length_map _ | exact List.length_replicate | rfl) ?_ | refine WL.idx rfl rfl (by omega) (by first | exact map_at (by omega) | exact map_atZ (by omega) (by omega)) ?_ | refine WL.ixs rfl rfl (by first | omega | (simp; done) | (simp; omega)) ?_ | refine WL.app rfl rfl rfl (by first | omega | (simp; done) | (simp; omega)) ?_ | refine WL.cat rfl rfl (by first | omega | (simp; done) | (simp; omega)) ?_ | refine W.condT rfl ?_ | refine W.condF rfl ?_)
  (first | refine (?_ : W _ _ _ _ _) | refine (?_ : WL _ _ _ _ _ _) | skip)
  try dsimp only [St.put, Nat.reduceAdd]
  (refine W.cond rfl (fun hif => ?_) (fun hif => ?_) <;> (try simp only [decide_eq_true_eq, decide_eq_false_iff_not, Int.not_lt, Int.not_le, Bool.not_eq_true', Bool.not_eq_false'] at hif))
  · have e := e4 (by simpa using hif)
    rw [e, List.map_append, List.map_append] at hjoin
    rw [e]
    repeat (first | refine W.go rfl ?_ | refine WL.nil ?_ | refine WL.ev rfl ?_ | refine WL.gyes rfl rfl rfl rfl ?_ | refine WL.opno rfl rfl rfl rfl rfl rfl rfl ?_ | refine WL.ar rfl rfl (by unfold I64; omega) ?_ | refine WL.len rfl rfl (by first | exact List.length_map _ | exact List.length_replicate | rfl) ?_ | refine WL.idx rfl rfl (by omega) (by first | exact map_at (by omega) | exact map_atZ (by omega) (by omega)) ?_ | refine WL.ixs rfl rfl (by first | omega | (simp; done) | (simp; omega)) ?_ | refine WL.app rfl rfl rfl (by first | omega | (simp; done) | (simp; omega)) ?_ | refine WL.cat rfl rfl (by first | omega | (simp; done) | (simp; omega)) ?_ | refine W.condT rfl ?_ | refine W.condF rfl ?_)
    (first | refine (?_ : W _ _ _ _ _) | refine (?_ : WL _ _ _ _ _ _) | skip)
    try dsimp only [St.put, Nat.reduceAdd]
    refine WL.tr (Tr.freeze 6 rfl) ?_
    refine WL.vl rfl (WV.call rfl (callF Tryz.func46 rfl rfl) rfl rfl hjoin) ?_
    repeat (first | refine W.go rfl ?_ | refine WL.nil ?_ | refine WL.ev rfl ?_ | refine WL.gyes rfl rfl rfl rfl ?_ | refine WL.opno rfl rfl rfl rfl rfl rfl rfl ?_ | refine WL.ar rfl rfl (by unfold I64; omega) ?_ | refine WL.len rfl rfl (by first | exact List.length_map _ | exact List.length_replicate | rfl) ?_ | refine WL.idx rfl rfl (by omega) (by first | exact map_at (by omega) | exact map_atZ (by omega) (by omega)) ?_ | refine WL.ixs rfl rfl (by first | omega | (simp; done) | (simp; omega)) ?_ | refine WL.app rfl rfl rfl (by first | omega | (simp; done) | (simp; omega)) ?_ | refine WL.cat rfl rfl (by first | omega | (simp; done) | (simp; omega)) ?_ | refine W.condT rfl ?_ | refine W.condF rfl ?_)
    (first | refine (?_ : W _ _ _ _ _) | refine (?_ : WL _ _ _ _ _ _) | skip)
    try dsimp only [St.put, Nat.reduceAdd]
    exact W.ret (fin1 rfl rfl rfl rfl)
  have e := e3 (by simpa using hif)
  rw [e, List.map_append, List.map_append] at hjoin
  rw [e]
  repeat (first | refine W.go rfl ?_ | refine WL.nil ?_ | refine WL.ev rfl ?_ | refine WL.gyes rfl rfl rfl rfl ?_ | refine WL.opno rfl rfl rfl rfl rfl rfl rfl ?_ | refine WL.ar rfl rfl (by unfold I64; omega) ?_ | refine WL.len rfl rfl (by first | exact List.length_map _ | exact List.length_replicate | rfl) ?_ | refine WL.idx rfl rfl (by omega) (by first | exact map_at (by omega) | exact map_atZ (by omega) (by omega)) ?_ | refine WL.ixs rfl rfl (by first | omega | (simp; done) | (simp; omega)) ?_ | refine WL.app rfl rfl rfl (by first | omega | (simp; done) | (simp; omega)) ?_ | refine WL.cat rfl rfl (by first | omega | (simp; done) | (simp; omega)) ?_ | refine W.condT rfl ?_ | refine W.condF rfl ?_)
  (first | refine (?_ : W _ _ _ _ _) | refine (?_ : WL _ _ _ _ _ _) | skip)
  try dsimp only [St.put, Nat.reduceAdd]
  refine WL.tr (Tr.freeze 6 rfl) ?_
  refine WL.vl rfl (WV.call rfl (callF Tryz.func46 rfl rfl) rfl rfl hjoin) ?_
  repeat (first | refine W.go rfl ?_ | refine WL.nil ?_ | refine WL.ev rfl ?_ | refine WL.gyes rfl rfl rfl rfl ?_ | refine WL.opno rfl rfl rfl rfl rfl rfl rfl ?_ | refine WL.ar rfl rfl (by unfold I64; omega) ?_ | refine WL.len rfl rfl (by first | exact List.length_map _ | exact List.length_replicate | rfl) ?_ | refine WL.idx rfl rfl (by omega) (by first | exact map_at (by omega) | exact map_atZ (by omega) (by omega)) ?_ | refine WL.ixs rfl rfl (by first | omega | (simp; done) | (simp; omega)) ?_ | refine WL.app rfl rfl rfl (by first | omega | (simp; done) | (simp; omega)) ?_ | refine WL.cat rfl rfl (by first | omega | (simp; done) | (simp; omega)) ?_ | refine W.condT rfl ?_ | refine W.condF rfl ?_)
  (first | refine (?_ : W _ _ _ _ _) | refine (?_ : WL _ _ _ _ _ _) | skip)
  try dsimp only [St.put, Nat.reduceAdd]
  exact W.ret (fin1 rfl rfl rfl rfl)
end Go.Proofs.YteldgllgagjciaaGreat
