/- The column of an event: plain words. -/
import Derived.Test.YtkgnmddakiagbaaGreatDoorShelf
import Derived.Shelf.Strings.OnBuilder
import Derived.Shelf.Strings.Builder2
import Derived.Test.YtkgnmddakiagbaaGreatDoorLkB

/- strings.Join: its contract. (The tool does not lay it here, for its closure's table of numbers; the bodies are the same.) -/
namespace Go.Proofs.YtkgnmddakiagbaaGreatDoor
open Go.Shelf Go.RowKit
set_option maxRecDepth 100000
def joinRen : Go.Shelf.Ren := ⟨fun | 156 => 74 | 165 => 144 | 166 => 48 | 169 => 50 | 240 => 121 | 241 => 183 | 276 => 174 | 277 => 209 | n => n, fun | 0 => 0 | 3 => 3 | 4 => 4 | 9 => 9 | 20 => 20 | 31 => 132 | 37 => 93 | 70 => 92 | 72 => 95 | 75 => 97 | 76 => 98 | 127 => 203 | 164 => 258 | 5 => 5 | 80 => 100 | n => n, fun | n => n⟩
theorem joinLays : Go.Proofs.Lays.n156 Tryz.prog joinRen := {
  mixed := by kernel_rfl
  f156 := Tryz.func74.trans (congrArg some (by kernel_rfl))
  f165 := Tryz.func144.trans (congrArg some (by kernel_rfl))
  f166 := Tryz.func48.trans (congrArg some (by kernel_rfl))
  f169 := Tryz.func50.trans (congrArg some (by kernel_rfl))
  f240 := Tryz.func121.trans (congrArg some (by kernel_rfl))
  f241 := Tryz.func183.trans (congrArg some (by kernel_rfl))
  f276 := Tryz.func174.trans (congrArg some (by kernel_rfl))
  f277 := Tryz.func209.trans (congrArg some (by kernel_rfl))
  t0 := Tryz.underlying0
  a0 := Tryz.isAgg0
  z0 := Tryz.sizeOf0
  v0 := Tryz.zeroValue0
  t3 := Tryz.underlying3
  a3 := Tryz.isAgg3
  z3 := Tryz.sizeOf3
  v3 := Tryz.zeroValue3
  t4 := Tryz.underlying4
  a4 := Tryz.isAgg4
  z4 := Tryz.sizeOf4
  v4 := Tryz.zeroValue4
  t9 := Tryz.underlying9
  a9 := Tryz.isAgg9
  z9 := Tryz.sizeOf9
  v9 := Tryz.zeroValue9
  t20 := Tryz.underlying20
  a20 := Tryz.isAgg20
  z20 := Tryz.sizeOf20
  v20 := Tryz.zeroValue20
  t31 := Tryz.underlying132
  a31 := Tryz.isAgg132
  z31 := Tryz.sizeOf132
  v31 := Tryz.zeroValue132
  t37 := Tryz.underlying93
  a37 := Tryz.isAgg93
  z37 := Tryz.sizeOf93
  v37 := Tryz.zeroValue93
  t70 := Tryz.underlying92
  a70 := Tryz.isAgg92
  z70 := Tryz.sizeOf92
  v70 := Tryz.zeroValue92
  t72 := Tryz.underlying95
  a72 := Tryz.isAgg95
  z72 := Tryz.sizeOf95
  v72 := Tryz.zeroValue95
  t75 := Tryz.underlying97
  a75 := Tryz.isAgg97
  z75 := Tryz.sizeOf97
  v75 := Tryz.zeroValue97
  t76 := Tryz.underlying98
  a76 := Tryz.isAgg98
  z76 := Tryz.sizeOf98
  v76 := Tryz.zeroValue98
  t127 := Tryz.underlying203
  a127 := Tryz.isAgg203
  z127 := Tryz.sizeOf203
  v127 := Tryz.zeroValue203
  t164 := Tryz.underlying258
  a164 := Tryz.isAgg258
  z164 := Tryz.sizeOf258
  v164 := Tryz.zeroValue258 }
theorem joinExtra : Builder.Extra Tryz.prog joinRen := {
  sizeBuilder := by kernel_rfl
  liesBuilder := by kernel_rfl
  t5 := Tryz.underlying5
  a5 := Tryz.isAgg5
  z5 := Tryz.sizeOf5
  v5 := Tryz.zeroValue5
  infoByte := by kernel_rfl
  cellsByte := by kernel_rfl
  sizeByte := by kernel_rfl
  neB5 := by decide }
theorem strings_Join_none (a : Option Addr) (c : Nat) (sep : ByteArray) (w : World) :
    Calls Tryz.prog 74 #[.slice a 0 c, .string sep] w fun e w' => e = .returned (.string ⟨#[]⟩) ∧ w' = w := Any.strings_Join_none joinLays joinExtra a c sep w
theorem strings_Join (bk o c : Nat) (xs : List ByteArray) (sep : ByteArray) (w : World) (hcells : ∀ (j : Nat) x, xs[j]? = some x → w.cell? ⟨bk, o + j, none⟩ = some (.string x)) (hbk : bk < w.heap.size) (hN : xs.length ≤ 140737488355328) (hcap : xs.length ≤ c) (hlen : (Lib.join (xs.map (·.data.toList)) sep.data.toList).length ≤ 140737488355328) :
    Calls Tryz.prog 74 #[.slice (some ⟨bk, o, none⟩) xs.length c, .string sep] w fun e w' => e = .returned (.string ⟨(Lib.join (xs.map (·.data.toList)) sep.data.toList).toArray⟩) ∧ Below w.heap.size w w' := Any.strings_Join joinLays joinExtra bk o c xs sep w hcells hbk hN hcap hlen
end Go.Proofs.YtkgnmddakiagbaaGreatDoor

namespace Go.Proofs.YtkgnmddakiagbaaGreatDoor
open Go.RowKit
set_option linter.unusedVariables false
/-- A blank and a word. -/
def sp (t : List UInt8) : List UInt8 := 32 :: t
/-- The cell of a stop, by what is the longest hold of a course. -/
def stT (s : Int) (L : Int → Nat) (x : Stp) : List UInt8 := cellS s x.1 x.2.1 x.2.2.1 x.2.2.2.1 x.2.2.2.2 (L x.1)
def stK (s : Int) (L : Int → Nat) (x : Stp) : Bool := cellOk s x.1 x.2.1 x.2.2.1 x.2.2.2.1 x.2.2.2.2 (L x.1)
def stOn (l : List Stp) (c : Int) : Option Stp := l.find? fun x => x.1 == c
/-- What stands on the line of a course. -/
def stF (s : Int) (L : Int → Nat) (l : List Stp) (c : Int) : List UInt8 :=
  match stOn l c with
  | some x => stT s L x
  | none => [45]
/-- The courses of a list rise. -/
def asc : Int → List Stp → Prop
  | _, [] => True
  | m, x :: r => m < x.1 ∧ asc x.1 r
theorem asc_of {p : Pce} {i : Int} : ∀ {l : List Stp} {last : Int}, stopsE p i last l = 0 → asc last l
  | [], _, _ => trivial
  | x :: r, last, h => by
    unfold stopsE at h
    by_cases h1 : stopE p i x last ≠ 0
    · rw [if_pos h1] at h; exact absurd h h1
    · rw [if_neg h1] at h
      refine ⟨?_, asc_of h⟩
      by_cases h2 : last < x.1
      · exact h2
      · exfalso; apply h1
        unfold stopE
        split
        · decide
        · split
          · decide
          · rw [if_pos (by omega)]; decide
theorem asc_lt : ∀ {l : List Stp} {m : Int}, asc m l → ∀ x ∈ l, m < x.1
  | y :: r, m, h, x, hx => by
    rcases List.mem_cons.1 hx with rfl | hx
    · exact h.1
    · have := asc_lt h.2 x hx; have := h.1; omega
theorem asc_take {l : List Stp} : ∀ {m : Int} (k : Nat) (h : k < l.length), asc m l → ∀ x ∈ l.take k, x.1 < l[k].1 := by
  induction l with
  | nil => intro m k h; simp at h
  | cons y r ih =>
    intro m k h ha x hx
    cases k with
    | zero => simp at hx
    | succ k =>
      simp only [List.take_succ_cons, List.mem_cons] at hx
      rcases hx with rfl | hx
      · exact asc_lt ha.2 _ (by simp)
      · simpa using ih k (by simpa using h) ha.2 x hx
theorem stOn_none {l : List Stp} {c : Int} (h : ∀ x ∈ l, x.1 ≠ c) : stOn l c = none := by
  unfold stOn
  rw [List.find?_eq_none]
  intro x hx
  simpa using h x hx
theorem stOn_snoc (l : List Stp) (x : Stp) (c : Int) (h : ∀ y ∈ l, y.1 < x.1) : stOn (l ++ [x]) c = if c = x.1 then some x else stOn l c := by
  by_cases e : c = x.1
  · rw [if_pos e]
    have h0 : stOn l c = none := stOn_none fun y hy => by have := h y hy; omega
    unfold stOn at h0 ⊢
    rw [List.find?_append, h0]
    simp [e]
  · rw [if_neg e]
    unfold stOn
    rw [List.find?_append]
    have : [x].find? (fun y => y.1 == c) = none := by simp; omega
    rw [this, Option.or_none]
theorem stF_snoc (s : Int) (L : Int → Nat) (l : List Stp) (x : Stp) (c : Int) (h : ∀ y ∈ l, y.1 < x.1) : stF s L (l ++ [x]) c = if c = x.1 then stT s L x else stF s L l c := by
  unfold stF
  rw [stOn_snoc l x c h]
  by_cases e : c = x.1
  · rw [if_pos e, if_pos e]
  · rw [if_neg e, if_neg e]
/-- The course of the line j + 1 of a staff of n lines. -/
def cAt (s : Int) (n j : Nat) : Int := if s = 2 then (n : Int) - j else (j : Int) + 1
def staffL (s : Int) (L : Int → Nat) (n : Nat) (l : List Stp) : List (List UInt8) := (List.range n).map fun j => stF s L l (cAt s n j)
theorem staffL_nil (s : Int) (L : Int → Nat) (n : Nat) : staffL s L n [] = List.replicate n [45] := by
  unfold staffL
  apply List.ext_getElem
  · simp
  · intro i h1 h2; simp [stF, stOn]
theorem staffL_snoc (s : Int) (L : Int → Nat) (n : Nat) (l : List Stp) (x : Stp) (hs : s ≠ 4) (h : ∀ y ∈ l, y.1 < x.1) (h1 : 1 ≤ x.1) (hn : x.1 ≤ n) : staffL s L n (l ++ [x]) = (staffL s L n l).set (lineV s x.1 n - 1).toNat (stT s L x) := by
  apply List.ext_getElem
  · simp [staffL]
  · intro j h2 h3
    have hj : j < n := by simpa [staffL] using h2
    rw [List.getElem_set]
    simp only [staffL, List.getElem_map, List.getElem_range]
    rw [stF_snoc s L l x _ h]
    have e : cAt s n j = x.1 ↔ (lineV s x.1 n - 1).toNat = j := by
      unfold cAt lineV
      rw [if_neg hs]
      by_cases e2 : s = 2
      · rw [if_pos e2, if_pos e2]; omega
      · rw [if_neg e2, if_neg e2]; omega
    by_cases e3 : cAt s n j = x.1
    · rw [if_pos e3, if_pos (e.1 e3)]
    · rw [if_neg e3, if_neg (fun q => e3 (e.2 q))]
def outL (s : Int) (L : Int → Nat) (n : Nat) (l : List Stp) : List (List UInt8) :=
  if s = 2 then ((l.filter fun x => decide ((n : Int) < x.1)).map (stT s L)).reverse else (l.filter fun x => decide ((n : Int) < x.1)).map (stT s L)
theorem outL_in (s : Int) (L : Int → Nat) (n : Nat) (l : List Stp) (x : Stp) (h : x.1 ≤ n) : outL s L n (l ++ [x]) = outL s L n l := by
  unfold outL
  have : [x].filter (fun x => decide ((n : Int) < x.1)) = [] := by simp; omega
  rw [List.filter_append, this, List.append_nil]
theorem outL_out (s : Int) (L : Int → Nat) (n : Nat) (l : List Stp) (x : Stp) (h : ¬ x.1 ≤ n) : outL s L n (l ++ [x]) = if s = 2 then stT s L x :: outL s L n l else outL s L n l ++ [stT s L x] := by
  unfold outL
  have : [x].filter (fun x => decide ((n : Int) < x.1)) = [x] := by simp; omega
  rw [List.filter_append, this]
  by_cases e : s = 2
  · rw [if_pos e, if_pos e, if_pos e]; simp
  · rw [if_neg e, if_neg e, if_neg e]; simp
theorem outL_len (s : Int) (L : Int → Nat) (n : Nat) (l : List Stp) : (outL s L n l).length ≤ l.length := by
  unfold outL
  split
  · simp; exact List.length_filter_le _ _
  · simp; exact List.length_filter_le _ _
/-- The words of a column. -/
def headW (s : Int) (e : Ev) : List (List UInt8) := if e.bar = true then [[124], tW e.val (sgI e.dot e.three)] else [tW e.val (sgI e.dot e.three)]
def staffN (s : Int) (p : Pce) : Nat := if s = 4 then 0 else min p.cs.length 6
def colW (s : Int) (p : Pce) (i : Int) (e : Ev) : List (List UInt8) :=
  headW s e ++ (if e.tie = true then [[126]] else if e.stops.length = 0 then [[37]] else
    if s = 2 then outL s (fun c => longestN p.evs i c) (staffN s p) e.stops ++ staffL s (fun c => longestN p.evs i c) (staffN s p) e.stops
    else staffL s (fun c => longestN p.evs i c) (staffN s p) e.stops ++ outL s (fun c => longestN p.evs i c) (staffN s p) e.stops)
def spW (l : List (List UInt8)) : List UInt8 := l.flatMap sp
def joinW : List (List UInt8) → List UInt8
  | [] => []
  | x :: r => x ++ spW r
theorem joinW_lib (l : List (List UInt8)) : Lib.join l [32] = joinW l := by
  cases l with
  | nil => rfl
  | cons x r =>
    rw [Lib.join_cons]
    show x ++ Lib.joinTail [32] r = x ++ r.flatMap sp
    unfold Lib.joinTail
    rw [List.flatMap_def]; rfl
def colS (s : Int) (p : Pce) (i : Int) (e : Ev) : List UInt8 := joinW (colW s p i e)
/-! The reference goes over the courses. -/
def refHead (s : Int) (e : Ev) : List UInt8 := (if e.bar = true then [124, 32] else []) ++ tW e.val (sgI e.dot e.three)
theorem head_join (s : Int) (e : Ev) (r : List (List UInt8)) : joinW (headW s e ++ r) = refHead s e ++ spW r := by
  unfold headW refHead
  by_cases h : e.bar = true
  · rw [if_pos h, if_pos h]; simp [joinW, spW, sp]
  · rw [if_neg h, if_neg h]; simp [joinW]
theorem colS_tie {s : Int} {p : Pce} {i : Int} {e : Ev} (h : e.tie = true) : colS s p i e = refHead s e ++ [32, 126] := by
  unfold colS colW
  rw [if_pos h, head_join]; rfl
theorem colS_rest {s : Int} {p : Pce} {i : Int} {e : Ev} (h : ¬ e.tie = true) (h1 : e.stops.length = 0) : colS s p i e = refHead s e ++ [32, 37] := by
  unfold colS colW
  rw [if_neg h, if_pos h1, head_join]; rfl
/-- What stands on the staff, by the courses up to c. -/
def refStaff (s : Int) (L : Int → Nat) (l : List Stp) (m : Nat) : List UInt8 :=
  if s = 2 then ((List.range m).map fun q : Nat => sp (stF s L l ((q : Int) + 1))).reverse.flatten else ((List.range m).map fun q : Nat => sp (stF s L l ((q : Int) + 1))).flatten
theorem refStaff_succ (s : Int) (L : Int → Nat) (l : List Stp) (m : Nat) : refStaff s L l (m + 1) = if s = 2 then sp (stF s L l ((m : Int) + 1)) ++ refStaff s L l m else refStaff s L l m ++ sp (stF s L l ((m : Int) + 1)) := by
  unfold refStaff
  rw [List.range_succ, List.map_append]
  by_cases e : s = 2
  · rw [if_pos e, if_pos e, if_pos e]; simp
  · rw [if_neg e, if_neg e, if_neg e]; simp
theorem refStaff_all (s : Int) (L : Int → Nat) (l : List Stp) (n : Nat) : refStaff s L l n = spW (staffL s L n l) := by
  unfold refStaff staffL spW
  rw [List.flatMap_def, List.map_map]
  by_cases e : s = 2
  · rw [if_pos e]
    congr 1
    apply List.ext_getElem
    · simp
    · intro j h1 h2
      have hj : j < n := by simpa using h1
      simp only [List.getElem_reverse, List.getElem_map, List.getElem_range, List.length_map, List.length_range, Function.comp_apply, cAt, if_pos e]
      congr 2; omega
  · rw [if_neg e]
    congr 1
    apply List.map_congr_left
    intro j hj
    simp only [Function.comp_apply, cAt, if_neg e]
/-- What stands outside, by the courses up to c. -/
def refOut (s : Int) (L : Int → Nat) (n : Nat) (l : List Stp) (c : Int) : List UInt8 := spW (outL s L n (l.filter fun x => decide (x.1 ≤ c)))
theorem filter_up {l : List Stp} {c : Int} : ∀ {m : Int}, asc m l → (l.filter fun x => decide (x.1 ≤ c + 1)) = (l.filter fun x => decide (x.1 ≤ c)) ++ (stOn l (c + 1)).toList := by
  induction l with
  | nil => intro m _; rfl
  | cons x r ih =>
    intro m ha
    by_cases h1 : x.1 ≤ c
    · have e : stOn (x :: r) (c + 1) = stOn r (c + 1) := by
        unfold stOn
        rw [List.find?_cons_of_neg (by simp; omega)]
      rw [List.filter_cons_of_pos (by simp; omega), List.filter_cons_of_pos (by simpa using h1), e, ih ha.2]; rfl
    · have hr : ∀ y ∈ r, ¬ y.1 ≤ c + 1 := fun y hy => by have := asc_lt ha.2 y hy; omega
      have e1 : (r.filter fun x => decide (x.1 ≤ c + 1)) = [] := by rw [List.filter_eq_nil_iff]; intro y hy; simpa using hr y hy
      have e2 : (r.filter fun x => decide (x.1 ≤ c)) = [] := by rw [List.filter_eq_nil_iff]; intro y hy; have := hr y hy; simp; omega
      rw [List.filter_cons_of_neg (l := r) (p := fun x => decide (x.1 ≤ c)) (by simpa using h1), e2]
      by_cases h2 : x.1 = c + 1
      · rw [List.filter_cons_of_pos (by simp; omega), e1]
        unfold stOn
        rw [List.find?_cons_of_pos (by simpa using h2)]; rfl
      · rw [List.filter_cons_of_neg (by simp; omega), e1]
        have : stOn (x :: r) (c + 1) = none := stOn_none fun y hy => by
          rcases List.mem_cons.1 hy with rfl | hy
          · exact h2
          · have := hr y hy; omega
        rw [this]; rfl
theorem stOn_eq {l : List Stp} {c : Int} {x : Stp} (h : stOn l c = some x) : x ∈ l ∧ x.1 = c := by
  unfold stOn at h
  exact ⟨List.mem_of_find?_eq_some h, by simpa using List.find?_some h⟩
theorem refOut_up (s : Int) (L : Int → Nat) (n : Nat) (l : List Stp) (c m : Int) (ha : asc m l) : refOut s L n l (c + 1) = match stOn l (c + 1) with
    | some x => if c + 1 ≤ n then refOut s L n l c else if s = 2 then sp (stT s L x) ++ refOut s L n l c else refOut s L n l c ++ sp (stT s L x)
    | none => refOut s L n l c := by
  unfold refOut
  rw [filter_up ha]
  cases hx : stOn l (c + 1) with
  | none => simp
  | some x =>
    have hxc := (stOn_eq hx).2
    simp only [Option.toList_some]
    by_cases h1 : c + 1 ≤ n
    · rw [if_pos h1, outL_in _ _ _ _ _ (by omega)]
    · rw [if_neg h1, outL_out _ _ _ _ _ (by omega)]
      by_cases e : s = 2
      · rw [if_pos e, if_pos e]; simp [spW]
      · rw [if_neg e, if_neg e]; simp [spW]
theorem refOut_zero (s : Int) (L : Int → Nat) (n : Nat) (l : List Stp) (ha : asc 0 l) : refOut s L n l 0 = [] := by
  unfold refOut
  have : (l.filter fun x => decide (x.1 ≤ 0)) = [] := by rw [List.filter_eq_nil_iff]; intro y hy; have := asc_lt ha y hy; simp; omega
  rw [this]
  unfold outL; split <;> rfl
theorem refOut_all (s : Int) (L : Int → Nat) (n : Nat) (l : List Stp) (c : Int) (h : ∀ x ∈ l, x.1 ≤ c) : refOut s L n l c = spW (outL s L n l) := by
  unfold refOut
  rw [List.filter_eq_self.2 fun x hx => by simpa using h x hx]
theorem colS_chord {s : Int} {p : Pce} {i : Int} {e : Ev} {L : Int → Nat} (hL : L = fun c => longestN p.evs i c) (h : ¬ e.tie = true) (h1 : ¬ e.stops.length = 0) (c : Int) (hc : ∀ x ∈ e.stops, x.1 ≤ c) :
    colS s p i e = refHead s e ++ (if s = 2 then refOut s L (staffN s p) e.stops c else []) ++ refStaff s L e.stops (staffN s p) ++ (if s = 2 then [] else refOut s L (staffN s p) e.stops c) := by
  subst hL
  unfold colS colW
  rw [if_neg h, if_neg h1, head_join, refOut_all _ _ _ _ _ hc, refStaff_all]
  by_cases e : s = 2
  · rw [if_pos e, if_pos e, if_pos e]; simp [spW]
  · rw [if_neg e, if_neg e, if_neg e]; simp [spW]
/-! Lengths; no cell is a dash. -/
theorem cellS_len (s c f r g h L : Int) (hs : 1 ≤ s ∧ s ≤ 4) (hc : 1 ≤ c ∧ c ≤ 14) (hf : 0 ≤ f ∧ f ≤ 18) : (cellS s c f r g h L).length ≤ 12 := by
  unfold cellS
  have h1 := (pS_len s c f hs hc hf).1
  have h2 := rR_len s r
  have h3 := rG_len s g
  have h4 := pH_len s h L
  simp only [List.length_append]; omega
theorem symDash : ((List.range' 1 4).all fun s => (List.range' 1 14).all fun c => (List.range 19).all fun f => !(pOk (s : Nat) (c : Nat) (f : Nat)) || (match pS (s : Nat) (c : Nat) (f : Nat) with | x :: _ => x != 45 | [] => false)) = true := by
  decide +kernel
theorem cellS_dash (s c f r g h L : Int) (hs : 1 ≤ s ∧ s ≤ 4) (hc : 1 ≤ c ∧ c ≤ 14) (hf : 0 ≤ f ∧ f ≤ 18) (ho : pOk s c f = true) : cellS s c f r g h L ≠ [45] := by
  obtain ⟨s, rfl⟩ := Int.eq_ofNat_of_zero_le (show 0 ≤ s by omega)
  obtain ⟨c, rfl⟩ := Int.eq_ofNat_of_zero_le (show 0 ≤ c by omega)
  obtain ⟨f, rfl⟩ := Int.eq_ofNat_of_zero_le hf.1
  have h := symDash
  rw [List.all_eq_true] at h
  have h1 := h s (List.mem_range'_1.2 (by omega))
  rw [List.all_eq_true] at h1
  have h2 := h1 c (List.mem_range'_1.2 (by omega))
  rw [List.all_eq_true] at h2
  have h3 := h2 f (List.mem_range.2 (by omega))
  rw [Bool.or_eq_true] at h3
  rcases h3 with h3 | h3
  · rw [Bool.not_eq_true'] at h3; rw [h3] at ho; cases ho
  · unfold cellS
    cases hp : pS (s : Nat) (c : Nat) (f : Nat) with
    | nil => rw [hp] at h3; cases h3
    | cons x r =>
      rw [hp] at h3
      have : x ≠ 45 := by simpa using h3
      simp only [List.cons_append]
      intro e
      injection e with e1 _
      exact this e1
/-- What the system says of every stop of the event. -/
theorem stK_of {s : Int} {p : Pce} {i : Int} {e : Ev} (h : lackE s p i e = []) : ∀ x ∈ e.stops, stK s (fun c => longestN p.evs i c) x = true := fun x hx => by
  unfold lackE at h
  have h1 := (List.append_eq_nil_iff.1 h).2
  rw [List.flatMap_eq_nil_iff] at h1
  have h2 := h1 x hx
  unfold lackStop at h2
  by_cases e1 : pOk s x.1 x.2.1 = false
  · rw [if_pos e1] at h2; cases h2
  · rw [if_neg e1] at h2
    have lk : ∀ b i c w, lkIf b i c w = [] → b = true := fun b i c w h => by cases b <;> first | rfl | cases h
    obtain ⟨a1, a2⟩ := List.append_eq_nil_iff.1 h2
    obtain ⟨a2, a3⟩ := List.append_eq_nil_iff.1 a2
    unfold stK cellOk
    rw [lk _ _ _ _ a1, lk _ _ _ _ a2, lk _ _ _ _ a3]
    simpa using e1
theorem spW_len {n : Nat} : ∀ {l : List (List UInt8)}, (∀ t ∈ l, t.length ≤ n) → (spW l).length ≤ (n + 1) * l.length
  | [], _ => by simp [spW]
  | x :: r, h => by
    have h1 := spW_len (l := r) fun t ht => h t (by simp [ht])
    have h2 := h x (by simp)
    unfold spW at h1 ⊢
    rw [List.flatMap_cons, List.length_append, List.length_cons, Nat.mul_succ]
    have : (sp x).length = x.length + 1 := by simp [sp]
    omega
end Go.Proofs.YtkgnmddakiagbaaGreatDoor
