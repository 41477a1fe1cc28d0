/- Notes of the staff, their names, the text of an instrument: the program. -/
import Derived.Test.YtkgnmddakiagbaaGreatDoorFAZq
import Derived.Laws.OwnMore
import Derived.Still
import Derived.Lib.Hide
import Derived.Lib.FrozenHead
import Derived.Deep.MidRow
import Derived.Deep.Draws
import Derived.OwnWalk
import Derived.Maps.AppendAt
import Derived.Deep.AppendLies
import Derived.WalkKit
import Derived.Handy
import Derived.WalkLawsBesides
import Derived.Test.YtkgnmddakiagbaaGreatDoorJnZq
import Derived.Lib.ItoaNum
import Derived.Test.YtkgnmddakiagbaaGreatDoorShelfZq
import Derived.Shelf.Strings.Builder1
import Derived.Shelf.Strings.Builder2
import Derived.Shelf.Small.Strs
import Derived.Shelf.Strings.BuilderF
import Derived.Shelf.Strings.BuilderK
import Derived.Shelf.Strings.Builder2Cap
import Derived.Shelf.Strconv.Itoa0
import Derived.Shelf.Strconv.Itoa1
import Derived.Shelf.LaysM
import Derived.Shelf.Strconv.Itoa2
import Derived.Shelf.Strconv.Itoa3
import Derived.Shelf.Strings.Search1
import Derived.Shelf.Strings.Search2
import Derived.Shelf.Strings.Search3
import Derived.Shelf.Strings.Cut
import Derived.Shelf.Strings.Count
import Derived.Shelf.Strings.Shaped
import Derived.Shelf.Strings.Prefix
import Derived.Shelf.Bits.Mul64
import Derived.Shelf.Strings.Repeat
import Derived.Shelf.Unicode.DecodeSlow
import Derived.Shelf.Strings.BuilderCap
import Derived.Test.YtkgnmddakiagbaaGreatDoorProg
import Derived.Test.YtkgnmddakiagbaaGreatDoorBdZq
import Derived.Test.YtkgnmddakiagbaaGreatDoorInsZq
import Derived.BigQuiet
import Derived.Deep.QuietTactic
import Derived.Deep.RegionHeld3
set_option linter.unusedVariables false
set_option linter.unusedSimpArgs false
namespace Go.Proofs.YtkgnmddakiagbaaGreatDoor
open Go.RowKit
def bsL : List Int := [0, 2, 4, 5, 7, 9, 11]
def ftL : List Int := [0, 2, 4, -1, 1, 3, 5]
def basV (l : Int) : Int := bsL.getD l.toNat 0
def ftV (l : Int) : Int := ftL.getD l.toNat 0
def sndV (l al o : Int) : Int := 12 * (o + 1) + basV l + al
def sndIn (l al o : Int) : Prop := (0 ≤ l ∧ l ≤ 6) ∧ (-1 ≤ al ∧ al ≤ 1) ∧ -1 ≤ o ∧ o ≤ 9
instance (l al o : Int) : Decidable (sndIn l al o) := by unfold sndIn; exact inferInstance
def sndOk (l al o : Int) : Bool := decide (sndIn l al o) && decide (0 ≤ sndV l al o ∧ sndV l al o ≤ 127)
def sndR (l al o : Int) : Int := if sndOk l al o = true then sndV l al o else 0
def sndX (l al o : Int) : Int := if sndOk l al o = true then 0 else 10
theorem snd_ok {l al o : Int} (h : sndOk l al o = true) : sndR l al o = sndV l al o ∧ sndX l al o = 0 := ⟨if_pos h, if_pos h⟩
theorem snd_no {l al o : Int} (h : sndOk l al o = false) : sndR l al o = 0 ∧ sndX l al o = 10 := ⟨if_neg (by simp [h]), if_neg (by simp [h])⟩
theorem sndOk_out {l al o : Int} (h : ¬ sndIn l al o) : sndOk l al o = false := by unfold sndOk; rw [decide_eq_false h]; rfl
theorem sndOk_in {l al o : Int} (h : sndIn l al o) : sndOk l al o = decide (0 ≤ sndV l al o ∧ sndV l al o ≤ 127) := by unfold sndOk; rw [decide_eq_true h]; rfl
theorem sndOk_of {l al o : Int} (h : sndOk l al o = true) : sndIn l al o ∧ 0 ≤ sndV l al o ∧ sndV l al o ≤ 127 := by
  unfold sndOk at h
  simpa using h
theorem bs_all : ((List.range 7).all fun k => decide (0 ≤ basV k ∧ basV k ≤ 11)) = true := by decide
theorem basV_bd {l : Int} (h : 0 ≤ l ∧ l ≤ 6) : 0 ≤ basV l ∧ basV l ≤ 11 := by
  obtain ⟨k, rfl⟩ := Int.eq_ofNat_of_zero_le h.1
  have := List.all_eq_true.1 bs_all k (List.mem_range.2 (by omega))
  simpa using this
theorem ft_all : ((List.range 7).all fun k => decide (-1 ≤ ftV k ∧ ftV k ≤ 5)) = true := by decide
theorem ftV_bd {l : Int} (h : 0 ≤ l ∧ l ≤ 6) : -1 ≤ ftV l ∧ ftV l ≤ 5 := by
  obtain ⟨k, rfl⟩ := Int.eq_ofNat_of_zero_le h.1
  have := List.all_eq_true.1 ft_all k (List.mem_range.2 (by omega))
  simpa using this
theorem basV_at {l : Int} (h : 0 ≤ l ∧ l ≤ 6) : bsL[l.toNat]? = some (basV l) := by
  obtain ⟨k, rfl⟩ := Int.eq_ofNat_of_zero_le h.1
  have : k < bsL.length := by simp [bsL]; omega
  unfold basV
  rw [Int.toNat_natCast, List.getD_eq_getElem?_getD, List.getElem?_eq_getElem this]; rfl
theorem ftV_at {l : Int} (h : 0 ≤ l ∧ l ≤ 6) : ftL[l.toNat]? = some (ftV l) := by
  obtain ⟨k, rfl⟩ := Int.eq_ofNat_of_zero_le h.1
  have : k < ftL.length := by simp [ftL]; omega
  unfold ftV
  rw [Int.toNat_natCast, List.getD_eq_getElem?_getD, List.getElem?_eq_getElem this]; rfl
/-! Which note suits a pitch and a key: in the program's order, in the reference's. -/
def spWin (key l al : Int) : Bool := decide (key - 3 ≤ ftV l + 7 * al ∧ ftV l + 7 * al ≤ key + 8)
def spC (p key l al o : Int) : Bool := spWin key l al && (sndOk l al o && decide (sndV l al o = p))
def spO (p l al : Int) : Int := (p - al - basV l + 12) / 12 - 2
def spN (p key : Int) (n : Nat) : Bool := spC p key ((n / 3 : Nat) : Int) (((n % 3 : Nat) : Int) - 1) (spO p ((n / 3 : Nat) : Int) (((n % 3 : Nat) : Int) - 1))
def spP (p key : Int) : Option (Int × Int × Int) := ((List.range 21).find? (spN p key)).map fun n => (((n / 3 : Nat) : Int), ((n % 3 : Nat) : Int) - 1, spO p ((n / 3 : Nat) : Int) (((n % 3 : Nat) : Int) - 1))
theorem find_at {N n : Nat} {f : Nat → Bool} (h : ∀ m, m < n → f m = false) (hn : f n = true) (hN : n < N) : (List.range N).find? f = some n := by
  rw [List.find?_range_eq_some]
  exact ⟨hn, List.mem_range.2 hN, fun m hm => by simp [h m hm]⟩
theorem find_no {N : Nat} {f : Nat → Bool} (h : ∀ m, m < N → f m = false) : (List.range N).find? f = none := by
  rw [List.find?_eq_none]
  intro m hm
  simp [h m (List.mem_range.1 hm)]
theorem spP_of {p key : Int} {r : Int × Int × Int} (h : spP p key = some r) : sndOk r.1 r.2.1 r.2.2 = true ∧ sndV r.1 r.2.1 r.2.2 = p := by
  unfold spP at h
  obtain ⟨n, h1, rfl⟩ := Option.map_eq_some_iff.1 h
  have := List.find?_some h1
  unfold spN spC at this
  simp only [Bool.and_eq_true, decide_eq_true_eq] at this
  exact ⟨this.2.1, this.2.2⟩
def spX (p key : Int) : Int := if ¬ (0 ≤ p ∧ p ≤ 127) then 10 else if ¬ (-4 ≤ key ∧ key ≤ 4) then 1 else if (spP p key).isSome = true then 0 else 10
def spV (p key : Int) : Int × Int × Int := if spX p key = 0 then (spP p key).getD (0, 0, 0) else (0, 0, 0)
def eSp (r : Int × Int × Int) : AV := .ag [.sc (.int .i64 r.1), .sc (.int .i64 r.2.1), .sc (.int .i64 r.2.2)]
theorem sp_pitch {p key : Int} (h : ¬ (0 ≤ p ∧ p ≤ 127)) : spX p key = 10 ∧ spV p key = (0, 0, 0) := by
  have : spX p key = 10 := if_pos h
  exact ⟨this, by unfold spV; rw [this]; rfl⟩
theorem sp_arg {p key : Int} (h : 0 ≤ p ∧ p ≤ 127) (h2 : ¬ (-4 ≤ key ∧ key ≤ 4)) : spX p key = 1 ∧ spV p key = (0, 0, 0) := by
  have : spX p key = 1 := by unfold spX; rw [if_neg (fun k => k h), if_pos h2]
  exact ⟨this, by unfold spV; rw [this]; rfl⟩
theorem sp_none {p key : Int} (h : 0 ≤ p ∧ p ≤ 127) (h2 : -4 ≤ key ∧ key ≤ 4) (h3 : spP p key = none) : spX p key = 10 ∧ spV p key = (0, 0, 0) := by
  have : spX p key = 10 := by unfold spX; rw [if_neg (fun k => k h), if_neg (fun k => k h2), h3]; rfl
  exact ⟨this, by unfold spV; rw [this]; rfl⟩
theorem sp_some {p key : Int} {r : Int × Int × Int} (h : 0 ≤ p ∧ p ≤ 127) (h2 : -4 ≤ key ∧ key ≤ 4) (h3 : spP p key = some r) : spX p key = 0 ∧ spV p key = r := by
  have : spX p key = 0 := by unfold spX; rw [if_neg (fun k => k h), if_neg (fun k => k h2), h3]; rfl
  exact ⟨this, by unfold spV; rw [if_pos this, h3]; rfl⟩
/-! Names. -/
def ltrs : List UInt8 := [67, 68, 69, 70, 71, 65, 66]
/-! The text of an instrument. -/
theorem decDigits_len : ∀ (k u : Nat), u < 10 ^ (k + 1) → (Lib.decDigits u).length ≤ k + 1
  | 0, u, h => by rw [Lib.decDigits, dif_pos (by simpa using h)]; simp
  | k + 1, u, h => by
    rw [Lib.decDigits]
    split
    · simp
    · have h2 : u / 10 < 10 ^ (k + 1) := by rw [Nat.div_lt_iff_lt_mul (by omega)]; rw [Nat.pow_succ] at h; exact h
      have := decDigits_len k (u / 10) h2
      rw [List.length_append]; simp; omega
theorem itoa_len {n : Int} (h : -9223372036854775808 ≤ n ∧ n ≤ 9223372036854775807) : (Lib.itoa n).length ≤ 20 := by
  unfold Lib.itoa
  split
  · have := decDigits_len 18 n.natAbs (by omega)
    simp; omega
  · have := decDigits_len 18 n.toNat (by omega)
    omega
end Go.Proofs.YtkgnmddakiagbaaGreatDoor
namespace Go.Proofs.YtkgnmddakiagbaaGreatDoor
open Go.RowKit
def tabB (w : World) (F : View) : Prop :=
  (∀ (i : Nat) v, ftL[i]? = some v → F ⟨0, i, none⟩ = some (.int .i64 v)) ∧ (∀ (i : Nat) v, bsL[i]? = some v → F ⟨1, i, none⟩ = some (.int .i64 v)) ∧
  Lib.TabIs Tryz.prog w "internal/strconv.uint64pow10" .u64 Lib.pow10Tab
def gloB : Nat := 3 + 1
theorem pow10_at : Tryz.prog.globalNamed "internal/strconv.uint64pow10" = some 3 := by kernel_rfl
theorem var_some {w : World} {cs : Array Value} (h : w.var? Tryz.prog "internal/strconv.uint64pow10" = some cs) : gloB ≤ w.heap.size := by
  unfold World.var? at h
  rw [pow10_at] at h
  rcases Nat.lt_or_ge 3 w.heap.size with h1 | h1
  · exact h1
  · simp [Array.getElem?_eq_none h1] at h
theorem stabB : Stab tabB gloB := ⟨fun w F h => var_some h.2.2, fun w w' F F' hb hF h => ⟨fun i v x => hF _ _ (h.1 i v x), fun i v x => hF _ _ (h.2.1 i v x), by
  have h3 := h.2.2
  unfold Lib.TabIs World.var? at h3 ⊢
  rw [pow10_at] at h3 ⊢
  simp only [Option.bind_some] at h3 ⊢
  rw [hb _ (Nat.lt_succ_self _)]; exact h3⟩⟩
theorem tab_fifths {z : Int} (h : 0 ≤ z ∧ z ≤ 6) : ∀ w F, tabB w F → F ⟨0, z.toNat, none⟩ = some (.int .i64 (ftV z)) := fun w F hB => hB.1 _ _ (ftV_at h)
theorem tab_bases {z : Int} (h : 0 ≤ z ∧ z ≤ 6) : ∀ w F, tabB w F → F ⟨1, z.toNat, none⟩ = some (.int .i64 (basV z)) := fun w F hB => hB.2.1 _ _ (basV_at h)
theorem Ctg.of_sc {B : World → View → Prop} {P : Program} {f : FuncId} {args : List AV} {xs : List Value} {res : AV} {v : Value} (hs : scs args = some xs) (hv : ∀ F, RP F res v) (h : ∀ w F, B w F → Calls P f xs.toArray w (Ret v w)) : Ctg B P f args res := by
  intro w F vs hB hF hR
  have : vs = xs := scs_of (G := ⟨F, fun _ => 0, fun _ => 0, fun _ => undef, fun _ _ => False⟩) hs hR.1 fun i av u a b => .pu _ _ (hR.2 i av u a b)
  subst this
  exact (h w F hB).mono fun e w' ⟨he, hb⟩ => ⟨v, F, he, hb, fun _ _ h => h, fun p u x => by rw [hb.cell (cell_block (hF p u x))]; exact hF p u x, fun _ _ h => .inl h, hv F⟩
theorem itoa_G (n : Int) (h : I64 n) : Ctg tabB Tryz.prog 76 [.sc (.int .i64 n)] (.sc (.string (bs (Lib.itoa n)))) :=
  Ctg.of_sc (v := .string (bs (Lib.itoa n))) rfl (fun _ => .sc _) fun w F hB => (Tryz.strconv_Itoa n h.1 (by have := h.2; omega) w hB.2.2).mono fun e w' ⟨he, k, os, hw⟩ => ⟨he, by
    subst hw
    refine ⟨rfl, rfl, rfl, ?_, fun i hi => ?_⟩
    · show w.heap.size ≤ (w.heap ++ os).size
      rw [Array.size_append]; omega
    · show (w.heap ++ os)[i]? = w.heap[i]?
      rw [Array.getElem?_append_left hi]⟩
end Go.Proofs.YtkgnmddakiagbaaGreatDoor
namespace Go.Proofs.YtkgnmddakiagbaaGreatDoor
open Go.RowKit
def locK {α : Type} [DecidableEq α] (k : α) : Nat → List (α × Value) → Option (Nat × Value)
  | _, [] => none
  | i, x :: r => if k = x.1 then some (i, x.2) else locK k (i + 1) r
def lookK {α : Type} [DecidableEq α] (z : Value) (k : α) (l : List (α × Value)) : Value := ((locK k 0 l).map (·.2)).getD z
def updK {α : Type} [DecidableEq α] (k : α) (v : Value) : List (α × Value) → List (α × Value)
  | [] => [(k, v)]
  | x :: r => if k = x.1 then (k, v) :: r else x :: updK k v r
structure KeyK (P : Program) (kt : TypeId) {α : Type} [DecidableEq α] (enc : α → Value) : Prop where
  chk : ∀ w b k, (Instr.checkKey b 10000 kt (enc k)).run P w = .ok () w
  fnd : ∀ w k (es : List MapEntry) (l : List (α × Value)), es.map (fun e => (e.key, e.val)) = l.map (fun x => (enc x.1, x.2)) → (Instr.findKey kt (enc k) es).run P w = .ok (locK k 0 l) w
  bits : ∀ k, Instr.sameBits 10000 (enc k) (enc k) = true
def mapIs {α : Type} (enc : α → Value) (l : List (α × Value)) (w : World) (b : Nat) : Prop :=
  ∃ es clock, w.heap[b]? = some (.map es clock) ∧ es.toList.map (fun e => (e.key, e.val)) = l.map fun x => (enc x.1, x.2)
def mapQ {α : Type} (enc : α → Value) (l : List (α × Value)) : Opq :=
  ⟨fun w b v φ => v = .map (some b) ∧ φ b ∧ mapIs enc l w b, fun w w' b v φ h ⟨h1, h2, es, c, h3, h4⟩ => ⟨h1, h2, es, c, (h b h2).trans h3, h4⟩⟩
theorem locK_shift {α : Type} [DecidableEq α] (k : α) : ∀ (l : List (α × Value)) (i n : Nat), locK k (i + n) l = (locK k i l).map fun x => (x.1 + n, x.2)
  | [], i, n => rfl
  | x :: r, i, n => by
    unfold locK
    split
    · rfl
    · rw [show i + n + 1 = (i + 1) + n by omega]; exact locK_shift k r (i + 1) n
theorem upd_none {α : Type} [DecidableEq α] (k : α) (v : Value) : ∀ (l : List (α × Value)) (i : Nat), locK k i l = none → updK k v l = l ++ [(k, v)]
  | [], i, _ => rfl
  | x :: r, i, h => by
    unfold locK at h
    split at h
    · cases h
    · rename_i hne
      unfold updK
      rw [if_neg hne, upd_none k v r (i + 1) h]; rfl
theorem upd_some {α : Type} [DecidableEq α] (enc : α → Value) (k : α) (v : Value) : ∀ (l : List (α × Value)) (es : List MapEntry) (i : Nat) (u : Value), locK k 0 l = some (i, u) → es.map (fun e => (e.key, e.val)) = l.map (fun x => (enc x.1, x.2)) →
    (es.modify i fun e => { e with key := enc k, val := v }).map (fun e => (e.key, e.val)) = (updK k v l).map (fun x => (enc x.1, x.2)) ∧ ((es[i]?).map (·.key)) = some (enc k)
  | [], es, i, u, h, _ => by cases h
  | x :: r, [], i, u, _, he => by cases he
  | x :: r, e :: es, i, u, h, he => by
    simp only [List.map_cons, List.cons.injEq, Prod.mk.injEq] at he
    unfold locK at h
    unfold updK
    by_cases hk : k = x.1
    · rw [if_pos hk] at h ⊢
      cases h
      simp [List.modify, he.2, he.1.1, hk]
    · rw [if_neg hk] at h ⊢
      rw [show (0 + 1 : Nat) = 0 + 1 from rfl, locK_shift] at h
      cases hq : locK k 0 r with
      | none => rw [hq] at h; cases h
      | some y =>
        rw [hq] at h
        simp only [Option.map_some, Option.some.injEq, Prod.mk.injEq] at h
        obtain ⟨rfl, rfl⟩ := h
        obtain ⟨h1, h2⟩ := upd_some enc k v r es y.1 y.2 hq he.2
        refine ⟨?_, by simpa using h2⟩
        simp only [List.modify_succ_cons, List.map_cons, h1, he.1.1, he.1.2]
section
variable {P : Program} {C : Cx} {σ σ' : St} {G G' : Gh} {a : Act} {w w' : World} {o : Oper} {d : Tmp} {ops : Array Oper} {rest : List Oper} {Q : Exit → St → Prop}
theorem Ok.writeG (ok : Ok C σ G a w) {k g : Nat} {ob ob' : AO} (hk : look k σ.M = some ob) (hg : G.fp k g) (hkept : Kept (fun x => x = g) w w') (hob : ObAt G w' k ob') (hbd : ob'.bd σ.nk) :
    Ok C (σ.upd k ob') G a w' := by
  have hl : ∀ k' o, look k' (σ.upd k ob').M = some o → (k' = k ∧ o = ob') ∨ (k' ≠ k ∧ look k' σ.M = some o) := fun k' o hx => by
    by_cases e : k' = k
    · subst e
      rw [show look k' (σ.upd k' ob').M = some ob' from look_set_same] at hx
      cases hx
      exact .inl ⟨rfl, rfl⟩
    · rw [show look k' (σ.upd k ob').M = look k' σ.M from look_set_other e] at hx
      exact .inr ⟨e, hx⟩
  have hne : ∀ k' o x, k' ≠ k → look k' σ.M = some o → G.fp k' x → x ≠ g := fun k' o x e h1 h2 h3 => by
    subst h3; exact e (ok.dj k' o k ob x h1 hk h2 hg)
  have some_ : ∀ k' o, look k' (σ.upd k ob').M = some o → ∃ o', look k' σ.M = some o' := fun k' o h => by
    rcases hl k' o h with ⟨rfl, _⟩ | ⟨_, y⟩
    · exact ⟨ob, hk⟩
    · exact ⟨o, y⟩
  refine ⟨ok.sz, ok.df, ok.tm, ok.bel.on hkept (fun x hx => by subst hx; exact (ok.my k ob x hk hg).1), fun p u h => ?_, ok.f0, ok.f1, ?_, ?_, ?_, ?_⟩
  · rw [World.cell?_of_block (hkept.block p.block (cell_block (ok.fw p u h)) (ok.dF k ob g p u hk hg h))]; exact ok.fw p u h
  · intro k' o x
    rcases hl k' o x with ⟨rfl, rfl⟩ | ⟨e, y⟩
    · exact ⟨(ok.ob k' ob hk).1, hbd, hob⟩
    · exact ⟨(ok.ob k' o y).1, (ok.ob k' o y).2.1, (ok.ob k' o y).2.2.keep (Gh.le.refl _ _) (ok.ob k' o y).1 (ok.ob k' o y).2.1 rfl fun x hx => hkept.block x (ok.my k' o x y hx).2 (hne k' o x e y hx)⟩
  · intro k' o x h1 h2
    obtain ⟨o', y⟩ := some_ k' o h1
    exact ⟨(ok.my k' o' x y h2).1, Nat.lt_of_lt_of_le (ok.my k' o' x y h2).2 hkept.size⟩
  · intro k1 o1 k2 o2 x h1 h2 h3 h4
    obtain ⟨o1', y1⟩ := some_ k1 o1 h1
    obtain ⟨o2', y2⟩ := some_ k2 o2 h2
    exact ok.dj k1 o1' k2 o2' x y1 y2 h3 h4
  · intro k1 o1 x p u h1 h2 h3
    obtain ⟨o1', y1⟩ := some_ k1 o1 h1
    exact ok.dF k1 o1' x p u y1 h2 h3
/-! make(map) -/
theorem WO.mkm {T : TypeId} {q : Nat} {α : Type} (enc : α → Value) (hd : dstB C.N o = some d) (ho : o.op = .makeMap T none) (hq : σ.nk = q) : WO P C o σ ((σ.new (.opq (mapQ enc []))).put d (.sl q)) := by
  intro G a w ok N Q' hN
  obtain ⟨_, hds, hdb⟩ := dstB_of hd
  have hbl : ∀ x, x < w.heap.size → (w.alloc (.map #[] 0)).heap[x]? = w.heap[x]? := fun x hx => Below.heap_alloc w _ x hx
  have ok' := ok.newObj (S := fun _ => False) (w' := w.alloc (.map #[] 0)) (b := w.heap.size) (n := 0) (h := .map (some w.heap.size)) (φ := fun x => x = w.heap.size) (ob := .opq (mapQ enc []))
    (Kept.below ((Below.refl _ _).alloc (Nat.le_refl _) _)) (fun _ h => h.elim) (fun _ _ _ _ _ h => h) (fun _ _ _ h => h)
    (by
      show (mapQ enc []).Q _ _ _ _
      rw [with_b, with_h, with_f]
      exact ⟨rfl, rfl, #[], 0, (MapKept.heap_alloc w _).1, rfl⟩) trivial (fun x hx => by
      subst hx
      exact ⟨.inl ok.bel.size, by simp, fun k o h1 h2 => by have := (ok.my k o _ h1 h2).2; omega, fun p u h1 h2 => by have := cell_block (ok.fw p u h1); omega⟩)
  subst hq
  unfold Oper.wp execOp
  simp only [ho, Instr.makeMap, Option.map_none, Sem.run_bind, Sem.run_pure, run_newObj, Result.andThen_ok]
  show N (a.put o.dst _) _
  rw [hds]
  exact hN _ _ _ (ok'.set (d := some d) (av := .sl σ.nk) (with_sl rfl) (.sl _ (Nat.lt_succ_self _)) fun x hx => by cases hx; exact of_blt hdb)
theorem WL.mkm {T : TypeId} {t : List (Nat × AV)} {M : List (Nat × AO)} {nk : Nat} {α : Type} (enc : α → Value) (hd : dstB C.N o = some d) (ho : o.op = .makeMap T none) (k : WL P C ops rest ⟨(d, .sl nk) :: t, (nk, .opq (mapQ enc [])) :: M, nk + 1⟩ Q) : WL P C ops (o :: rest) ⟨t, M, nk⟩ Q :=
  WL.op (dstB_of hd).1 (WO.mkm enc hd ho rfl) k
/-! m[k] -/
theorem map_at_ {α : Type} {enc : α → Value} {l : List (α × Value)} (ok : Ok C σ G a w) {q : Nat} {x : Operand} (hx : σ.ev x = some (.sl q)) (hq : look q σ.M = some (.opq (mapQ enc l))) :
    a.eval x = .map (some (G.b q)) ∧ G.fp q (G.b q) ∧ mapIs enc l w (G.b q) := by
  obtain ⟨h1, h2, h3⟩ : (mapQ enc l).Q w (G.b q) (G.h q) (G.fp q) := (ok.ob q _ hq).2.2
  exact ⟨(ok.evr hx).2.sl_of.1.trans h1, h2, h3⟩
theorem WV.mlk {α : Type} [DecidableEq α] {enc : α → Value} {T kt et : TypeId} {l : List (α × Value)} {q : Nat} {x y : Operand} {av : AV} {k : α} {z : Value} (K : KeyK P kt enc) (ho : o.op = .lookup T x y false) (hT : P.underlying T = some (.map kt et)) (hz : (P.info? et).bind (·.zero) = some z)
    (hx : σ.ev x = some (.sl q)) (hq : look q σ.M = some (.opq (mapQ enc l))) (hy : σ.ev y = some av) (hk : ∀ G v, R G av v → v = enc k) : WV P C o σ (.sc (lookK z k l)) :=
  WV.sc fun G a w ok => by
    obtain ⟨e1, e2, es, clock, e3, e4⟩ := map_at_ ok hx hq
    have e5 := hk G _ (ok.evr hy).2
    have e6 := K.fnd w k es.toList l e4
    unfold execOp
    simp only [ho, e1, e5, Instr.lookup, Sem.run_bind, run_underlying hT, Result.andThen_ok, Sem.run_pure, MapKept.run_getObj_map e3, K.chk, e6]
    unfold lookK
    cases hl : locK k 0 l with
    | none =>
      cases hi : P.info? et with
      | none => simp [hi] at hz
      | some i =>
        simp [hi] at hz
        simp [zeroValue, typeInfo, hi, hz]
    | some r => simp
/-! m[k] = v -/
theorem WO.mup {α : Type} [DecidableEq α] {enc : α → Value} {T kt et : TypeId} {l : List (α × Value)} {q : Nat} {x y z : Operand} {av : AV} {k : α} {u : Value} (K : KeyK P kt enc) (hds : o.dst = none) (ho : o.op = .mapUpdate T x y z) (hT : P.underlying T = some (.map kt et))
    (hx : σ.ev x = some (.sl q)) (hq : look q σ.M = some (.opq (mapQ enc l))) (hy : σ.ev y = some av) (hk : ∀ G v, R G av v → v = enc k) (hu : σ.ev z = some (.sc u)) : WO P C o σ (σ.upd q (.opq (mapQ enc (updK k u l)))) := by
  intro G a w ok N Q' hN
  obtain ⟨e1, e2, es, clock, e3, e4⟩ := map_at_ ok hx hq
  have e5 := hk G _ (ok.evr hy).2
  have e6 := K.fnd w k es.toList l e4
  have hlt : G.b q < w.heap.size := (Array.getElem?_eq_some_iff.1 e3).1
  have fin : ∀ (es' : Array MapEntry) (c' : Nat), es'.toList.map (fun e => (e.key, e.val)) = (updK k u l).map (fun x => (enc x.1, x.2)) → Ok C (σ.upd q (.opq (mapQ enc (updK k u l)))) G a { w with heap := w.heap.setIfInBounds (G.b q) (.map es' c') } := fun es' c' h =>
    ok.writeG hq e2 ⟨rfl, rfl, rfl, by simp, fun x _ hx => Array.getElem?_setIfInBounds_ne (fun e => hx e.symm)⟩ ⟨(ok.ob q _ hq).2.2.1, e2, es', c', (MapKept.heap_set e3).1, h⟩ trivial
  unfold Oper.wp execOp
  simp only [ho, e1, e5, ok.evs hu, Instr.mapUpdate, Sem.run_bind, run_underlying hT, Result.andThen_ok, Sem.run_pure, MapKept.run_getObj_map e3, K.chk, e6]
  cases hl : locK k 0 l with
  | none =>
    simp only [MapKept.run_setObj_map _ e3, Result.andThen_ok, Sem.run_bind, Sem.run_pure, Oper.upon]
    rw [hds]
    refine hN G a _ (fin _ _ ?_)
    rw [upd_none k u l 0 hl]
    simp [e4]
  | some r =>
    obtain ⟨i, v0⟩ := r
    obtain ⟨f1, f2⟩ := upd_some enc k u l es.toList i v0 hl e4
    have f3 : (es[i]?).map (·.key) = some (enc k) := by rw [← Array.getElem?_toList]; exact f2
    simp only [f3, Option.getD_some, Instr.keyThatStays, K.bits, if_true, Sem.run_pure, Result.andThen_ok, Sem.run_bind, MapKept.run_setObj_map _ e3, Oper.upon]
    rw [hds]
    refine hN G a _ (fin _ _ ?_)
    rw [Array.toList_modify]
    exact f1
theorem WL.mup {α : Type} [DecidableEq α] {enc : α → Value} {T kt et : TypeId} {l l' : List (α × Value)} {q : Nat} {x y z : Operand} {av : AV} {k : α} {u : Value} {t : List (Nat × AV)} {M M' : List (Nat × AO)} {nk : Nat} (K : KeyK P kt enc) (hg : o.guard = none) (hds : o.dst = none) (ho : o.op = .mapUpdate T x y z) (hT : P.underlying T = some (.map kt et))
    (hx : (⟨t, M, nk⟩ : St).ev x = some (.sl q)) (hq : look q M = some (.opq (mapQ enc l))) (hy : (⟨t, M, nk⟩ : St).ev y = some av) (hk : ∀ G v, R G av v → v = enc k) (hu : (⟨t, M, nk⟩ : St).ev z = some (.sc u)) (hM : remS q M = some M') (hl : updK k u l = l')
    (r : WL P C ops rest ⟨t, (q, .opq (mapQ enc l')) :: M', nk⟩ Q) : WL P C ops (o :: rest) ⟨t, M, nk⟩ Q := by
  subst hl
  rw [remS_eq hM] at r
  exact WL.op hg (wo_rem (WO.mup (σ := ⟨t, M, nk⟩) K hds ho hT hx hq hy hk hu)) r
/-! clear(m) -/
theorem WO.mcl {α : Type} {enc : α → Value} {T kt et : TypeId} {l : List (α × Value)} {q : Nat} {x : Operand} (ho : o.op = .call { callee := .builtin .clear, args := #[x], argTypes := #[T] }) (hT : P.underlying T = some (.map kt et))
    (hx : σ.ev x = some (.sl q)) (hq : look q σ.M = some (.opq (mapQ enc l))) (hd : dstOk C.N o.dst = true) : WO P C o σ ((σ.upd q (.opq (mapQ enc []))).set o.dst (.tu [])) := by
  intro G a w ok N Q' hN
  obtain ⟨e1, e2, es, clock, e3, e4⟩ := map_at_ ok hx hq
  have hlt : G.b q < w.heap.size := (Array.getElem?_eq_some_iff.1 e3).1
  have ok' : Ok C (σ.upd q (.opq (mapQ enc []))) G a { w with heap := w.heap.setIfInBounds (G.b q) (.map #[] clock) } :=
    ok.writeG hq e2 ⟨rfl, rfl, rfl, by simp, fun x _ hx => Array.getElem?_setIfInBounds_ne (fun e => hx e.symm)⟩ ⟨(ok.ob q _ hq).2.2.1, e2, #[], clock, (MapKept.heap_set e3).1, rfl⟩ trivial
  unfold Oper.wp execOp
  have hargs : (#[x] : Array Operand).map a.eval = #[.map (some (G.b q))] := by simp [e1]
  simp only [ho, resolve, invoke, builtin, Sem.run_bind, Sem.run_pure, Result.andThen_ok, hargs]
  have hcl : (Builtin.clear_ #[T] o.type #[.map (some (G.b q))]).run P w = .ok (.tuple #[]) { w with heap := w.heap.setIfInBounds (G.b q) (.map #[] clock) } := by
    simp [Builtin.clear_, run_underlying hT, MapKept.run_getObj_map e3, MapKept.run_setObj_map _ e3]
  simp only [hcl, Result.andThen_ok, Sem.run_bind, Sem.run_pure, Oper.upon]
  exact hN G _ _ (ok'.set (av := .tu []) (.tu _ _ rfl fun i av u h => by simp at h) (.tu _ fun i x h => by simp at h) (dstOk_of hd))
theorem WL.mcl {α : Type} {enc : α → Value} {T kt et : TypeId} {l : List (α × Value)} {q : Nat} {x : Operand} {t : List (Nat × AV)} {M M' : List (Nat × AO)} {nk : Nat} (hg : o.guard = none) (ho : o.op = .call { callee := .builtin .clear, args := #[x], argTypes := #[T] }) (hT : P.underlying T = some (.map kt et))
    (hx : (⟨t, M, nk⟩ : St).ev x = some (.sl q)) (hq : look q M = some (.opq (mapQ enc l))) (hd : dstOk C.N o.dst = true) (hM : remS q M = some M') (r : WL P C ops rest ((⟨t, (q, .opq (mapQ enc [])) :: M', nk⟩ : St).set o.dst (.tu [])) Q) : WL P C ops (o :: rest) ⟨t, M, nk⟩ Q := by
  rw [remS_eq hM] at r
  refine WL.op hg ?_ r
  intro G a w ok N Q' hN
  refine WO.mcl (σ := ⟨t, M, nk⟩) (enc := enc) ho hT hx hq hd G a w ok N Q' fun G' a' w' ok' => hN G' a' w' ?_
  have hl : ∀ i, look i ((q, AO.opq (mapQ enc [])) :: rem q M) = look i ((q, AO.opq (mapQ enc [])) :: M) := fun i => by
    by_cases e : i = q
    · subst e; rw [look_set_same, look_set_same]
    · rw [look_set_other e, look_set_other e, look_rem, if_neg e]
  cases hdst : o.dst with
  | none =>
    rw [hdst] at ok'
    exact ⟨ok'.sz, ok'.df, ok'.tm, ok'.bel, ok'.fw, ok'.f0, ok'.f1, fun i x hx => ok'.ob i x ((hl i).symm.trans hx), fun i x y hx => ok'.my i x y ((hl i).symm.trans hx), fun i x i' x' y hx hx' => ok'.dj i x i' x' y ((hl i).symm.trans hx) ((hl i').symm.trans hx'), fun i x y p u hx => ok'.dF i x y p u ((hl i).symm.trans hx)⟩
  | some d =>
    rw [hdst] at ok'
    exact ⟨ok'.sz, ok'.df, ok'.tm, ok'.bel, ok'.fw, ok'.f0, ok'.f1, fun i x hx => ok'.ob i x ((hl i).symm.trans hx), fun i x y hx => ok'.my i x y ((hl i).symm.trans hx), fun i x i' x' y hx hx' => ok'.dj i x i' x' y ((hl i).symm.trans hx) ((hl i').symm.trans hx'), fun i x y p u hx => ok'.dF i x y p u ((hl i).symm.trans hx)⟩
end
end Go.Proofs.YtkgnmddakiagbaaGreatDoor
namespace Go.Proofs.YtkgnmddakiagbaaGreatDoor
open Go.RowKit
section
variable {P : Program} {C : Cx} {σ : St} {o : Oper} {d : Tmp} {ops : Array Oper} {rest : List Oper} {Q : Exit → St → Prop} {mem : List Bool} {Mc : List (Nat × AO)} {nk0 k : Nat}
theorem W.dmT2 {id : Nat} {L : List Oper} (k0 : Nat) (mem : List Bool) (ms : List Nat) (hm : P.follows .mixedOrders = true) (hB : Region.lexB .any L.toArray = true) (hT : tailB L.toArray k0 = true) (hB2 : Region.lexB .any (L.take k0).toArray = true)
    (hch : chainB (L.take k0).toArray mem = true) (hMc : msSub (onlyM σ.M ms) σ.M)
    (h : DMK P C (L.take k0).toArray mem (onlyM σ.M ms) σ.nk 0 (L.take k0) σ (fun e s => e = .normal ∧ WL P C L.toArray (L.drop k0) s Q)) : W P C (.region id L.toArray true) σ Q :=
  W.drawT k0 hm hB hT (let ⟨_, a, b⟩ := h; WA.drawM mem (onlyM σ.M ms) hB2 hch hMc a b)
theorem DMK.al {T : TypeId} {z : Value} {l : List AV} (hd : wrB mem C.N k o = some d) (ho : o.op = .alloc T) (hz : (P.info? T).bind (·.zero) = some z) (hl : z.cells.toList.map .sc = l) (hs : msSub Mc ((σ.nk, .box T l) :: σ.M))
    (r : DMK P C ops mem Mc nk0 (k + 1) rest ⟨(d, .pt σ.nk 0 0) :: σ.t, (σ.nk, .box T l) :: σ.M, σ.nk + 1⟩ Q) : DMK P C ops mem Mc nk0 k (o :: rest) σ Q := by
  obtain ⟨a, b, c, e⟩ := wrB_of hd
  exact DMK.wr a b (Nat.ble_eq_true_of_le (Nat.le_succ _)) hs ⟨c, fun t _ => WO.alloc (σ := ⟨t, σ.M, σ.nk⟩) ho hz b e hl rfl⟩ r
theorem Tr.nilR {t : Tmp} (n : Nat) (h : look t σ.t = some (.sc (.slice none 0 0))) : Tr C σ (σ.put t (.ls n [])) := fun G a w ok =>
  ⟨G, ok.reslot h (.ls _ _) fun v hv => by rw [hv.sc_eq]; exact .pu _ _ (.ls n [] none 0 ⟨0, 0, none⟩ (fun _ _ => undef) (by simp) (by simp) (by simp) (by simp) (by simp))⟩
def truB : World → View → Prop := fun _ _ => True
theorem truS : Stab truB 0 := ⟨fun _ _ _ => Nat.zero_le _, fun _ _ _ _ _ _ _ => trivial⟩
theorem truH (C : Cx) : Holds truB 0 C := ⟨fun _ _ _ _ => trivial, fun _ _ => Nat.zero_le _⟩
end
end Go.Proofs.YtkgnmddakiagbaaGreatDoor
namespace Go.Proofs.YtkgnmddakiagbaaGreatDoor
open Go.RowKit
set_option maxRecDepth 100000
set_option maxHeartbeats 4000000
theorem pSounding_G (l al o : Int) : Ctg tabB Tryz.prog 90 [.ag [.sc (.int .i64 l), .sc (.int .i64 al), .sc (.int .i64 o)]] (.tu [.sc (.int .i64 (sndR l al o)), .sc (.int .i64 (sndX l al o))]) := by
  refine Ctg.intro stabB Tryz.func90 rfl Tryz.ntmps90 (Nat.le_of_ble_eq_true rfl) (bd_all rfl) fun w0 F0 hB => ?_; dsimp only [St.init, number, Nat.reduceAdd]
  have hc : (l < 0 ∨ (¬ l < 0 ∧ 7 ≤ l) ∨ (¬ l < 0 ∧ ¬ 7 ≤ l ∧ al < -1) ∨ (¬ l < 0 ∧ ¬ 7 ≤ l ∧ ¬ al < -1 ∧ 1 < al) ∨ (¬ l < 0 ∧ ¬ 7 ≤ l ∧ ¬ al < -1 ∧ ¬ 1 < al ∧ o < -1) ∨ (¬ l < 0 ∧ ¬ 7 ≤ l ∧ ¬ al < -1 ∧ ¬ 1 < al ∧ ¬ o < -1 ∧ 9 < o)) ∨ sndIn l al o := by unfold sndIn; omega
  rcases hc with hc | hc
  · have hno := sndOk_out (l := l) (al := al) (o := o) (by unfold sndIn; omega)
    rw [(snd_no hno).1, (snd_no hno).2]
    rcases hc with h | h | h | h | h | h
    all_goals
      repeat (first | refine W.gob rfl ?_ | refine WL.nil ?_ | refine WL.bt rfl rfl rfl (by omega) ?_ | refine WL.bf rfl rfl rfl (by omega) ?_ | refine WL.e1 rfl ?_ | refine WL.gyes rfl rfl rfl rfl ?_ | refine WL.opno rfl rfl rfl rfl rfl rfl rfl ?_ | refine W.condT rfl ?_)
      refine (?_ : W _ _ _ _ _)
      dsimp only [St.put, Nat.reduceAdd]
      exact W.ret (fin2 rfl rfl rfl rfl rfl rfl rfl)
  · obtain ⟨⟨h1, h2⟩, ⟨h3, h4⟩, h5, h6⟩ := id hc
    have hbd := basV_bd ⟨h1, h2⟩
    have htab := tab_bases ⟨h1, h2⟩
    have hin := sndOk_in hc
    have hv : sndV l al o = 12 * (o + 1) + basV l + al := rfl
    have hR : sndOk l al o = true → sndR l al o = 12 * (o + 1) + basV l + al := fun h => (snd_ok h).1
    obtain ⟨b, hb⟩ : ∃ b, basV l = b := ⟨_, rfl⟩
    rw [hb] at hbd htab hv hR
    repeat (first | refine W.gob rfl ?_ | refine WL.nil ?_ | refine WL.bf rfl rfl rfl (by omega) ?_ | refine WL.e1 rfl ?_ | refine WL.gyes rfl rfl rfl rfl ?_ | refine W.condF rfl ?_)
    refine (?_ : W _ _ _ _ _)
    dsimp only [St.put, Nat.reduceAdd]
    refine W.drawK (by kernel_rfl) (by kernel_rfl) ?_
    repeat (first | refine DK.st rfl ?_ | refine DK.ar rfl rfl (by unfold I64; omega) ?_)
    refine DK.glob hB rfl rfl ⟨h1, by omega⟩ htab rfl ?_
    repeat (first | refine DK.st rfl ?_ | refine DK.ar rfl rfl (by unfold I64; omega) ?_ | refine DK.nil ?_)
    by_cases hr : 0 ≤ 12 * (o + 1) + b + al ∧ 12 * (o + 1) + b + al ≤ 127
    · have hok : sndOk l al o = true := by rw [hin, hv]; simpa using hr
      rw [hR hok, (snd_ok hok).2]
      repeat (first | refine W.gob rfl ?_ | refine WL.nil ?_ | refine WL.bf rfl rfl rfl (by omega) ?_ | refine WL.e1 rfl ?_ | refine WL.gyes rfl rfl rfl rfl ?_ | refine W.condF rfl ?_)
      refine (?_ : W _ _ _ _ _)
      dsimp only [St.put, Nat.reduceAdd]
      exact W.ret (fin2 rfl rfl rfl rfl rfl rfl rfl)
    · have hok : sndOk l al o = false := by rw [hin, hv]; simpa using hr
      rw [(snd_no hok).1, (snd_no hok).2]
      have hr2 : (12 * (o + 1) + b + al < 0) ∨ (¬ 12 * (o + 1) + b + al < 0 ∧ 127 < 12 * (o + 1) + b + al) := by omega
      rcases hr2 with h | h
      all_goals
        repeat (first | refine W.gob rfl ?_ | refine WL.nil ?_ | refine WL.bt rfl rfl rfl (by omega) ?_ | refine WL.bf rfl rfl rfl (by omega) ?_ | refine WL.e1 rfl ?_ | refine WL.gyes rfl rfl rfl rfl ?_ | refine WL.opno rfl rfl rfl rfl rfl rfl rfl ?_ | refine W.condT rfl ?_)
        refine (?_ : W _ _ _ _ _)
        dsimp only [St.put, Nat.reduceAdd]
        exact W.ret (fin2 rfl rfl rfl rfl rfl rfl rfl)
theorem pSpell_G (p key : Int) : Ctg tabB Tryz.prog 63 [.sc (.int .i64 p), .sc (.int .i64 key)] (.tu [eSp (spV p key), .sc (.int .i64 (spX p key))]) := by
  refine Ctg.intro stabB Tryz.func63 rfl Tryz.ntmps63 (Nat.le_of_ble_eq_true rfl) (bd_all rfl) fun w0 F0 hB => ?_; dsimp only [St.init, number, Nat.reduceAdd]
  by_cases hp : 0 ≤ p ∧ p ≤ 127
  rotate_left
  · rw [(sp_pitch hp).1, (sp_pitch hp).2]
    have hp2 : p < 0 ∨ (¬ p < 0 ∧ 127 < p) := by omega
    rcases hp2 with h | h
    all_goals
      repeat (first | refine W.gob rfl ?_ | refine WL.nil ?_ | refine WL.bt rfl rfl rfl (by omega) ?_ | refine WL.bf rfl rfl rfl (by omega) ?_ | refine WL.e1 rfl ?_ | refine WL.gyes rfl rfl rfl rfl ?_ | refine WL.opno rfl rfl rfl rfl rfl rfl rfl ?_ | refine W.condT rfl ?_)
      refine (?_ : W _ _ _ _ _)
      dsimp only [St.put, Nat.reduceAdd]
      exact W.ret (finN rfl rfl rfl rfl)
  by_cases hk : -4 ≤ key ∧ key ≤ 4
  rotate_left
  · rw [(sp_arg hp hk).1, (sp_arg hp hk).2]
    have hk2 : key < -4 ∨ (¬ key < -4 ∧ 4 < key) := by omega
    rcases hk2 with h | h
    all_goals
      repeat (first | refine W.gob rfl ?_ | refine WL.nil ?_ | refine WL.bt rfl rfl rfl (by omega) ?_ | refine WL.bf rfl rfl rfl (by omega) ?_ | refine WL.e1 rfl ?_ | refine WL.gyes rfl rfl rfl rfl ?_ | refine WL.opno rfl rfl rfl rfl rfl rfl rfl ?_ | refine W.condT rfl ?_ | refine W.condF rfl ?_)
      refine (?_ : W _ _ _ _ _)
      dsimp only [St.put, Nat.reduceAdd]
      exact W.ret (finN rfl rfl rfl rfl)
  repeat (first | refine W.gob rfl ?_ | refine WL.nil ?_ | refine WL.bf rfl rfl rfl (by omega) ?_ | refine WL.e1 rfl ?_ | refine WL.gyes rfl rfl rfl rfl ?_ | refine W.condF rfl ?_)
  refine (?_ : W _ _ _ _ _)
  dsimp only [St.put, Nat.reduceAdd]
  refine W.loop (fun k : Nat => k ≤ 7 ∧ ∀ m, m < 3 * k → spN p key m = false) (fun k => ⟨[(0, .sc (.int .i64 p)), (1, .sc (.int .i64 key)), (4, .pt 0 0 0), (27, .sc (.int .i64 k))], [(0, .box 118 [.sc (.int .i64 0), .sc (.int .i64 0), .sc (.int .i64 0)])], 1⟩) (fun k => 7 - k) 0 ⟨by omega, by omega⟩ (Tr.ren id (by repeat (first | exact trivial | refine ⟨⟨?_, ?_⟩, ?_⟩ | rfl)) (by repeat (first | exact trivial | refine ⟨⟨?_, ?_, ?_⟩, ?_⟩ | rfl)) rfl) fun k hk0 => ?_
  obtain ⟨hk7, hno⟩ := hk0
  by_cases hlt : k < 7
  rotate_left
  · have hn : spP p key = none := by unfold spP; rw [find_no fun m hm => hno m (by omega)]; rfl
    rw [(sp_none hp hk hn).1, (sp_none hp hk hn).2]
    repeat (first | refine W.gob rfl ?_ | refine WL.nil ?_ | refine WL.bf rfl rfl rfl (by omega) ?_ | refine WL.e1 rfl ?_ | refine W.condF rfl ?_)
    refine (?_ : W _ _ _ _ _)
    dsimp only [St.put, Nat.reduceAdd]
    exact W.ret (finN rfl rfl rfl rfl)
  repeat (first | refine W.gob rfl ?_ | refine WL.nil ?_ | refine WL.bt rfl rfl rfl (by omega) ?_ | refine WL.e1 rfl ?_ | refine W.condT rfl ?_)
  refine (?_ : W _ _ _ _ _)
  dsimp only [St.put, Nat.reduceAdd]
  refine W.loop (fun j : Nat => j ≤ 3 ∧ ∀ m, m < 3 * k + j → spN p key m = false) (fun j => ⟨[(0, .sc (.int .i64 p)), (1, .sc (.int .i64 key)), (4, .pt 0 0 0), (6, .sc (.int .i64 k)), (7, .sc (.int .i64 ((j : Int) - 1))), (27, .sc (.int .i64 k))], [(0, .box 118 [.sc (.int .i64 0), .sc (.int .i64 0), .sc (.int .i64 0)])], 1⟩) (fun j => 3 - j) 0 ⟨by omega, by simpa using hno⟩ (Tr.ren id (by repeat (first | exact trivial | refine ⟨⟨?_, ?_⟩, ?_⟩ | rfl)) (by repeat (first | exact trivial | refine ⟨⟨?_, ?_, ?_⟩, ?_⟩ | rfl)) rfl) fun j hj0 => ?_
  obtain ⟨hj3, hno2⟩ := hj0
  by_cases hj : j < 3
  rotate_left
  · repeat (first | refine W.gob rfl ?_ | refine WL.nil ?_ | refine WL.bf rfl rfl rfl (by omega) ?_ | refine WL.e1 rfl ?_ | refine WL.ar rfl rfl (by unfold I64; omega) ?_ | refine W.condF rfl ?_)
    dsimp only [St.put, Nat.reduceAdd]
    refine ⟨k + 1, ⟨by omega, fun m hm => hno2 m (by omega)⟩, by omega, ?_⟩
    exact (Tr.ren id (by repeat (first | exact trivial | refine ⟨⟨?_, ?_⟩, ?_⟩ | rfl)) (by repeat (first | exact trivial | refine ⟨⟨?_, ?_, ?_⟩, ?_⟩ | rfl)) rfl)
  have hl : 0 ≤ (k : Int) ∧ (k : Int) ≤ 6 := by omega
  have htf := tab_fifths hl
  have htb := tab_bases hl
  have hfb := ftV_bd hl
  have hbb := basV_bd hl
  have e3 : (3 * k + j) / 3 = k := by omega
  have e4 : (3 * k + j) % 3 = j := by omega
  have hN : spN p key (3 * k + j) = (decide (key - 3 ≤ ftV k + 7 * ((j : Int) - 1) ∧ ftV k + 7 * ((j : Int) - 1) ≤ key + 8) && (sndOk k ((j : Int) - 1) ((p - ((j : Int) - 1) - basV k + 12) / 12 - 2) && decide (sndV k ((j : Int) - 1) ((p - ((j : Int) - 1) - basV k + 12) / 12 - 2) = p))) := by
    unfold spN spC spWin spO; rw [e3, e4]
  have hfound : spN p key (3 * k + j) = true → spP p key = some ((k : Int), (j : Int) - 1, (p - ((j : Int) - 1) - basV k + 12) / 12 - 2) := fun h => by
    unfold spP
    rw [find_at hno2 h (by omega)]
    unfold spO
    simp only [Option.map_some, e3, e4]
  have hnext : spN p key (3 * k + j) = false → ∀ m, m < 3 * k + (j + 1) → spN p key m = false := fun h m hm => by
    by_cases e : m = 3 * k + j
    · rw [e]; exact h
    · exact hno2 m (by omega)
  have hS := pSounding_G k ((j : Int) - 1) ((p - ((j : Int) - 1) - basV k + 12) / 12 - 2)
  obtain ⟨fv, hfv⟩ : ∃ z, ftV k = z := ⟨_, rfl⟩
  obtain ⟨bv, hbv⟩ : ∃ z, basV k = z := ⟨_, rfl⟩
  rw [hfv] at htf hfb hN
  rw [hbv] at htb hbb hN hS hfound
  obtain ⟨al, hal⟩ : ∃ z, (j : Int) - 1 = z := ⟨_, rfl⟩
  have hal2 : al + 1 = ((j + 1 : Nat) : Int) - 1 := by omega
  rw [hal] at hN hS hfound ⊢
  by_cases hw : key - 3 ≤ fv + 7 * al ∧ fv + 7 * al ≤ key + 8
  rotate_left
  · rw [decide_eq_false hw, Bool.false_and] at hN
    have hw2 : fv + 7 * al < key - 3 ∨ (¬ fv + 7 * al < key - 3 ∧ key + 8 < fv + 7 * al) := by omega
    rcases hw2 with h | h
    all_goals
      repeat (first | refine W.gob rfl ?_ | refine WL.nil ?_ | refine WL.bt rfl rfl rfl (by omega) ?_ | refine WL.e1 rfl ?_ | refine W.condT rfl ?_)
      refine (?_ : WL _ _ _ _ _ _)
      dsimp only [St.put, Nat.reduceAdd]
      refine WL.glob hB rfl rfl ⟨by omega, by omega⟩ htf rfl ?_
      repeat (first | refine W.gob rfl ?_ | refine WL.nil ?_ | refine WL.bt rfl rfl rfl (by omega) ?_ | refine WL.bf rfl rfl rfl (by omega) ?_ | refine WL.e1 rfl ?_ | refine WL.gyes rfl rfl rfl rfl ?_ | refine WL.opno rfl rfl rfl rfl rfl rfl rfl ?_ | refine WL.ar rfl rfl (by unfold I64; omega) ?_ | refine W.condT rfl ?_)
      dsimp only [St.put, Nat.reduceAdd]
      refine ⟨j + 1, ⟨by omega, hnext hN⟩, by omega, ?_⟩
      rw [← hal2]
      exact (Tr.ren id (by repeat (first | exact trivial | refine ⟨⟨?_, ?_⟩, ?_⟩ | rfl)) (by repeat (first | exact trivial | refine ⟨⟨?_, ?_, ?_⟩, ?_⟩ | rfl)) rfl)
  rw [decide_eq_true hw, Bool.true_and] at hN
  repeat (first | refine W.gob rfl ?_ | refine WL.nil ?_ | refine WL.bt rfl rfl rfl (by omega) ?_ | refine WL.e1 rfl ?_ | refine W.condT rfl ?_)
  refine (?_ : WL _ _ _ _ _ _)
  dsimp only [St.put, Nat.reduceAdd]
  refine WL.glob hB rfl rfl ⟨by omega, by omega⟩ htf rfl ?_
  repeat (first | refine W.gob rfl ?_ | refine WL.nil ?_ | refine WL.bf rfl rfl rfl (by omega) ?_ | refine WL.e1 rfl ?_ | refine WL.gyes rfl rfl rfl rfl ?_ | refine WL.ar rfl rfl (by unfold I64; omega) ?_ | refine W.condF rfl ?_)
  refine (?_ : WL _ _ _ _ _ _)
  dsimp only [St.put, Nat.reduceAdd]
  refine WL.glob hB rfl rfl ⟨by omega, by omega⟩ htb rfl ?_
  repeat (first | refine W.gob rfl ?_ | refine WL.nil ?_ | refine WL.e1 rfl ?_ | refine WL.ar rfl rfl (by unfold I64; omega) ?_ | refine WL.div rfl rfl (by omega) ?_)
  refine (?_ : WL _ _ _ _ _ _)
  dsimp only [St.put, Nat.reduceAdd]
  refine WL.vl rfl (WV.callG hB rfl (callF Tryz.func90 rfl rfl) rfl rfl hS) ?_
  obtain ⟨oc, hoc⟩ : ∃ z, (p - al - bv + 12) / 12 - 2 = z := ⟨_, rfl⟩
  rw [hoc] at hN hfound ⊢
  cases hok : sndOk k al oc with
  | false =>
    rw [hok, Bool.false_and] at hN
    rw [(snd_no hok).1, (snd_no hok).2]
    repeat (first | refine W.gob rfl ?_ | refine WL.nil ?_ | refine WL.bf rfl rfl rfl (by omega) ?_ | refine WL.e1 rfl ?_ | refine WL.opno rfl rfl rfl rfl rfl rfl rfl ?_ | refine WL.ar rfl rfl (by unfold I64; omega) ?_ | refine W.condF rfl ?_)
    dsimp only [St.put, Nat.reduceAdd]
    refine ⟨j + 1, ⟨by omega, hnext hN⟩, by omega, ?_⟩
    rw [← hal2]
    exact (Tr.ren (fun q => q) (by repeat (first | exact trivial | refine ⟨⟨?_, ?_⟩, ?_⟩ | rfl)) (by repeat (first | exact trivial | refine ⟨⟨?_, ?_, ?_⟩, ?_⟩ | rfl | exact congrArg (fun q => some (AO.row _ _ q)) (by first | rfl | (simp; done) | (simp [eInt]; done) | (simp [eLk]; done)))) rfl)
  | true =>
    rw [hok, Bool.true_and] at hN
    rw [(snd_ok hok).1, (snd_ok hok).2]
    by_cases hv : sndV k al oc = p
    · rw [decide_eq_true hv] at hN
      have hr := sp_some hp hk (hfound hN)
      rw [hr.1, hr.2]
      repeat (first | refine W.gob rfl ?_ | refine WL.nil ?_ | refine WL.bt rfl rfl rfl (by omega) ?_ | refine WL.e1 rfl ?_ | refine WL.gyes rfl rfl rfl rfl ?_ | refine W.condT rfl ?_)
      refine (?_ : W _ _ _ _ _)
      dsimp only [St.put, Nat.reduceAdd]
      exact W.ret (finN rfl rfl rfl rfl)
    · rw [decide_eq_false hv] at hN
      repeat (first | refine W.gob rfl ?_ | refine WL.nil ?_ | refine WL.bt rfl rfl rfl (by omega) ?_ | refine WL.bf rfl rfl rfl (by omega) ?_ | refine WL.e1 rfl ?_ | refine WL.gyes rfl rfl rfl rfl ?_ | refine WL.ar rfl rfl (by unfold I64; omega) ?_ | refine W.condF rfl ?_)
      dsimp only [St.put, Nat.reduceAdd]
      refine ⟨j + 1, ⟨by omega, hnext hN⟩, by omega, ?_⟩
      rw [← hal2]
      exact (Tr.ren (fun q => q) (by repeat (first | exact trivial | refine ⟨⟨?_, ?_⟩, ?_⟩ | rfl)) (by repeat (first | exact trivial | refine ⟨⟨?_, ?_, ?_⟩, ?_⟩ | rfl | exact congrArg (fun q => some (AO.row _ _ q)) (by first | rfl | (simp; done) | (simp [eInt]; done) | (simp [eLk]; done)))) rfl)
end Go.Proofs.YtkgnmddakiagbaaGreatDoor
