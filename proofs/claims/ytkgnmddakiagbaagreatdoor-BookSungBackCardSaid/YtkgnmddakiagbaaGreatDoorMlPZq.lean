/- The melody of a piece, and how it begins: the plain part. -/
import Derived.Test.YtkgnmddakiagbaaGreatDoorEHZq
import Derived.Test.YtkgnmddakiagbaaGreatDoorProg
import Derived.Lib.Hide
import Derived.Deep.Draws
import Derived.OwnWalk
import Derived.Maps.AppendAt
import Derived.Deep.AppendLies
import Derived.Laws.OwnMore
import Derived.WalkKit
import Derived.Handy
import Derived.WalkLawsBesides
import Derived.BigQuiet
import Derived.Deep.QuietTactic
import Derived.Deep.RegionHeld3
import Derived.Shelf.Strings.Builder1
import Derived.Shelf.Strings.Builder2
import Derived.Shelf.Small.Strs
import Derived.Shelf.Strings.BuilderF
import Derived.Shelf.Strings.BuilderK
import Derived.Shelf.Strings.Builder2Cap
import Derived.Shelf.Strconv.Itoa0
import Derived.Shelf.Strconv.Itoa1
import Derived.Shelf.LaysM
import Derived.Shelf.Strconv.Itoa2
import Derived.Shelf.Strconv.Itoa3
import Derived.Shelf.Strings.Search1
import Derived.Shelf.Strings.Search2
import Derived.Shelf.Strings.Search3
import Derived.Shelf.Strings.Cut
import Derived.Shelf.Strings.Count
import Derived.Shelf.Strings.Shaped
import Derived.Shelf.Strings.Prefix
import Derived.Shelf.Bits.Mul64
import Derived.Shelf.Strings.Repeat
import Derived.Shelf.Unicode.DecodeSlow
import Derived.Shelf.Strings.BuilderCap
import Derived.Still
import Derived.Lib.FrozenHead
import Derived.Deep.MidRow
import Derived.Lib.ItoaNum
import Derived.Test.YtkgnmddakiagbaaGreatDoorNtPZq
import Derived.RangeFuncNested
import Derived.RangeFuncBound
import Derived.RangeFuncCalls
import Derived.RangeFuncLeaves
import Derived.RangeFuncBox
import Derived.Shelf.Abstract
import Derived.Shelf.RegionOpen
import Derived.OwnWalkIn
import Derived.TacticsInMore
import Derived.LoopNIn
import Derived.LoopIn
import Derived.Deep.RegionWith
import Derived.Test.YtkgnmddakiagbaaGreatDoorGdZq
import Derived.Test.YtkgnmddakiagbaaGreatDoorNt1Zq
set_option linter.unusedVariables false
set_option linter.unusedSimpArgs false
namespace Go.Proofs.YtkgnmddakiagbaaGreatDoor
open Go.RowKit
set_option maxHeartbeats 4000000
set_option maxRecDepth 100000
theorem crsE_p {st : List Int} : ∀ {cs : List (Int × Int × Bool)}, crsE st cs = 0 → ∀ k (h : k < cs.length), 0 ≤ cs[k].1 ∧ cs[k].1 ≤ 127 := by
  intro cs
  induction cs with
  | nil => intro _ k h; simp at h
  | cons x r ih =>
    intro h k hk
    unfold crsE at h
    by_cases h1 : x.2.1 < 0 ∨ (st.length : Int) < x.2.1
    · rw [if_pos h1] at h; cases h
    · rw [if_neg h1] at h
      by_cases h2 : (x.1 < 0 ∨ 127 < x.1) ∨ 127 < topOf st x
      · rw [if_pos h2] at h; cases h
      · rw [if_neg h2] at h
        cases k with
        | zero => simp; omega
        | succ k => simpa using ih h k (by simpa using hk)
theorem stopped_FS (cs : List (Int × Int × Bool)) (st : List Int) (x : Int × Int × Bool) (f : Int) (hx : 0 ≤ x.1 ∧ x.1 ≤ 127) (hf : 0 ≤ f ∧ f ≤ st.length) (hl : st.length ≤ 18) (hs : ∀ k (h : k < st.length), 1 ≤ st[k] ∧ st[k] ≤ 127) :
    Ctr Tryz.prog 187 [.ag (eIns cs st), .ag (eCrs x), .sc (.int .i64 f)] (.sc (.int .i64 (x.1 + if 0 < f then st.getD (f - 1).toNat 0 else 0))) := by
  refine Ctr.intro Tryz.func187 rfl Tryz.ntmps187 (Nat.le_of_ble_eq_true rfl) (bd_all rfl) fun w0 F0 => ?_; dsimp only [St.init, number, Nat.reduceAdd]
  by_cases h0 : f = 0
  · subst h0
    have e0 : x.1 + (if (0 : Int) < 0 then st.getD ((0 : Int) - 1).toNat 0 else 0) = x.1 := by simp
    rw [e0]
    repeat (first | refine W.go rfl ?_ | refine W.condT rfl ?_)
    refine (?_ : W _ _ _ _ _)
    dsimp only [St.put, Nat.reduceAdd]
    exact W.ret (fin1 rfl rfl rfl rfl)
  · have hlt : (f - 1).toNat < st.length := by omega
    have hs1 := hs _ hlt
    have hg : st.getD (f - 1).toNat 0 = st[(f - 1).toNat] := by rw [List.getD_eq_getElem?_getD, List.getElem?_eq_getElem hlt]; rfl
    rw [if_pos (by omega), hg]
    repeat (first | refine W.gob rfl ?_ | refine WL.nil ?_ | refine WL.bf rfl rfl rfl (by omega) ?_ | refine WL.e1 rfl ?_ | refine W.condF rfl ?_)
    refine (?_ : W _ _ _ _ _)
    dsimp only [St.put, Nat.reduceAdd]
    refine W.drawK (by kernel_rfl) (by kernel_rfl) ?_
    repeat (first | refine DK.st rfl ?_ | refine DK.ar rfl rfl (by unfold I64; omega) ?_ | refine DK.idx rfl rfl (by omega) (by first | exact map_at (by omega) | exact map_atZ (by omega) (by omega)) ?_ | refine DK.nil ?_)
    refine (?_ : W _ _ _ _ _)
    dsimp only [St.put, Nat.reduceAdd]
    exact W.ret (fin1 rfl rfl rfl rfl)
theorem pAt_FS (cs : List (Int × Int × Bool)) (st : List Int) (c f : Int) (hI : insE cs st = 0) (hc : 1 ≤ c ∧ c ≤ cs.length) (hf : 0 ≤ f ∧ f ≤ fretsOf cs c) :
    Ctr Tryz.prog 156 [.ag (eIns cs st), .ag [.sc (.int .i64 c), .sc (.int .i64 f)]] (.tu [.sc (.int .i64 (pitN cs st c f)), .sc (.int .i64 0)]) := by
  obtain ⟨l1, l2, l3, l4, l5⟩ := insE_len hI
  have hC := pInsCheck_FS cs st
  rw [hI] at hC
  have hk : (c - 1).toNat < cs.length := by omega
  have hfr := crsE_fr l5 _ hk
  have hp := crsE_p l5 _ hk
  have ef : fretsOf cs c = cs[(c - 1).toNat].2.1 := by
    have := fretsOf_at hk
    rw [← this]; congr 1; omega
  rw [ef] at hf
  have ep : pitN cs st c f = cs[(c - 1).toNat].1 + if 0 < f then st.getD (f - 1).toNat 0 else 0 := by
    unfold pitN
    rw [List.getD_eq_getElem?_getD, List.getElem?_eq_getElem hk]; rfl
  rw [ep]
  have hS := stopped_FS cs st cs[(c - 1).toNat] f hp ⟨hf.1, by omega⟩ l3 (stepsBad_bd (Int.le_refl 0) l4)
  refine Ctr.intro Tryz.func156 rfl Tryz.ntmps156 (Nat.le_of_ble_eq_true rfl) (bd_all rfl) fun w0 F0 => ?_; dsimp only [St.init, number, Nat.reduceAdd]
  repeat refine W.go rfl ?_
  refine (?_ : WL _ _ _ _ _ _)
  dsimp only [St.put, Nat.reduceAdd]
  refine WL.vl rfl (WV.call rfl (callF Tryz.func116 rfl rfl) rfl rfl hC) ?_
  repeat (first | refine W.gob rfl ?_ | refine WL.nil ?_ | refine WL.bf rfl rfl rfl (by omega) ?_ | refine WL.nf rfl rfl rfl (by omega) ?_ | refine WL.e1 rfl ?_ | refine WL.gyes rfl rfl rfl rfl ?_ | refine WL.ar rfl rfl (by unfold I64; omega) ?_ | refine WL.len rfl rfl (by first | exact List.length_map _ | exact List.length_replicate | rfl) ?_ | refine WL.idx rfl rfl (by omega) (by first | exact map_at (by omega) | exact map_atZ (by omega) (by omega)) ?_ | refine W.condF rfl ?_)
  refine (?_ : WL _ _ _ _ _ _)
  dsimp only [St.put, Nat.reduceAdd]
  refine WL.vl rfl (WV.call rfl (callF Tryz.func187 rfl rfl) rfl rfl hS) ?_
  repeat (first | refine WL.nil ?_ | refine WL.e1 rfl ?_)
  refine (?_ : W _ _ _ _ _)
  dsimp only [St.put, Nat.reduceAdd]
  exact W.ret (fin2 rfl rfl rfl rfl rfl rfl rfl)
end Go.Proofs.YtkgnmddakiagbaaGreatDoor
namespace Go.Proofs.YtkgnmddakiagbaaGreatDoor
open Go.RowKit
def upP (n q : Int) : Int := if n < 0 ∨ n < q then q else n
def maxP (p : Pce) (l : List Stp) (n : Int) : Int := l.foldl (fun n x => upP n (pitN p.cs p.st x.1 x.2.1)) n
def melR (p : Pce) : List Int := p.evs.map fun e => maxP p e.stops (-1)
def melS (out : List Int) (n : Nt) : List Int := out.set n.1.toNat (upP (out.getD n.1.toNat 0) n.2.2.1)
theorem melS_length (l : List Nt) : ∀ out, (l.foldl melS out).length = out.length := by
  induction l with
  | nil => intro out; rfl
  | cons n r ih => intro out; rw [List.foldl_cons, ih]; simp [melS]
theorem melS_event (p : Pce) (k : Nat) : ∀ (l : List Stp) (out : List Int) (v : Int), out[k]? = some v → (l.map (noteR p k)).foldl melS out = out.set k (maxP p l v) := by
  intro l
  induction l with
  | nil =>
    intro out v h
    apply List.ext_getElem?
    intro i
    rw [List.getElem?_set]
    by_cases e : k = i
    · subst e
      have hlt := (List.getElem?_eq_some_iff.1 h).1
      rw [List.getElem?_eq_getElem hlt] at h
      simp [maxP, hlt, Option.some.inj h]
    · simp [e]
  | cons x r ih =>
    intro out v h
    have hlt := (List.getElem?_eq_some_iff.1 h).1
    rw [List.map_cons, List.foldl_cons]
    have e1 : melS out (noteR p k x) = out.set k (upP v (pitN p.cs p.st x.1 x.2.1)) := by
      unfold melS noteR valN
      simp [h]
    rw [e1, ih _ (upP v (pitN p.cs p.st x.1 x.2.1)) (by simp [hlt])]
    rw [List.set_set]; rfl
theorem mel_notes (p : Pce) : ∀ m, m ≤ p.evs.length → (notesR p m).foldl melS (List.replicate p.evs.length (-1)) = ((p.evs.take m).map fun e => maxP p e.stops (-1)) ++ List.replicate (p.evs.length - m) (-1) := by
  intro m
  induction m with
  | zero => intro _; simp [notesR]
  | succ m ih =>
    intro hm
    have hm' : m < p.evs.length := by omega
    have e1 : notesR p (m + 1) = notesR p m ++ p.evs[m].stops.map (noteR p m) := by
      show (match p.evs[m]? with | some e => _ | none => _) = _
      rw [List.getElem?_eq_getElem hm']
    rw [e1, List.foldl_append, ih (by omega), melS_event p m p.evs[m].stops _ (-1) ?_]
    · rw [List.take_succ_eq_append_getElem hm', List.map_append, List.set_append_right _ _ (by simp; omega)]
      have : m - ((p.evs.take m).map fun e => maxP p e.stops (-1)).length = 0 := by simp; omega
      rw [this, show p.evs.length - m = (p.evs.length - (m + 1)) + 1 by omega, List.replicate_succ]
      simp
    · rw [List.getElem?_append_right (by simp; omega)]
      have : m - ((p.evs.take m).map fun e => maxP p e.stops (-1)).length = 0 := by simp; omega
      rw [this, List.getElem?_replicate, if_pos (by omega)]
theorem mel_all (p : Pce) : (notesR p p.evs.length).foldl melS (List.replicate p.evs.length (-1)) = melR p := by
  rw [mel_notes p _ (Nat.le_refl _)]; simp [melR]
def difs : List Int → List Int
  | x :: y :: r => (y - x) :: difs (y :: r)
  | _ => []
theorem difs_length : ∀ l, (difs l).length = l.length - 1
  | [] => rfl
  | [x] => rfl
  | x :: y :: r => by
    have := difs_length (y :: r)
    simp only [difs, List.length_cons] at this ⊢
    omega
theorem difs_at : ∀ (l : List Int) (i : Nat) (h : i + 1 < l.length), (difs l)[i]? = some (l[i + 1] - l[i])
  | [], i, h => by simp at h
  | [x], i, h => by simp at h
  | x :: y :: r, 0, h => rfl
  | x :: y :: r, i + 1, h => by
    have := difs_at (y :: r) i (by simpa using h)
    simpa [difs] using this
theorem difs_take {l : List Int} {i : Nat} (h : i + 1 < l.length) : (difs l).take (i + 1) = (difs l).take i ++ [l[i + 1] - l[i]] := by
  have h1 := difs_at l i h
  have hlt := (List.getElem?_eq_some_iff.1 h1).1
  rw [List.take_succ_eq_append_getElem hlt]
  rw [List.getElem?_eq_getElem hlt] at h1
  rw [Option.some.inj h1]
def sungR (p : Pce) : List Int := (melR p).filter fun x => !decide (x < 0)
def incR (p : Pce) (n : Int) : List Int := (difs (sungR p)).take n.toNat
end Go.Proofs.YtkgnmddakiagbaaGreatDoor
