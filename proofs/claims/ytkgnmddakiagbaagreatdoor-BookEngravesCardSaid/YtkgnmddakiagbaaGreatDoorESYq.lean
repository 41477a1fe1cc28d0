/- Equal things are found equal, over trees: the reference. -/
import Derived.Test.YtkgnmddakiagbaaGreatDoorSayYq
import Derived.Test.YtkgnmddakiagbaaGreatDoorBigYq
import Derived.Laws.StructEq
set_option linter.unusedVariables false
set_option linter.unusedSimpArgs false
namespace Go.Proofs.YtkgnmddakiagbaaGreatDoor
open Go.RowKit
def lkIf (ok : Bool) (i c what : Int) : List Lck := if ok then [] else [(i, c, what)]
def hasS (s n : Int) : Bool := if s = 3 then n != 8 else if s = 4 then n == 8 else true
def lackStop (s i : Int) (L : Int → Nat) (x : Stp) : List Lck :=
  if pOk s x.1 x.2.1 = false then [(i, x.1, 1)] else lkIf (okR s x.2.2.1) i x.1 2 ++ (lkIf (okG s x.2.2.2.1) i x.1 3 ++ lkIf (okH s x.2.2.2.2 (L x.1)) i x.1 4)
def lackHead (s i : Int) (e : Ev) : List Lck :=
  (if e.val = 0 then lkIf (hasS s 6) i 0 6 else []) ++ ((if e.three = true then lkIf (hasS s 5) i 0 5 else []) ++ (if e.tie = true then lkIf (hasS s 7) i 0 7 else if e.stops.length = 0 then lkIf (hasS s 8) i 0 8 else []))
def lackE (s : Int) (p : Pce) (i : Int) (e : Ev) : List Lck := lackHead s i e ++ e.stops.flatMap (lackStop s i fun c => longestN p.evs i c)
theorem lkIf_len (ok : Bool) (i c what : Int) : (lkIf ok i c what).length ≤ 1 := by unfold lkIf; split <;> simp
theorem lackStop_len (s i : Int) (L : Int → Nat) (x : Stp) : (lackStop s i L x).length ≤ 3 := by
  unfold lackStop
  split
  · simp
  · have a := lkIf_len (okR s x.2.2.1) i x.1 2
    have b := lkIf_len (okG s x.2.2.2.1) i x.1 3
    have c := lkIf_len (okH s x.2.2.2.2 (L x.1)) i x.1 4
    simp only [List.length_append]; omega
theorem flat_len (s i : Int) (L : Int → Nat) : ∀ l : List Stp, (l.flatMap (lackStop s i L)).length ≤ 3 * l.length := by
  intro l
  induction l with
  | nil => simp
  | cons x r ih => have := lackStop_len s i L x; simp only [List.flatMap_cons, List.length_append, List.length_cons]; omega
theorem flat_snoc (s i : Int) (L : Int → Nat) (l : List Stp) (k : Nat) (h : k < l.length) : (l.take (k + 1)).flatMap (lackStop s i L) = (l.take k).flatMap (lackStop s i L) ++ lackStop s i L l[k] := by
  rw [List.take_succ_eq_append_getElem h, List.flatMap_append]; simp
theorem say_any (ok : Bool) (c what ev : Int) (b be B0 : Nat) (l : List Lck) (w : World) (h : SayAt w B0 b l) (hev : w.cell? ⟨be, 0, none⟩ = some (.int .i64 ev)) (hb : b < B0) (hB : B0 ≤ w.heap.size) (hl : l.length ≤ 32000) :
    Calls Tryz.prog 184 #[.bool ok, .int .i64 c, .int .i64 what, .pointer (some ⟨b, 0, none⟩), .pointer (some ⟨be, 0, none⟩)] w (SayPost B0 b (l ++ lkIf ok ev c what) w) := by
  cases ok
  · exact say_no c what ev b be B0 l w h hev hb hB hl
  · have e : l ++ lkIf true ev c what = l := by simp [lkIf]
    rw [e]; exact say_ok c what b be B0 l w h
structure LkSt (w : World) (P E : Array Value) (i : Int) (l : List Lck) (wx : World) : Prop where
  bel : Below w.heap.size w wx
  bp : Blk wx w.heap.size 29 P
  bi : Blk wx (w.heap.size + 1) 3 #[.int .i64 i]
  be : Blk wx (w.heap.size + 3) 78 E
  say : SayAt wx (w.heap.size + 3) (w.heap.size + 2) l
theorem LkSt.after {w wx w' : World} {P E : Array Value} {i : Int} {l : List Lck} (h : LkSt w P E i l wx) (hb : Below wx.heap.size wx w') : LkSt w P E i l w' :=
  ⟨h.bel.trans (hb.mono h.bel.size), h.bp.after hb, h.bi.after hb, h.be.after hb, h.say.after hb⟩
theorem LkSt.said {w wx w' : World} {P E : Array Value} {i : Int} {l l' : List Lck} {e : Ending} (h : LkSt w P E i l wx) (hb : SayPost (w.heap.size + 3) (w.heap.size + 2) l' wx e w') : LkSt w P E i l' w' :=
  ⟨h.bel.trans (hb.2.2.1.mono (by omega)), hb.2.2.2.2 _ _ _ h.bp (by omega) (by decide), hb.2.2.2.2 _ _ _ h.bi (by omega) (by decide), hb.2.2.2.2 _ _ _ h.be (by omega) (by decide), hb.2.1⟩
theorem LkSt.ask {w wx : World} {P E : Array Value} {i : Int} {l : List Lck} (h : LkSt w P E i l wx) (ok : Bool) (c what : Int) (hl : l.length ≤ 32000) :
    Calls Tryz.prog 184 #[.bool ok, .int .i64 c, .int .i64 what, .pointer (some ⟨w.heap.size + 2, 0, none⟩), .pointer (some ⟨w.heap.size + 1, 0, none⟩)] wx (SayPost (w.heap.size + 3) (w.heap.size + 2) (l ++ lkIf ok i c what) wx) :=
  say_any ok c what i _ _ _ l wx h.say (h.bi.cell 0) (by omega) (Nat.le_of_lt h.be.lt) hl
def StopsIn (e : Ev) : Prop :=
  ∀ k (h : k < e.stops.length), (1 ≤ e.stops[k].1 ∧ e.stops[k].1 ≤ 14) ∧ (0 ≤ e.stops[k].2.1 ∧ e.stops[k].2.1 ≤ 18) ∧ (0 ≤ e.stops[k].2.2.1 ∧ e.stops[k].2.2.1 ≤ 3) ∧ (0 ≤ e.stops[k].2.2.2.1 ∧ e.stops[k].2.2.2.1 ≤ 4) ∧ (0 ≤ e.stops[k].2.2.2.2 ∧ e.stops[k].2.2.2.2 ≤ 15)
def LkPost (l : List Lck) (W : World) (e : Ending) (w' : World) : Prop :=
  ∃ A d, e = .returned (.slice A l.length d) ∧ Below W.heap.size W w' ∧ Rd w' w'.heap.size 3 A (l.map lckCells) ∧ (∀ ad, A = some ad → W.heap.size ≤ ad.block) ∧ l.length ≤ d
def lk1 (s i v : Int) : List Lck := if v = 0 then lkIf (hasS s 6) i 0 6 else []
def lk2 (s i : Int) (t : Bool) : List Lck := if t = true then lkIf (hasS s 5) i 0 5 else []
def lk3 (s i : Int) (t : Bool) (n : Nat) : List Lck := if t = true then lkIf (hasS s 7) i 0 7 else if n = 0 then lkIf (hasS s 8) i 0 8 else []
theorem lk1_len (s i v : Int) : (lk1 s i v).length ≤ 1 := by unfold lk1; split; exact lkIf_len _ _ _ _; simp
theorem lk2_len (s i : Int) (t : Bool) : (lk2 s i t).length ≤ 1 := by unfold lk2; split; exact lkIf_len _ _ _ _; simp
theorem lk3_len (s i : Int) (t : Bool) (n : Nat) : (lk3 s i t n).length ≤ 1 := by
  unfold lk3; split
  · exact lkIf_len _ _ _ _
  · split; exact lkIf_len _ _ _ _; simp
theorem lackE_eq (s : Int) (p : Pce) (i : Int) (e : Ev) : lackE s p i e = (lk1 s i e.val ++ (lk2 s i e.three ++ lk3 s i e.tie e.stops.length)) ++ e.stops.flatMap (lackStop s i fun c => longestN p.evs i c) := rfl
def lkW (w : World) (P E : Array Value) (i : Int) : World := (((w.alloc (.cells P 29)).alloc (.cells #[.int .i64 i] 3)).alloc (.cells #[.slice none 0 0] 103)).alloc (.cells E 78)
theorem LkSt.start (w : World) (P E : Array Value) (i : Int) : LkSt w P E i [] (lkW w P E i) := by
  have n1 : ∀ (w : World) (o : Obj), (w.alloc o).heap.size = w.heap.size + 1 := fun w o => by simp
  unfold lkW
  have b0 := ((((Blk.new w 29 P).alloc (.cells #[.int .i64 i] 3)).alloc (.cells #[.slice none 0 0] 103)).alloc (.cells E 78))
  have b1 := (((Blk.new (w.alloc (.cells P 29)) 3 #[.int .i64 i]).alloc (.cells #[.slice none 0 0] 103)).alloc (.cells E 78))
  have b2 := ((Blk.new ((w.alloc (.cells P 29)).alloc (.cells #[.int .i64 i] 3)) 103 #[.slice none 0 0]).alloc (.cells E 78))
  have b3 := (Blk.new (((w.alloc (.cells P 29)).alloc (.cells #[.int .i64 i] 3)).alloc (.cells #[.slice none 0 0] 103)) 78 E)
  rw [n1] at b1
  rw [n1, n1] at b2
  rw [n1, n1, n1] at b3
  exact ⟨(by repeat (first | exact Below.refl _ _ | assumption | refine bel_drewN ?_ _ | refine Below.drew ?_ | refine bel_alloc ?_ _ | refine Below.setCell ?_ (by first | omega | (simp; done) | (simp; omega)) _ | refine bel_step ?_ (by assumption))), b0, b1, b3, SayAt.start _ _ _ b2⟩
end Go.Proofs.YtkgnmddakiagbaaGreatDoor
namespace Go.Proofs.YtkgnmddakiagbaaGreatDoor
open Go.RowKit
set_option maxRecDepth 100000
set_option maxHeartbeats 4000000
def eLk (x : Lck) : List AV := [.sc (.int .i64 x.1), .sc (.int .i64 x.2.1), .sc (.int .i64 x.2.2)]
end Go.Proofs.YtkgnmddakiagbaaGreatDoor
