/- The reference's Sing. -/
import Derived.Test.YtkgnmddakiagbaaGreatDoorBwZq
import Derived.Test.YtkgnmddakiagbaaGreatDoorProg
import Derived.Lib.Hide
import Derived.Deep.RegionHeld3
import Derived.Deep.MidRow
import Derived.Deep.Draws
import Derived.OwnWalk
import Derived.Maps.AppendAt
import Derived.Deep.AppendLies
import Derived.Laws.OwnMore
import Derived.WalkKit
import Derived.Handy
import Derived.WalkLawsBesides
import Derived.BigQuiet
import Derived.Deep.QuietTactic
import Derived.Shelf.Strings.Builder1
import Derived.Shelf.Strings.Builder2
import Derived.Shelf.Small.Strs
import Derived.Shelf.Strings.BuilderF
import Derived.Shelf.Strings.BuilderK
import Derived.Shelf.Strings.Builder2Cap
import Derived.Shelf.Strconv.Itoa0
import Derived.Shelf.Strconv.Itoa1
import Derived.Shelf.LaysM
import Derived.Shelf.Strconv.Itoa2
import Derived.Shelf.Strconv.Itoa3
import Derived.Shelf.Strings.Search1
import Derived.Shelf.Strings.Search2
import Derived.Shelf.Strings.Search3
import Derived.Shelf.Strings.Cut
import Derived.Shelf.Strings.Count
import Derived.Shelf.Strings.Shaped
import Derived.Shelf.Strings.Prefix
import Derived.Shelf.Bits.Mul64
import Derived.Shelf.Strings.Repeat
import Derived.Shelf.Unicode.DecodeSlow
import Derived.Shelf.Strings.BuilderCap
import Derived.Still
import Derived.Lib.FrozenHead
import Derived.Test.YtkgnmddakiagbaaGreatDoorCoPZq
import Derived.Deep.Slices
import Derived.Deep.Fields
import Derived.ReadAgain
import Derived.Below
import Derived.ChangeSame
import Derived.Lib.SmallJoins
import Derived.Test.YtkgnmddakiagbaaGreatDoorEGZq
import Derived.Test.YtkgnmddakiagbaaGreatDoorEHZq
import Derived.Lib.ItoaNum
import Derived.Test.YtkgnmddakiagbaaGreatDoorPSgZq
import Derived.Laws.StructEq
import Derived.Deep.RegionWith
import Derived.Deep.DeepCutAuto
import Derived.Test.YtkgnmddakiagbaaGreatDoorEdAZq
import Derived.RangeFuncNested
import Derived.RangeFuncBound
import Derived.RangeFuncCalls
import Derived.RangeFuncLeaves
import Derived.RangeFuncBox
import Derived.Shelf.Abstract
import Derived.Shelf.RegionOpen
import Derived.OwnWalkIn
import Derived.TacticsInMore
import Derived.LoopNIn
import Derived.LoopIn
import Derived.WideKeyRuns
import Derived.DeepKeys3
import Derived.Test.YtkgnmddakiagbaaGreatDoorSrZq
import Derived.Shelf.Strings.OnBuilder
import Derived.Test.YtkgnmddakiagbaaGreatDoorLinZq
set_option linter.unusedVariables false
set_option linter.unusedSimpArgs false
namespace Go.Proofs.YtkgnmddakiagbaaGreatDoor
open Go.RowKit Go.WideShapes Go.ChangeShapes Go.Joins Go.Deep
set_option maxRecDepth 100000
section
variable {H : Type} {enc : TypeId × Value → H} {w : World} {base : Nat} {spare : Nat → Bool} {held : Bool}
theorem open_rows_rp {α : Type} {T e : TypeId} {m n : Nat} {en : α → List AV} {v : Value} {x : DataW H × List MemPlace} (hu : Tryz.prog.underlying T = some (.slice e)) (hc : Tryz.prog.cellsOf e = m) (hlen : ∀ a, (en a).length = m)
    (hel : ∀ (k : Nat) (cs : List Value) (y : DataW H × List MemPlace), DataW.trod enc Tryz.prog w base spare held k e cs = some y → cs.length = m → ∃ a : α, ∀ (j : Nat) av u, (en a)[j]? = some av → cs[j]? = some u → u.oneCell' = true ∧ RP (fun q => w.cell? q) av u)
    (h : DataW.trod enc Tryz.prog w base spare held n T [v] = some x) : ∃ l : List α, RP (fun q => w.cell? q) (.ls m (l.map en)) v := by
  rcases open_slice (P := Tryz.prog) hu h with ⟨h0, _⟩ | ⟨a, len, cap, mm, n', D, Pl, hcs, hb, hl, hm, hmm, _, hi⟩
  · obtain rfl : v = .slice none 0 0 := by simpa using h0
    exact ⟨[], .ls m [] none 0 ⟨0, 0, none⟩ (fun _ _ => undef) (by simp) (by simp) (fun h => absurd h (by simp)) (fun i r j av h => by simp at h) (fun i r j av h => by simp at h)⟩
  · obtain rfl : v = .slice (some a) len cap := by simpa using hcs
    have hlm : len ≤ mm := by rw [hmm]; split <;> omega
    obtain ⟨l, hll, hq⟩ := list_of (Q := fun i (x : α × List Value) => (∀ j, j < m → ∃ u, x.2[j]? = some u ∧ w.cell? (a.add (i * m + j)) = some u) ∧ ∀ (j : Nat) av u, (en x.1)[j]? = some av → x.2[j]? = some u → u.oneCell' = true ∧ RP (fun q => w.cell? q) av u) len (fun i hil => by
      obtain ⟨cs', hc', ht'⟩ := hi i (by omega)
      rw [hc] at hc'
      obtain ⟨_, hcl, hat⟩ := World.cells?_some hc'
      obtain ⟨b, hb2⟩ := hel _ _ _ ht' hcl
      refine ⟨(b, cs'), fun j hj => ?_, hb2⟩
      have := hat j hj
      rw [add_of_add] at this
      exact ⟨cs'[j]'(by omega), List.getElem?_eq_getElem _, by rw [this]; exact List.getElem?_eq_getElem _⟩)
    refine ⟨l.map (·.1), ?_⟩
    have hlm2 : len = ((l.map (·.1)).map en).length := by simp [hll]
    have key : ∀ (i : Nat) r (j : Nat) av, ((l.map (·.1)).map en)[i]? = some r → r[j]? = some av → ∃ x u, l[i]? = some x ∧ x.2[j]? = some u ∧ w.cell? (a.add (i * m + j)) = some u ∧ u.oneCell' = true ∧ RP (fun q => w.cell? q) av u := fun i r j av hr hav => by
      rw [List.map_map, List.getElem?_map] at hr
      cases hx : l[i]? with
      | none => simp [hx] at hr
      | some x =>
        rw [hx] at hr
        obtain rfl : en x.1 = r := by simpa using hr
        obtain ⟨hkl, hkx⟩ := List.getElem?_eq_some_iff.1 hx
        have q := hq i hkl
        rw [hkx] at q
        have hj : j < m := by have := (List.getElem?_eq_some_iff.1 hav).1; rw [hlen] at this; exact this
        obtain ⟨u, hu1, hu2⟩ := q.1 j hj
        obtain ⟨q1, q2⟩ := q.2 j av u hav hu1
        exact ⟨x, u, rfl, hu1, hu2, q1, q2⟩
    rw [hlm2]
    refine .ls m _ (some a) cap a (fun i j => ((l[i]?).bind fun x => x.2[j]?).getD undef) (by rw [← hlm2]; exact hl) (fun r hr => ?_) (fun _ => rfl) (fun i r j av hr hav => ?_) (fun i r j av hr hav => ?_)
    · obtain ⟨x, _, rfl⟩ := List.mem_map.1 hr; exact hlen x
    · obtain ⟨x, u, h1, h2, h3, h4, _⟩ := key i r j av hr hav
      simp only [h1, Option.bind_some, h2, Option.getD_some]
      exact ⟨h3, h4⟩
    · obtain ⟨x, u, h1, h2, _, _, h5⟩ := key i r j av hr hav
      simp only [h1, Option.bind_some, h2, Option.getD_some]
      exact h5
theorem open_intcell {k : Nat} {u : Value} {y : Option (DataW H × List MemPlace)} (h : DataW.trod enc Tryz.prog w base spare held k 3 [u] = y) (hy : y.isSome = true) : ∃ z : Int, u = .int .i64 z := by
  obtain ⟨y, rfl⟩ := Option.isSome_iff_exists.1 hy
  obtain ⟨z, e, _⟩ := DataW.trod_int Tryz.underlying3 h
  exact ⟨z, by simpa using e⟩
theorem open_ints_rp {n : Nat} {v : Value} {x : DataW H × List MemPlace} (h : DataW.trod enc Tryz.prog w base spare held n 24 [v] = some x) : ∃ l : List Int, RP (fun q => w.cell? q) (.ls 1 (l.map eInt)) v :=
  open_rows_rp (en := eInt) Tryz.underlying24 cellsInt (fun _ => rfl) (fun k cs y hy hl => by
    match cs, hl with
    | [u0], _ =>
      obtain ⟨z, rfl⟩ := open_intcell hy rfl
      refine ⟨z, fun j av u a b => ?_⟩
      match j with
      | 0 => cases a; cases b; exact ⟨rfl, .sc _⟩
      | j + 1 => simp [eInt] at a) h
end
end Go.Proofs.YtkgnmddakiagbaaGreatDoor
namespace Go.Proofs.YtkgnmddakiagbaaGreatDoor
open Go.RowKit
set_option maxRecDepth 100000
set_option maxHeartbeats 8000000
structure En where
  t : List UInt8
  s : Int
  p : Pce
structure BkOk (b : List En) : Prop where
  n : b.length ≤ 70
  p : ∀ k (h : k < b.length), PcOk b[k].p
  t : ∀ k (h : k < b.length), b[k].t.length ≤ 1000
end Go.Proofs.YtkgnmddakiagbaaGreatDoor
namespace Go.Proofs.YtkgnmddakiagbaaGreatDoor
open Go.RowKit Go.WideShapes Go.ChangeShapes Go.Joins Go.Deep
set_option maxRecDepth 100000
section
variable {H : Type} {enc : TypeId × Value → H} {w : World} {base : Nat} {spare : Nat → Bool} {held : Bool}
theorem cellsStaffed : Tryz.prog.cellsOf 122 = 4 := by kernel_rfl
theorem open_staffed_rp {n : Nat} {v : Value} {x : DataW H × List MemPlace} (h : DataW.trod enc Tryz.prog w base spare held n 41 [v] = some x) : ∃ l : List Sf, RP (fun q => w.cell? q) (.ls 4 (l.map eSf)) v :=
  open_rows_rp (en := eSf) Tryz.underlying41 cellsStaffed (fun _ => rfl) (fun k cs y hy hl => by
    match cs, hl with
    | [u0, u1, u2, u3], _ =>
      obtain ⟨ys, n2, _, _, _, hys, hf⟩ := DataW.trod_struct Tryz.underlying122 hy
      have f0 : DataW.trod enc Tryz.prog w base spare held n2 3 [u0] = ys[0]? := by simpa [cellsInt] using hf 0 _ rfl
      have f1 : DataW.trod enc Tryz.prog w base spare held n2 3 [u1] = ys[1]? := by simpa [cellsInt] using hf 1 _ rfl
      have f2 : DataW.trod enc Tryz.prog w base spare held n2 3 [u2] = ys[2]? := by simpa [cellsInt] using hf 2 _ rfl
      have f3 : DataW.trod enc Tryz.prog w base spare held n2 3 [u3] = ys[3]? := by simpa [cellsInt] using hf 3 _ rfl
      have gy : ∀ j, j < 4 → (ys[j]?).isSome = true := fun j hj => by rw [List.getElem?_eq_getElem (by rw [hys]; exact hj)]; rfl
      obtain ⟨z0, rfl⟩ := open_intcell f0 (gy 0 (by omega))
      obtain ⟨z1, rfl⟩ := open_intcell f1 (gy 1 (by omega))
      obtain ⟨z2, rfl⟩ := open_intcell f2 (gy 2 (by omega))
      obtain ⟨z3, rfl⟩ := open_intcell f3 (gy 3 (by omega))
      refine ⟨(z0, z1, z2, z3), fun j av u a b => ?_⟩
      match j with
      | 0 => cases a; cases b; exact ⟨rfl, .sc _⟩
      | 1 => cases a; cases b; exact ⟨rfl, .sc _⟩
      | 2 => cases a; cases b; exact ⟨rfl, .sc _⟩
      | 3 => cases a; cases b; exact ⟨rfl, .sc _⟩
      | j + 4 => simp [eSf] at a) h
theorem open_staffed_arg {r : Reach} {b0 : Nat} {v : Value} {d : DataW H} {p : List MemPlace} (hv : Value.okWide Tryz.prog w r b0 41 v) (h : DataW.Trod enc Tryz.prog w base spare held 41 v d p) :
    ∃ l : List Sf, RP (fun q => w.cell? q) (.ls 4 (l.map eSf)) v := by
  obtain ⟨a0, len, cap, rfl⟩ := okWide_slice Tryz.underlying41 hv
  obtain ⟨fuel, hf⟩ := h
  exact open_staffed_rp (by simpa [Value.cells] using hf)
theorem open_ints_arg {r : Reach} {b0 : Nat} {v : Value} {d : DataW H} {p : List MemPlace} (hv : Value.okWide Tryz.prog w r b0 24 v) (h : DataW.Trod enc Tryz.prog w base spare held 24 v d p) :
    ∃ l : List Int, RP (fun q => w.cell? q) (.ls 1 (l.map eInt)) v := by
  obtain ⟨a0, len, cap, rfl⟩ := okWide_slice Tryz.underlying24 hv
  obtain ⟨fuel, hf⟩ := h
  exact open_ints_rp (by simpa [Value.cells] using hf)
end
end Go.Proofs.YtkgnmddakiagbaaGreatDoor
namespace Go.Proofs.YtkgnmddakiagbaaGreatDoor
open Go.RowKit
set_option maxRecDepth 100000
set_option maxHeartbeats 4000000
theorem rAlter_FS (a : Int) (h : 0 ≤ a ∧ a ≤ 3) : Ctr Tryz.prog 91 [.sc (.int .i64 a)] (.sc (.int .i64 (altA a))) := by
  have h4 : a = 0 ∨ a = 1 ∨ a = 2 ∨ a = 3 := by omega
  rcases h4 with h | h | h | h
  all_goals
    subst h
    refine Ctr.intro Tryz.func91 rfl Tryz.ntmps91 (Nat.le_of_ble_eq_true rfl) (bd_all rfl) fun w0 F0 => ?_; dsimp only [St.init, number, Nat.reduceAdd]
    repeat (first | refine W.go rfl ?_ | refine WL.ev rfl ?_ | refine WL.ixs rfl rfl (by first | omega | (simp; done) | (simp; omega)) ?_)
    refine (?_ : W _ _ _ _ _)
    dsimp only [St.put, Nat.reduceAdd]
    exact W.ret (fin1 rfl rfl rfl rfl)
theorem rMeasure_FS (l : List Int) (hl : l.length ≤ 1000000) (ev : Int) : Ctr Tryz.prog 80 [.ls 1 (l.map eInt), .sc (.int .i64 ev)] (.sc (.int .i64 (cntS ev l : Nat))) := by
  refine Ctr.intro Tryz.func80 rfl Tryz.ntmps80 (Nat.le_of_ble_eq_true rfl) (bd_all rfl) fun w0 F0 => ?_; dsimp only [St.init, number, Nat.reduceAdd]
  repeat refine W.go rfl ?_
  refine (?_ : W _ _ _ _ _)
  refine W.loop (fun k : Nat => k ≤ l.length) (fun k => ⟨[(0, .ls 1 (l.map eInt)), (1, .sc (.int .i64 ev)), (5, .sc (.int .i64 (cntS ev (l.take k) : Nat))), (6, .sc (.int .i64 k))], [], 0⟩) (fun k => l.length - k) 0 (by omega) (Tr.ren id (by repeat (first | exact trivial | refine ⟨⟨?_, ?_⟩, ?_⟩ | rfl)) (by repeat (first | exact trivial | refine ⟨⟨?_, ?_, ?_⟩, ?_⟩ | rfl)) rfl) fun k hk => ?_
  by_cases hlt : k < l.length
  · have hc := cntS_take (ev := ev) hlt
    have hle := cntS_le ev (l.take k)
    rw [List.length_take] at hle
    obtain ⟨x, hx⟩ : ∃ x, l[k] = x := ⟨_, rfl⟩
    rw [hx] at hc
    by_cases h2 : x ≤ ev
    · rw [if_pos h2] at hc
      rw [← hx] at h2
      repeat (first | refine W.gob rfl ?_ | refine WL.nil ?_ | refine WL.bt rfl rfl rfl (by omega) ?_ | refine WL.e1 rfl ?_ | refine WL.ar rfl rfl (by unfold I64; omega) ?_ | refine WL.len rfl rfl (by first | exact List.length_map _ | exact List.length_replicate | rfl) ?_ | refine WL.idx rfl rfl (by omega) (by first | exact map_at (by omega) | exact map_atZ (by omega) (by omega)) ?_ | refine W.condT rfl ?_)
      dsimp only [St.put, Nat.reduceAdd]
      refine ⟨k + 1, by omega, by omega, ?_⟩
      rw [hc]
      exact (Tr.ren id (by repeat (first | exact trivial | refine ⟨⟨?_, ?_⟩, ?_⟩ | rfl)) (by repeat (first | exact trivial | refine ⟨⟨?_, ?_, ?_⟩, ?_⟩ | rfl)) rfl)
    · rw [if_neg h2] at hc
      rw [← hx] at h2
      repeat (first | refine W.gob rfl ?_ | refine WL.nil ?_ | refine WL.bt rfl rfl rfl (by omega) ?_ | refine WL.bf rfl rfl rfl (by omega) ?_ | refine WL.e1 rfl ?_ | refine WL.ar rfl rfl (by unfold I64; omega) ?_ | refine WL.len rfl rfl (by first | exact List.length_map _ | exact List.length_replicate | rfl) ?_ | refine WL.idx rfl rfl (by omega) (by first | exact map_at (by omega) | exact map_atZ (by omega) (by omega)) ?_ | refine W.condT rfl ?_ | refine W.condF rfl ?_)
      dsimp only [St.put, Nat.reduceAdd]
      refine ⟨k + 1, by omega, by omega, ?_⟩
      rw [hc]
      exact (Tr.ren id (by repeat (first | exact trivial | refine ⟨⟨?_, ?_⟩, ?_⟩ | rfl)) (by repeat (first | exact trivial | refine ⟨⟨?_, ?_, ?_⟩, ?_⟩ | rfl)) rfl)
  obtain rfl : k = l.length := by omega
  rw [List.take_length]
  repeat (first | refine W.gob rfl ?_ | refine WL.nil ?_ | refine WL.bf rfl rfl rfl (by omega) ?_ | refine WL.e1 rfl ?_ | refine WL.len rfl rfl (by first | exact List.length_map _ | exact List.length_replicate | rfl) ?_ | refine W.condF rfl ?_)
  refine (?_ : W _ _ _ _ _)
  dsimp only [St.put, Nat.reduceAdd]
  exact W.ret (fin1 rfl rfl rfl rfl)
end Go.Proofs.YtkgnmddakiagbaaGreatDoor
namespace Go.Proofs.YtkgnmddakiagbaaGreatDoor
open Go.RowKit
set_option maxRecDepth 100000
set_option maxHeartbeats 4000000
def shpL : List Int := [3, 0, 4, 1]
def fltL : List Int := [6, 2, 5, 1]
def sigR (key l : Int) : Int := if l ∈ shpL.take key.toNat then 1 else if l ∈ fltL.take (-key).toNat then -1 else 0
theorem mem_take_lt {l : List Int} {n k : Nat} (h : k < l.length) (hk : k < n) : l[k] ∈ l.take n := by
  have : (l.take n)[k]'(by rw [List.length_take]; omega) = l[k] := List.getElem_take
  rw [← this]; exact List.getElem_mem _
theorem take_no {l : List Int} {k : Nat} {z : Int} (h : k < l.length) (h1 : z ∉ l.take k) (h2 : l[k] ≠ z) : z ∉ l.take (k + 1) := by
  rw [List.take_succ_eq_append_getElem h]
  intro hm
  rcases List.mem_append.1 hm with hm | hm
  · exact h1 hm
  · exact h2 (List.mem_singleton.1 hm).symm
theorem rSig_FS (key l : Int) (hk : -4 ≤ key ∧ key ≤ 4) : Ctr Tryz.prog 143 [.sc (.int .i64 key), .sc (.int .i64 l)] (.sc (.int .i64 (sigR key l))) := by
  have hs4 : shpL.length = 4 := rfl
  have hf4 : fltL.length = 4 := rfl
  refine Ctr.intro Tryz.func143 rfl Tryz.ntmps143 (Nat.le_of_ble_eq_true rfl) (bd_all rfl) fun w0 F0 => ?_; dsimp only [St.init, number, Nat.reduceAdd]
  repeat refine W.go rfl ?_
  refine (?_ : W _ _ _ _ _)
  dsimp only [St.put, Nat.reduceAdd]
  refine W.tr (Tr.freeze 0 rfl) ?_
  refine W.tr (Tr.freeze 1 rfl) ?_
  refine W.loop (fun k : Nat => k ≤ key.toNat ∧ l ∉ shpL.take k) (fun k => ⟨[(0, .sc (.int .i64 key)), (1, .sc (.int .i64 l)), (5, .ls 1 (shpL.map eInt)), (6, .ls 1 (fltL.map eInt)), (7, .sc (.int .i64 k))], [], 0⟩) (fun k => key.toNat - k) 0 ⟨Nat.zero_le _, by simp⟩ (Tr.ren id (by repeat (first | exact trivial | refine ⟨⟨?_, ?_⟩, ?_⟩ | rfl)) (by repeat (first | exact trivial | refine ⟨⟨?_, ?_, ?_⟩, ?_⟩ | rfl)) rfl) fun k hk1 => ?_
  obtain ⟨hk1, hno⟩ := hk1
  by_cases hlt : k < key.toNat
  · have hkl : k < shpL.length := by omega
    by_cases he : shpL[k] = l
    · have hr : sigR key l = 1 := if_pos (by rw [← he]; exact mem_take_lt hkl hlt)
      rw [hr]
      repeat (first | refine W.gob rfl ?_ | refine WL.nil ?_ | refine WL.bt rfl rfl rfl (by omega) ?_ | refine WL.e1 rfl ?_ | refine WL.idx rfl rfl (by omega) (by first | exact map_at (by omega) | exact map_atZ (by omega) (by omega)) ?_ | refine W.condT rfl ?_)
      refine (?_ : W _ _ _ _ _)
      dsimp only [St.put, Nat.reduceAdd]
      exact W.ret (fin1 rfl rfl rfl rfl)
    · have hno2 := take_no hkl hno he
      repeat (first | refine W.gob rfl ?_ | refine WL.nil ?_ | refine WL.bt rfl rfl rfl (by omega) ?_ | refine WL.bf rfl rfl rfl (by omega) ?_ | refine WL.e1 rfl ?_ | refine WL.ar rfl rfl (by unfold I64; omega) ?_ | refine WL.idx rfl rfl (by omega) (by first | exact map_at (by omega) | exact map_atZ (by omega) (by omega)) ?_ | refine W.condT rfl ?_ | refine W.condF rfl ?_)
      dsimp only [St.put, Nat.reduceAdd]
      refine ⟨k + 1, ⟨by omega, hno2⟩, by omega, ?_⟩
      exact (Tr.ren id (by repeat (first | exact trivial | refine ⟨⟨?_, ?_⟩, ?_⟩ | rfl)) (by repeat (first | exact trivial | refine ⟨⟨?_, ?_, ?_⟩, ?_⟩ | rfl)) rfl)
  obtain rfl : k = key.toNat := by omega
  have hr1 : sigR key l = if l ∈ fltL.take (-key).toNat then -1 else 0 := if_neg hno
  rw [hr1]
  repeat (first | refine W.gob rfl ?_ | refine WL.nil ?_ | refine WL.bf rfl rfl rfl (by omega) ?_ | refine WL.e1 rfl ?_ | refine W.condF rfl ?_)
  refine (?_ : W _ _ _ _ _)
  dsimp only [St.put, Nat.reduceAdd]
  refine W.loop (fun k : Nat => k ≤ (-key).toNat ∧ l ∉ fltL.take k) (fun k => ⟨[(0, .sc (.int .i64 key)), (1, .sc (.int .i64 l)), (6, .ls 1 (fltL.map eInt)), (8, .sc (.int .i64 k))], [], 0⟩) (fun k => (-key).toNat - k) 0 ⟨Nat.zero_le _, by simp⟩ (Tr.ren id (by repeat (first | exact trivial | refine ⟨⟨?_, ?_⟩, ?_⟩ | rfl)) (by repeat (first | exact trivial | refine ⟨⟨?_, ?_, ?_⟩, ?_⟩ | rfl)) rfl) fun k hk1 => ?_
  obtain ⟨hk1, hno3⟩ := hk1
  by_cases hlt2 : k < (-key).toNat
  · have hkl : k < fltL.length := by omega
    by_cases he : fltL[k] = l
    · have hr : (if l ∈ fltL.take (-key).toNat then (-1 : Int) else 0) = -1 := if_pos (by rw [← he]; exact mem_take_lt hkl hlt2)
      rw [hr]
      repeat (first | refine W.gob rfl ?_ | refine WL.nil ?_ | refine WL.bt rfl rfl rfl (by omega) ?_ | refine WL.e1 rfl ?_ | refine WL.neg rfl rfl (by unfold I64; omega) ?_ | refine WL.idx rfl rfl (by omega) (by first | exact map_at (by omega) | exact map_atZ (by omega) (by omega)) ?_ | refine W.condT rfl ?_)
      refine (?_ : W _ _ _ _ _)
      dsimp only [St.put, Nat.reduceAdd]
      exact W.ret (fin1 rfl rfl rfl rfl)
    · have hno2 := take_no hkl hno3 he
      repeat (first | refine W.gob rfl ?_ | refine WL.nil ?_ | refine WL.bt rfl rfl rfl (by omega) ?_ | refine WL.bf rfl rfl rfl (by omega) ?_ | refine WL.e1 rfl ?_ | refine WL.ar rfl rfl (by unfold I64; omega) ?_ | refine WL.neg rfl rfl (by unfold I64; omega) ?_ | refine WL.idx rfl rfl (by omega) (by first | exact map_at (by omega) | exact map_atZ (by omega) (by omega)) ?_ | refine W.condT rfl ?_ | refine W.condF rfl ?_)
      dsimp only [St.put, Nat.reduceAdd]
      refine ⟨k + 1, ⟨by omega, hno2⟩, by omega, ?_⟩
      exact (Tr.ren id (by repeat (first | exact trivial | refine ⟨⟨?_, ?_⟩, ?_⟩ | rfl)) (by repeat (first | exact trivial | refine ⟨⟨?_, ?_, ?_⟩, ?_⟩ | rfl)) rfl)
  obtain rfl : k = (-key).toNat := by omega
  rw [if_neg hno3]
  repeat (first | refine W.gob rfl ?_ | refine WL.nil ?_ | refine WL.bf rfl rfl rfl (by omega) ?_ | refine WL.e1 rfl ?_ | refine WL.neg rfl rfl (by unfold I64; omega) ?_ | refine W.condF rfl ?_)
  refine (?_ : W _ _ _ _ _)
  dsimp only [St.put, Nat.reduceAdd]
  exact W.ret (fin1 rfl rfl rfl rfl)
theorem sig_fin : ((List.range 9).all fun a => (List.range 7).all fun l => decide (sigB ((a : Int) - 4) (byteOf (l : Int)) = sigR ((a : Int) - 4) (l : Int))) = true := by decide +kernel
theorem sigR_eq {key l : Int} (hk : -4 ≤ key ∧ key ≤ 4) (hl : 0 ≤ l ∧ l ≤ 6) : sigR key l = sigB key (byteOf l) := by
  obtain ⟨a, ha⟩ := Int.eq_ofNat_of_zero_le (show 0 ≤ key + 4 by omega)
  obtain ⟨b, rfl⟩ := Int.eq_ofNat_of_zero_le hl.1
  have h := List.all_eq_true.1 (List.all_eq_true.1 sig_fin a (List.mem_range.2 (by omega))) b (List.mem_range.2 (by omega))
  have h := of_decide_eq_true h
  rw [show (a : Int) - 4 = key by omega] at h
  exact h.symm
end Go.Proofs.YtkgnmddakiagbaaGreatDoor
namespace Go.Proofs.YtkgnmddakiagbaaGreatDoor
open Go.RowKit
set_option maxHeartbeats 8000000
set_option maxRecDepth 100000
def frcQ (st : List Int) (key : Int) (ev : Int) (k : Ln) (prev : List Sf) : Int := if 0 < scanK st (cntS ev st) k prev then altA (scanK st (cntS ev st) k prev) else sigR key k.1
theorem frcQ_eq {st : List Int} {key ev : Int} {k : Ln} {prev : List Sf} (hk : -4 ≤ key ∧ key ≤ 4) (hl : 0 ≤ k.1 ∧ k.1 ≤ 6) : frcQ st key ev k prev = frcR st key ev k prev := by
  unfold frcQ frcR
  rw [sigR_eq hk hl]
theorem rForce_FS (L : List Sf) (st : List Int) (key : Int) (i : Nat) (hi : i < L.length) (hk : -4 ≤ key ∧ key ≤ 4) (hacc : ∀ x ∈ L.take i, x.2.2.2 ≤ 3) (hL : L.length ≤ 1000000) (hst : st.length ≤ 1000000) :
    Ctr Tryz.prog 70 [.ls 4 (L.map eSf), .sc (.int .i64 i), .ls 1 (st.map eInt), .sc (.int .i64 key)] (.sc (.int .i64 (frcQ st key L[i].1 (atL L[i]) (L.take i).reverse))) := by
  have hMe := fun ev => rMeasure_FS st hst ev
  refine Ctr.intro Tryz.func70 rfl Tryz.ntmps70 (Nat.le_of_ble_eq_true rfl) (bd_all rfl) fun w0 F0 => ?_; dsimp only [St.init, number, Nat.reduceAdd]
  repeat (first | refine W.gob rfl ?_ | refine WL.nil ?_ | refine WL.e1 rfl ?_ | refine WL.idx rfl rfl (by omega) (by first | exact map_at (by omega) | exact map_atZ (by omega) (by omega)) ?_)
  refine (?_ : WL _ _ _ _ _ _)
  dsimp only [St.put, Nat.reduceAdd]
  refine WL.vl rfl (WV.call rfl (callF Tryz.func80 rfl rfl) rfl rfl (hMe L[i].1)) ?_
  repeat (first | refine W.gob rfl ?_ | refine WL.nil ?_ | refine WL.e1 rfl ?_ | refine WL.ar rfl rfl (by unfold I64; omega) ?_)
  refine (?_ : W _ _ _ _ _)
  dsimp only [St.put, Nat.reduceAdd]
  unfold frcQ
  obtain ⟨m, hm⟩ : ∃ m, cntS L[i].1 st = m := ⟨_, rfl⟩
  rw [hm]
  have hml : m ≤ 1000000 := by rw [← hm]; have := cntS_le L[i].1 st; omega
  refine W.loop (fun n : Nat => n ≤ i ∧ scanK st m (atL L[i]) (L.take i).reverse = scanK st m (atL L[i]) (L.take n).reverse) (fun n => ⟨[(0, .ls 4 (L.map eSf)), (1, .sc (.int .i64 i)), (2, .ls 1 (st.map eInt)), (3, .sc (.int .i64 key)), (9, .sc (.int .i64 (m : Nat))), (10, .sc (.int .i64 ((n : Int) - 1)))], [], 0⟩) (fun n => n) i ⟨Nat.le_refl _, rfl⟩ (Tr.ren id (by repeat (first | exact trivial | refine ⟨⟨?_, ?_⟩, ?_⟩ | rfl)) (by repeat (first | exact trivial | refine ⟨⟨?_, ?_, ?_⟩, ?_⟩ | rfl)) rfl) fun n hn => ?_
  obtain ⟨hn1, hn2⟩ := hn
  have hend : scanK st m (atL L[i]) (L.take n).reverse = 0 → (if 0 < scanK st m (atL L[i]) (L.take i).reverse then altA (scanK st m (atL L[i]) (L.take i).reverse) else sigR key (atL L[i]).1) = sigR key L[i].2.1 := fun h => by
    rw [hn2, h]; rfl
  match n, hn1, hn2, hend with
  | 0, hn1, hn2, hend =>
    rw [hend rfl]
    repeat (first | refine W.gob rfl ?_ | refine WL.nil ?_ | refine WL.bf rfl rfl rfl (by omega) ?_ | refine WL.e1 rfl ?_ | refine WL.opno rfl rfl rfl rfl rfl rfl rfl ?_ | refine WL.idx rfl rfl (by omega) (by first | exact map_at (by omega) | exact map_atZ (by omega) (by omega)) ?_ | refine W.condF rfl ?_)
    refine (?_ : WL _ _ _ _ _ _)
    dsimp only [St.put, Nat.reduceAdd]
    refine WL.vl rfl (WV.call rfl (callF Tryz.func143 rfl rfl) rfl rfl (rSig_FS key L[i].2.1 hk)) ?_
    repeat (first | refine WL.nil ?_ | refine WL.e1 rfl ?_)
    refine (?_ : W _ _ _ _ _)
    dsimp only [St.put, Nat.reduceAdd]
    exact W.ret (fin1 rfl rfl rfl rfl)
  | n + 1, hn1, hn2, hend =>
    have hnl : n < L.length := by omega
    have hz : (((n + 1 : Nat) : Int) - 1) = (n : Int) := by omega
    have hrev : (L.take (n + 1)).reverse = L[n] :: (L.take n).reverse := rev_take hnl
    have hcl := cntS_le L[n].1 st
    rw [hrev] at hn2 hend
    rw [hz]
    repeat (first | refine W.gob rfl ?_ | refine WL.bt rfl rfl rfl (by omega) ?_ | refine WL.e1 rfl ?_ | refine WL.gyes rfl rfl rfl rfl ?_ | refine WL.idx rfl rfl (by omega) (by first | exact map_at (by omega) | exact map_atZ (by omega) (by omega)) ?_)
    refine (?_ : WL _ _ _ _ _ _)
    dsimp only [St.put, Nat.reduceAdd]
    refine WL.vl rfl (WV.call rfl (callF Tryz.func80 rfl rfl) rfl rfl (hMe L[n].1)) ?_
    by_cases hq : cntS L[n].1 st = m
    rotate_left
    · rw [hend (if_neg hq)]
      repeat (first | refine W.gob rfl ?_ | refine WL.nil ?_ | refine WL.bf rfl rfl rfl (by omega) ?_ | refine WL.e1 rfl ?_ | refine WL.gyes rfl rfl rfl rfl ?_ | refine WL.idx rfl rfl (by omega) (by first | exact map_at (by omega) | exact map_atZ (by omega) (by omega)) ?_ | refine W.condF rfl ?_)
      refine (?_ : WL _ _ _ _ _ _)
      dsimp only [St.put, Nat.reduceAdd]
      refine WL.vl rfl (WV.call rfl (callF Tryz.func143 rfl rfl) rfl rfl (rSig_FS key L[i].2.1 hk)) ?_
      repeat (first | refine WL.nil ?_ | refine WL.e1 rfl ?_)
      refine (?_ : W _ _ _ _ _)
      dsimp only [St.put, Nat.reduceAdd]
      exact W.ret (fin1 rfl rfl rfl rfl)
    have hmem : L[n] ∈ L.take i := by
      have : (L.take i)[n]'(by rw [List.length_take]; omega) = L[n] := List.getElem_take
      rw [← this]; exact List.getElem_mem _
    have ha := hacc _ hmem
    have hs : scanK st m (atL L[i]) (L[n] :: (L.take n).reverse) = if (L[n].2.1, L[n].2.2.1) = atL L[i] ∧ 0 < L[n].2.2.2 then L[n].2.2.2 else scanK st m (atL L[i]) (L.take n).reverse := if_pos hq
    have hz2 : ((n : Nat) : Int) - 1 = ((n : Nat) : Int) - 1 := rfl
    by_cases h1 : L[n].2.1 = L[i].2.1
    rotate_left
    · rw [if_neg fun q => h1 (Prod.mk.inj (show (L[n].2.1, L[n].2.2.1) = (L[i].2.1, L[i].2.2.1) from q.1)).1] at hs
      repeat (first | refine W.gob rfl ?_ | refine WL.nil ?_ | refine WL.bt rfl rfl rfl (by omega) ?_ | refine WL.e1 rfl ?_ | refine WL.gyes rfl rfl rfl rfl ?_ | refine W.condT rfl ?_)
      refine (?_ : W _ _ _ _ _)
      dsimp only [St.put, Nat.reduceAdd]
      refine W.drawK (by kernel_rfl) (by kernel_rfl) ?_
      repeat (first | refine DK.bf rfl rfl (by omega) ?_ | refine DK.ff rfl (by first | (simp; done) | fail) ?_ | refine DK.st rfl ?_ | refine DK.idx rfl rfl (by omega) (by first | exact map_at (by omega) | exact map_atZ (by omega) (by omega)) ?_ | refine DK.nil ?_)
      repeat (first | refine W.gob rfl ?_ | refine WL.nil ?_ | refine WL.e1 rfl ?_ | refine WL.ar rfl rfl (by unfold I64; omega) ?_ | refine W.condF rfl ?_)
      dsimp only [St.put, Nat.reduceAdd]
      exact ⟨n, ⟨by omega, hn2.trans hs⟩, by omega, (Tr.ren id (by repeat (first | exact trivial | refine ⟨⟨?_, ?_⟩, ?_⟩ | rfl)) (by repeat (first | exact trivial | refine ⟨⟨?_, ?_, ?_⟩, ?_⟩ | rfl)) rfl)⟩
    by_cases h2 : L[n].2.2.1 = L[i].2.2.1
    rotate_left
    · rw [if_neg fun q => h2 (Prod.mk.inj (show (L[n].2.1, L[n].2.2.1) = (L[i].2.1, L[i].2.2.1) from q.1)).2] at hs
      repeat (first | refine W.gob rfl ?_ | refine WL.nil ?_ | refine WL.bt rfl rfl rfl (by omega) ?_ | refine WL.e1 rfl ?_ | refine WL.gyes rfl rfl rfl rfl ?_ | refine W.condT rfl ?_)
      refine (?_ : W _ _ _ _ _)
      dsimp only [St.put, Nat.reduceAdd]
      refine W.drawK (by kernel_rfl) (by kernel_rfl) ?_
      repeat (first | refine DK.bt rfl rfl (by omega) ?_ | refine DK.bf rfl rfl (by omega) ?_ | refine DK.tt rfl (by first | (simp; done) | fail) ?_ | refine DK.ff rfl (by first | (simp; done) | fail) ?_ | refine DK.st rfl ?_ | refine DK.idx rfl rfl (by omega) (by first | exact map_at (by omega) | exact map_atZ (by omega) (by omega)) ?_ | refine DK.nil ?_)
      repeat (first | refine W.gob rfl ?_ | refine WL.nil ?_ | refine WL.e1 rfl ?_ | refine WL.ar rfl rfl (by unfold I64; omega) ?_ | refine W.condF rfl ?_)
      dsimp only [St.put, Nat.reduceAdd]
      exact ⟨n, ⟨by omega, hn2.trans hs⟩, by omega, (Tr.ren id (by repeat (first | exact trivial | refine ⟨⟨?_, ?_⟩, ?_⟩ | rfl)) (by repeat (first | exact trivial | refine ⟨⟨?_, ?_, ?_⟩, ?_⟩ | rfl)) rfl)⟩
    by_cases h3 : L[n].2.2.2 > 0
    rotate_left
    · rw [if_neg fun q => h3 q.2] at hs
      repeat (first | refine W.gob rfl ?_ | refine WL.nil ?_ | refine WL.bt rfl rfl rfl (by omega) ?_ | refine WL.e1 rfl ?_ | refine WL.gyes rfl rfl rfl rfl ?_ | refine W.condT rfl ?_)
      refine (?_ : W _ _ _ _ _)
      dsimp only [St.put, Nat.reduceAdd]
      refine W.drawK (by kernel_rfl) (by kernel_rfl) ?_
      repeat (first | refine DK.bt rfl rfl (by omega) ?_ | refine DK.bf rfl rfl (by omega) ?_ | refine DK.tt rfl (by first | (simp; done) | fail) ?_ | refine DK.ff rfl (by first | (simp; done) | fail) ?_ | refine DK.st rfl ?_ | refine DK.idx rfl rfl (by omega) (by first | exact map_at (by omega) | exact map_atZ (by omega) (by omega)) ?_ | refine DK.nil ?_)
      repeat (first | refine W.gob rfl ?_ | refine WL.nil ?_ | refine WL.e1 rfl ?_ | refine WL.ar rfl rfl (by unfold I64; omega) ?_ | refine W.condF rfl ?_)
      dsimp only [St.put, Nat.reduceAdd]
      exact ⟨n, ⟨by omega, hn2.trans hs⟩, by omega, (Tr.ren id (by repeat (first | exact trivial | refine ⟨⟨?_, ?_⟩, ?_⟩ | rfl)) (by repeat (first | exact trivial | refine ⟨⟨?_, ?_, ?_⟩, ?_⟩ | rfl)) rfl)⟩
    rw [if_pos ⟨by show (_, _) = (_, _); rw [h1, h2], h3⟩] at hs
    have hfin : (if 0 < scanK st m (atL L[i]) (L.take i).reverse then altA (scanK st m (atL L[i]) (L.take i).reverse) else sigR key (atL L[i]).1) = altA L[n].2.2.2 := by
      rw [hn2, hs, if_pos h3]
    rw [hfin]
    repeat (first | refine W.gob rfl ?_ | refine WL.nil ?_ | refine WL.bt rfl rfl rfl (by omega) ?_ | refine WL.e1 rfl ?_ | refine WL.gyes rfl rfl rfl rfl ?_ | refine W.condT rfl ?_)
    refine (?_ : W _ _ _ _ _)
    dsimp only [St.put, Nat.reduceAdd]
    refine W.drawK (by kernel_rfl) (by kernel_rfl) ?_
    repeat (first | refine DK.bt rfl rfl (by omega) ?_ | refine DK.tt rfl (by first | (simp; done) | fail) ?_ | refine DK.st rfl ?_ | refine DK.idx rfl rfl (by omega) (by first | exact map_at (by omega) | exact map_atZ (by omega) (by omega)) ?_ | refine DK.nil ?_)
    repeat (first | refine W.gob rfl ?_ | refine WL.e1 rfl ?_ | refine WL.idx rfl rfl (by omega) (by first | exact map_at (by omega) | exact map_atZ (by omega) (by omega)) ?_ | refine W.condT rfl ?_)
    refine (?_ : WL _ _ _ _ _ _)
    dsimp only [St.put, Nat.reduceAdd]
    refine WL.vl rfl (WV.call rfl (callF Tryz.func91 rfl rfl) rfl rfl (rAlter_FS L[n].2.2.2 ⟨by omega, ha⟩)) ?_
    repeat (first | refine WL.nil ?_ | refine WL.e1 rfl ?_)
    refine (?_ : W _ _ _ _ _)
    dsimp only [St.put, Nat.reduceAdd]
    exact W.ret (fin1 rfl rfl rfl rfl)
end Go.Proofs.YtkgnmddakiagbaaGreatDoor
namespace Go.Proofs.YtkgnmddakiagbaaGreatDoor
open Go.RowKit
set_option maxHeartbeats 8000000
set_option maxRecDepth 100000
theorem sndX_out {l al o : Int} (h : ¬ (0 ≤ l ∧ l ≤ 6)) : sndX l al o = 10 ∧ sndR l al o = 0 := by
  have := sndOk_out (l := l) (al := al) (o := o) fun hi => h hi.1
  exact ⟨(snd_no this).2, (snd_no this).1⟩
theorem sng_same {st : List Int} {key : Int} (hk : -4 ≤ key ∧ key ≤ 4) (prev : List Sf) (x : Sf) :
    sndX x.2.1 (if 0 < x.2.2.2 then altA x.2.2.2 else frcQ st key x.1 (atL x) prev) x.2.2.1 = sndX x.2.1 (sngA st key prev x) x.2.2.1 ∧
    sndR x.2.1 (if 0 < x.2.2.2 then altA x.2.2.2 else frcQ st key x.1 (atL x) prev) x.2.2.1 = sndR x.2.1 (sngA st key prev x) x.2.2.1 := by
  unfold sngA
  by_cases hl : 0 ≤ x.2.1 ∧ x.2.1 ≤ 6
  · rw [frcQ_eq hk hl]; exact ⟨rfl, rfl⟩
  · exact ⟨(sndX_out hl).1.trans (sndX_out hl).1.symm, (sndX_out hl).2.trans (sndX_out hl).2.symm⟩
theorem rSing_FS (L : List Sf) (st : List Int) (key : Int) (hl : L.length ≤ 10000) (hst : st.length ≤ 1000000) :
    Ctr Tryz.prog 34 [.ls 4 (L.map eSf), .ls 1 (st.map eInt), .sc (.int .i64 key)] (.tu [.ls 1 ((snL L st key).map eInt), .sc (.int .i64 (snX L st key))]) := by
  by_cases hk : key < -4 ∨ 4 < key
  · have e1 : snX L st key = 1 := if_pos hk
    have e2 : snL L st key = [] := if_neg (by rw [e1]; decide)
    rw [e2, e1]
    have hk2 : key < -4 ∨ (¬ key < -4 ∧ key > 4) := by omega
    rcases hk2 with hk2 | hk2
    all_goals
      refine Ctr.intro Tryz.func34 rfl Tryz.ntmps34 (Nat.le_of_ble_eq_true rfl) (bd_all rfl) fun w0 F0 => ?_; dsimp only [St.init, number, Nat.reduceAdd]
      repeat (first | refine W.gob rfl ?_ | refine WL.nil ?_ | refine WL.bt rfl rfl rfl (by omega) ?_ | refine WL.bf rfl rfl rfl (by omega) ?_ | refine WL.e1 rfl ?_ | refine WL.gyes rfl rfl rfl rfl ?_ | refine WL.opno rfl rfl rfl rfl rfl rfl rfl ?_ | refine W.condT rfl ?_)
      refine (?_ : W _ _ _ _ _)
      dsimp only [St.put, Nat.reduceAdd]
      refine W.tr (Tr.nilR (t := 6) 1 rfl) ?_
      exact W.ret (finN rfl rfl rfl rfl)
  have hk2 : -4 ≤ key ∧ key ≤ 4 := by omega
  have hvl := sngV_length st key L []
  refine Ctr.intro Tryz.func34 rfl Tryz.ntmps34 (Nat.le_of_ble_eq_true rfl) (bd_all rfl) fun w0 F0 => ?_; dsimp only [St.init, number, Nat.reduceAdd]
  repeat (first | refine W.gob rfl ?_ | refine WL.nil ?_ | refine WL.bf rfl rfl rfl (by omega) ?_ | refine WL.e1 rfl ?_ | refine WL.gyes rfl rfl rfl rfl ?_ | refine W.condF rfl ?_)
  refine (?_ : W _ _ _ _ _)
  dsimp only [St.put, Nat.reduceAdd]
  refine W.tr (Tr.nil (t := 8) 3 1 rfl rfl) ?_
  dsimp only [St.put, St.new, St.upd, Nat.reduceAdd]
  refine W.loop (fun k : Nat => k ≤ L.length ∧ ∀ i (hi : i < k) (h2 : i < L.length), sngE st key (L.take i).reverse L[i] = 0) (fun k => ⟨[(0, .ls 4 (L.map eSf)), (1, .ls 1 (st.map eInt)), (2, .sc (.int .i64 key)), (8, .sl 0), (9, .sc (.int .i64 k))], [(0, .row 3 1 (((sngV st key [] L).take k).map eInt))], 1⟩) (fun k => L.length - k) 0 ⟨by simp, fun i hi => absurd hi (Nat.not_lt_zero i)⟩ (Tr.ren id (by repeat (first | exact trivial | refine ⟨⟨?_, ?_⟩, ?_⟩ | rfl)) (by repeat (first | exact trivial | refine ⟨⟨?_, ?_, ?_⟩, ?_⟩ | rfl)) rfl) fun k hk => ?_
  obtain ⟨hk1, hgood⟩ := hk
  by_cases hlt : k < L.length
  rotate_left
  · obtain rfl : k = L.length := by omega
    obtain ⟨e1, e2⟩ := snX_ok hk2 (fun i hi => hgood i hi hi)
    rw [e1, e2, List.take_of_length_le (by omega)]
    repeat (first | refine W.gob rfl ?_ | refine WL.nil ?_ | refine WL.bf rfl rfl rfl (by omega) ?_ | refine WL.e1 rfl ?_ | refine WL.len rfl rfl (by first | exact List.length_map _ | exact List.length_replicate | rfl) ?_ | refine W.condF rfl ?_)
    refine (?_ : W _ _ _ _ _)
    dsimp only [St.put, Nat.reduceAdd]
    refine W.tr (Tr.freeze 0 rfl) ?_
    exact W.ret (finN rfl rfl rfl rfl)
  have hErr : sngE st key (L.take k).reverse L[k] ≠ 0 → snX L st key = sngE st key (L.take k).reverse L[k] ∧ snL L st key = [] := fun h => snX_err hk2 hlt (fun i hi => hgood i hi (by omega)) h
  have hNext : sngE st key (L.take k).reverse L[k] = 0 → ∀ i (hi : i < k + 1) (h2 : i < L.length), sngE st key (L.take i).reverse L[i] = 0 := fun h0 i hi h => by
    by_cases e : i = k
    · subst e; exact h0
    · exact hgood i (by omega) h
  have hvt := sngV_take st key L [] k hlt
  rw [List.append_nil] at hvt
  have hacc : ∀ x ∈ L.take k, x.2.2.2 ≤ 3 := fun x hx => by
    obtain ⟨i, hi, rfl⟩ := List.getElem_of_mem hx
    have hi2 : i < k := by simp at hi; omega
    rw [List.getElem_take]
    have := hgood i hi2 (by omega)
    unfold sngE at this
    split at this
    · cases this
    · omega
  have hFo := rForce_FS L st key k hlt hk2 hacc (by omega) hst
  obtain ⟨hs1, hs2⟩ := sng_same (st := st) hk2 (L.take k).reverse L[k]
  have hsE : sngE st key (L.take k).reverse L[k] = if L[k].2.2.2 < 0 ∨ 3 < L[k].2.2.2 then 1 else sndX L[k].2.1 (if 0 < L[k].2.2.2 then altA L[k].2.2.2 else frcQ st key L[k].1 (atL L[k]) (L.take k).reverse) L[k].2.2.1 := by
    rw [hs1]; rfl
  have hsQ : sngQ st key (L.take k).reverse L[k] = sndR L[k].2.1 (if 0 < L[k].2.2.2 then altA L[k].2.2.2 else frcQ st key L[k].1 (atL L[k]) (L.take k).reverse) L[k].2.2.1 := by
    rw [hs2]; rfl
  by_cases hb : L[k].2.2.2 < 0 ∨ 3 < L[k].2.2.2
  · rw [if_pos hb] at hsE
    obtain ⟨e1, e2⟩ := hErr (by rw [hsE]; decide)
    rw [e1, e2, hsE]
    have hb2 : L[k].2.2.2 < 0 ∨ (¬ L[k].2.2.2 < 0 ∧ L[k].2.2.2 > 3) := by omega
    rcases hb2 with hb2 | hb2
    all_goals
      repeat (first | refine W.gob rfl ?_ | refine WL.nil ?_ | refine WL.bt rfl rfl rfl (by omega) ?_ | refine WL.bf rfl rfl rfl (by omega) ?_ | refine WL.e1 rfl ?_ | refine WL.gyes rfl rfl rfl rfl ?_ | refine WL.opno rfl rfl rfl rfl rfl rfl rfl ?_ | refine WL.len rfl rfl (by first | exact List.length_map _ | exact List.length_replicate | rfl) ?_ | refine WL.idx rfl rfl (by omega) (by first | exact map_at (by omega) | exact map_atZ (by omega) (by omega)) ?_ | refine W.condT rfl ?_)
      refine (?_ : W _ _ _ _ _)
      dsimp only [St.put, Nat.reduceAdd]
      refine W.tr (Tr.nilR (t := 6) 1 rfl) ?_
      exact W.ret (finN rfl rfl rfl rfl)
  rw [if_neg hb] at hsE
  obtain ⟨F, hF⟩ : ∃ F, frcQ st key L[k].1 (atL L[k]) (L.take k).reverse = F := ⟨_, rfl⟩
  rw [hF] at hFo hsE hsQ
  by_cases hp : L[k].2.2.2 > 0
  · rw [if_pos hp] at hsE hsQ
    have hSo := rSounding_FS L[k].2.1 (altA L[k].2.2.2) L[k].2.2.1
    rw [← hsE, ← hsQ] at hSo
    repeat (first | refine W.gob rfl ?_ | refine WL.nil ?_ | refine WL.bt rfl rfl rfl (by omega) ?_ | refine WL.bf rfl rfl rfl (by omega) ?_ | refine WL.e1 rfl ?_ | refine WL.gyes rfl rfl rfl rfl ?_ | refine WL.len rfl rfl (by first | exact List.length_map _ | exact List.length_replicate | rfl) ?_ | refine WL.idx rfl rfl (by omega) (by first | exact map_at (by omega) | exact map_atZ (by omega) (by omega)) ?_ | refine W.condT rfl ?_ | refine W.condF rfl ?_)
    refine (?_ : WL _ _ _ _ _ _)
    dsimp only [St.put, Nat.reduceAdd]
    refine WL.vl rfl (WV.call rfl (callF Tryz.func70 rfl rfl) rfl rfl hFo) ?_
    repeat (first | refine W.gob rfl ?_ | refine WL.nil ?_ | refine WL.bt rfl rfl rfl (by omega) ?_ | refine WL.e1 rfl ?_ | refine WL.idx rfl rfl (by omega) (by first | exact map_at (by omega) | exact map_atZ (by omega) (by omega)) ?_ | refine W.condT rfl ?_)
    refine (?_ : WL _ _ _ _ _ _)
    dsimp only [St.put, Nat.reduceAdd]
    refine WL.vl rfl (WV.call rfl (callF Tryz.func91 rfl rfl) rfl rfl (rAlter_FS L[k].2.2.2 ⟨by omega, by omega⟩)) ?_
    repeat (first | refine W.gob rfl ?_ | refine WL.nil ?_ | refine WL.e1 rfl ?_)
    refine (?_ : W _ _ _ _ _)
    dsimp only [St.put, Nat.reduceAdd]
    refine W.drawK (by kernel_rfl) (by kernel_rfl) ?_
    repeat (first | refine DK.st rfl ?_ | refine DK.idx rfl rfl (by omega) (by first | exact map_at (by omega) | exact map_atZ (by omega) (by omega)) ?_)
    refine DK.vl rfl (WV.call rfl (callF Tryz.func92 rfl rfl) rfl rfl hSo) ?_
    repeat (first | refine DK.st rfl ?_ | refine DK.nil ?_)
    obtain ⟨z, hz⟩ : ∃ z, sngE st key (L.take k).reverse L[k] = z := ⟨_, rfl⟩
    rw [hz] at hErr hNext ⊢
    by_cases hz0 : z = 0
    · rw [hz0]
      repeat (first | refine W.gob rfl ?_ | refine WL.nil ?_ | refine WL.nf rfl rfl rfl (by omega) ?_ | refine WL.e1 rfl ?_ | refine WL.ar rfl rfl (by unfold I64; omega) ?_ | refine WL.app rfl rfl rfl (by first | omega | (simp; done) | (simp; omega)) ?_ | refine W.condF rfl ?_)
      dsimp only [St.put, Nat.reduceAdd]
      refine ⟨k + 1, ⟨by omega, hNext hz0⟩, by omega, ?_⟩
      rw [hvt]
      exact (Tr.ren (fun q => bif Nat.beq q 0 then 2 else q) (by repeat (first | exact trivial | refine ⟨⟨?_, ?_⟩, ?_⟩ | rfl)) (by repeat (first | exact trivial | refine ⟨⟨?_, ?_, ?_⟩, ?_⟩ | rfl | exact congrArg (fun q => some (AO.row _ _ q)) (by rw [List.map_append]; rfl))) rfl)
    · obtain ⟨e1, e2⟩ := hErr hz0
      rw [e1, e2]
      repeat (first | refine W.gob rfl ?_ | refine WL.nil ?_ | refine WL.nt rfl rfl rfl (by omega) ?_ | refine WL.e1 rfl ?_ | refine W.condT rfl ?_)
      refine (?_ : W _ _ _ _ _)
      dsimp only [St.put, Nat.reduceAdd]
      refine W.tr (Tr.nilR (t := 6) 1 rfl) ?_
      exact W.ret (finN rfl rfl rfl rfl)
  · rw [if_neg hp] at hsE hsQ
    have hSo := rSounding_FS L[k].2.1 F L[k].2.2.1
    rw [← hsE, ← hsQ] at hSo
    repeat (first | refine W.gob rfl ?_ | refine WL.nil ?_ | refine WL.bt rfl rfl rfl (by omega) ?_ | refine WL.bf rfl rfl rfl (by omega) ?_ | refine WL.e1 rfl ?_ | refine WL.gyes rfl rfl rfl rfl ?_ | refine WL.len rfl rfl (by first | exact List.length_map _ | exact List.length_replicate | rfl) ?_ | refine WL.idx rfl rfl (by omega) (by first | exact map_at (by omega) | exact map_atZ (by omega) (by omega)) ?_ | refine W.condT rfl ?_ | refine W.condF rfl ?_)
    refine (?_ : WL _ _ _ _ _ _)
    dsimp only [St.put, Nat.reduceAdd]
    refine WL.vl rfl (WV.call rfl (callF Tryz.func70 rfl rfl) rfl rfl hFo) ?_
    repeat (first | refine W.gob rfl ?_ | refine WL.nil ?_ | refine WL.bf rfl rfl rfl (by omega) ?_ | refine WL.e1 rfl ?_ | refine WL.idx rfl rfl (by omega) (by first | exact map_at (by omega) | exact map_atZ (by omega) (by omega)) ?_ | refine W.condF rfl ?_)
    refine (?_ : W _ _ _ _ _)
    dsimp only [St.put, Nat.reduceAdd]
    refine W.drawK (by kernel_rfl) (by kernel_rfl) ?_
    repeat (first | refine DK.st rfl ?_ | refine DK.idx rfl rfl (by omega) (by first | exact map_at (by omega) | exact map_atZ (by omega) (by omega)) ?_)
    refine DK.vl rfl (WV.call rfl (callF Tryz.func92 rfl rfl) rfl rfl hSo) ?_
    repeat (first | refine DK.st rfl ?_ | refine DK.nil ?_)
    obtain ⟨z, hz⟩ : ∃ z, sngE st key (L.take k).reverse L[k] = z := ⟨_, rfl⟩
    rw [hz] at hErr hNext ⊢
    by_cases hz0 : z = 0
    · rw [hz0]
      repeat (first | refine W.gob rfl ?_ | refine WL.nil ?_ | refine WL.nf rfl rfl rfl (by omega) ?_ | refine WL.e1 rfl ?_ | refine WL.ar rfl rfl (by unfold I64; omega) ?_ | refine WL.app rfl rfl rfl (by first | omega | (simp; done) | (simp; omega)) ?_ | refine W.condF rfl ?_)
      dsimp only [St.put, Nat.reduceAdd]
      refine ⟨k + 1, ⟨by omega, hNext hz0⟩, by omega, ?_⟩
      rw [hvt]
      exact (Tr.ren (fun q => bif Nat.beq q 0 then 2 else q) (by repeat (first | exact trivial | refine ⟨⟨?_, ?_⟩, ?_⟩ | rfl)) (by repeat (first | exact trivial | refine ⟨⟨?_, ?_, ?_⟩, ?_⟩ | rfl | exact congrArg (fun q => some (AO.row _ _ q)) (by rw [List.map_append]; rfl))) rfl)
    · obtain ⟨e1, e2⟩ := hErr hz0
      rw [e1, e2]
      repeat (first | refine W.gob rfl ?_ | refine WL.nil ?_ | refine WL.nt rfl rfl rfl (by omega) ?_ | refine WL.e1 rfl ?_ | refine W.condT rfl ?_)
      refine (?_ : W _ _ _ _ _)
      dsimp only [St.put, Nat.reduceAdd]
      refine W.tr (Tr.nilR (t := 6) 1 rfl) ?_
      exact W.ret (finN rfl rfl rfl rfl)
end Go.Proofs.YtkgnmddakiagbaaGreatDoor
