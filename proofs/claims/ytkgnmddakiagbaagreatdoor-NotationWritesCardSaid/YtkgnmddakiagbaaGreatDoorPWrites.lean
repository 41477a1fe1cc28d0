/- THE STATEMENT NotationWrites (the tied card): for every input the call returns true, and each argument reads afterwards as it read before, the listed package-level variables reading as the program's text lays them. No other condition. -/
import Derived.Test.YtkgnmddakiagbaaGreatDoorRows
import Derived.Test.YtkgnmddakiagbaaGreatDoorSl
import Derived.ProofKit
import Derived.LaidMore
import Derived.OpenShut
import Derived.Stop.Joined
import Derived.Lib.LaidTab
import Derived.Stop.LaidErr
import Derived.Test.YtkgnmddakiagbaaGreatDoorEG
import Derived.Test.YtkgnmddakiagbaaGreatDoorEH
import Derived.Test.YtkgnmddakiagbaaGreatDoorPieP
import Derived.Test.YtkgnmddakiagbaaGreatDoorProg
import Derived.Lib.Hide
import Derived.Test.YtkgnmddakiagbaaGreatDoorER
import Derived.Test.YtkgnmddakiagbaaGreatDoorWorks
import Derived.Test.YtkgnmddakiagbaaGreatDoorSr
import Derived.Test.YtkgnmddakiagbaaGreatDoorCoS
import Derived.Test.YtkgnmddakiagbaaGreatDoorCards
import Derived.Test.YtkgnmddakiagbaaGreatDoorTie
import Derived.SevenTiedAt
import Derived.ChangeMaps5
import Derived.Lib.SmallJoins
import Derived.Test.YtkgnmddakiagbaaGreatDoorEO
/- What the row's condition on package-level variables gives: the tables. -/
namespace Go.Proofs.YtkgnmddakiagbaaGreatDoor
open Go.ChangeShapes Go.WideShapes Go.ChangeAt Go.RowKit
set_option maxRecDepth 100000
set_option linter.unusedVariables false
def laidT : List (String × DataW Unit) := [("math/bits.deBruijn32tab", Rows.laid_math_bits_deBruijn32tab), ("math/bits.deBruijn64tab", Rows.laid_math_bits_deBruijn64tab), ("internal/strconv.uint64pow10", Rows.laid_internal_strconv_uint64pow10), ("theorbo/instrument.bases", Rows.laid_theorbo_instrument_bases), ("theorbo/instrument.fifths", Rows.laid_theorbo_instrument_fifths)]
theorem ownT : ownKnob Tryz.prog.godebug = none := by kernel_rfl
theorem tab_of_laid {W : World} (h : laidMetH Tryz.prog laidT W) : tabB W (fun p => W.cell? p) := by
  rw [MakeChecks.laidMetH_plain _ _ _ (by kernel_rfl)] at h
  have h3 := h.tail.tail
  have e1 : Lib.TabIs Tryz.prog W "internal/strconv.uint64pow10" .u64 Lib.pow10Tab :=
    Lib.tabIs_of_head (g := 3) (t := 307) (e := 283) (n := 20) (by kernel_rfl) (by kernel_rfl) Tryz.underlying307 Tryz.underlying283 (by kernel_rfl) (by kernel_rfl) h3
  have e2 : Lib.TabIs Tryz.prog W "theorbo/instrument.bases" .i64 bsL :=
    Lib.tabIs_of_head (g := 1) (t := 215) (e := 3) (n := 7) (by kernel_rfl) (by kernel_rfl) Tryz.underlying215 Tryz.underlying3 (by kernel_rfl) (by kernel_rfl) h3.tail
  have e3 : Lib.TabIs Tryz.prog W "theorbo/instrument.fifths" .i64 ftL :=
    Lib.tabIs_of_head (g := 0) (t := 215) (e := 3) (n := 7) (by kernel_rfl) (by kernel_rfl) Tryz.underlying215 Tryz.underlying3 (by kernel_rfl) (by kernel_rfl) h3.tail.tail
  have get : ∀ (l : List Int) (i : Nat) v, l[i]? = some v → i < l.length ∧ l.getD i 0 = v := fun l i v hv => by
    obtain ⟨hi, e⟩ := List.getElem?_eq_some_iff.1 hv
    exact ⟨hi, by rw [List.getD_eq_getElem?_getD, hv]; rfl⟩
  refine ⟨fun i v hv => ?_, fun i v hv => ?_, e1⟩
  · obtain ⟨hi, e⟩ := get _ _ _ hv
    rw [← e]; exact e3.cell (by kernel_rfl) i hi
  · obtain ⟨hi, e⟩ := get _ _ _ hv
    rw [← e]; exact e2.cell (by kernel_rfl) i hi
/-- The door's own heap meets the condition. -/
theorem door_met (os : Os) (args : Array Value) : laidMetH Tryz.prog laidT ((World.doorLaid Tryz.prog 400 os).forCall (fun _ _ => 0) ⟨#[], args, []⟩).memory :=
  laidMetH_of_parts3 (fuel := 8) (laidMet_of_run' 8 (by kernel_rfl) (by kernel_rfl)) (by kernel_rfl) (by kernel_rfl)
end Go.Proofs.YtkgnmddakiagbaaGreatDoor

/- What a system lacks of a piece, and whether it can say it: the reference, over trees. -/
namespace Go.Proofs.YtkgnmddakiagbaaGreatDoor
open Go.RowKit
set_option linter.unusedVariables false
set_option linter.unusedSimpArgs false
set_option maxRecDepth 100000
set_option maxHeartbeats 4000000
theorem rLacks_FS (s : Int) (p : Pce) (hO : PcOk p) : Ctr Tryz.prog 52 [.sc (.int .u8 s), ePce p] (.tu [.ls 3 ((lksR s p).map eLk), .sc (.int .i64 (lksE s p))]) := by
  refine Ctr.intro Tryz.func52 rfl Tryz.ntmps52 (Nat.le_of_ble_eq_true rfl) (bd_all rfl) fun w0 F0 => ?_; dsimp only [St.init, number, Nat.reduceAdd]
  have hn3 := hO.n3
  repeat (first | refine W.go rfl ?_ | refine WL.ev rfl ?_ | refine WL.ar rfl rfl (by unfold I64; omega) ?_ | refine WL.len rfl rfl (by first | exact List.length_map _ | exact List.length_replicate | rfl) ?_ | refine WL.app rfl rfl rfl (by first | omega | (simp; done) | (simp; omega)) ?_)
  (first | refine (?_ : W _ _ _ _ _) | refine (?_ : WL _ _ _ _ _ _) | skip)
  try dsimp only [St.put, Nat.reduceAdd]
  refine WL.vl rfl (WV.call rfl (callF Tryz.func77 rfl rfl) rfl rfl (known_FS s)) ?_
  repeat (first | refine W.go rfl ?_ | refine WL.ev rfl ?_ | refine WL.ar rfl rfl (by unfold I64; omega) ?_ | refine WL.len rfl rfl (by first | exact List.length_map _ | exact List.length_replicate | rfl) ?_ | refine WL.app rfl rfl rfl (by first | omega | (simp; done) | (simp; omega)) ?_)
  (first | refine (?_ : W _ _ _ _ _) | refine (?_ : WL _ _ _ _ _ _) | skip)
  try dsimp only [St.put, Nat.reduceAdd]
  (refine W.cond rfl (fun hif => ?_) (fun hif => ?_) <;> (try simp only [decide_eq_true_eq, decide_eq_false_iff_not, Int.not_lt, Int.not_le, Bool.not_eq_true', Bool.not_eq_false'] at hif))
  · have hs : ¬ (1 ≤ s ∧ s ≤ 4) := by simpa using hif
    rw [(lks_bad hs).1, (lks_bad hs).2]
    repeat (first | refine W.go rfl ?_ | refine WL.ev rfl ?_ | refine WL.ar rfl rfl (by unfold I64; omega) ?_ | refine WL.len rfl rfl (by first | exact List.length_map _ | exact List.length_replicate | rfl) ?_ | refine WL.app rfl rfl rfl (by first | omega | (simp; done) | (simp; omega)) ?_)
    (first | refine (?_ : W _ _ _ _ _) | refine (?_ : WL _ _ _ _ _ _) | skip)
    try dsimp only [St.put, Nat.reduceAdd]
    refine W.tr (Tr.nilLs (t := 4) 3 rfl) ?_
    exact W.ret (fin2 rfl rfl rfl rfl rfl rfl rfl)
  have hs : 1 ≤ s ∧ s ≤ 4 := by simpa using hif
  repeat (first | refine W.go rfl ?_ | refine WL.ev rfl ?_ | refine WL.ar rfl rfl (by unfold I64; omega) ?_ | refine WL.len rfl rfl (by first | exact List.length_map _ | exact List.length_replicate | rfl) ?_ | refine WL.app rfl rfl rfl (by first | omega | (simp; done) | (simp; omega)) ?_)
  (first | refine (?_ : W _ _ _ _ _) | refine (?_ : WL _ _ _ _ _ _) | skip)
  try dsimp only [St.put, Nat.reduceAdd]
  refine WL.vl rfl (WV.call rfl (callF Tryz.func35 rfl rfl) rfl rfl (rCheck_FS p hO)) ?_
  repeat (first | refine W.go rfl ?_ | refine WL.ev rfl ?_ | refine WL.ar rfl rfl (by unfold I64; omega) ?_ | refine WL.len rfl rfl (by first | exact List.length_map _ | exact List.length_replicate | rfl) ?_ | refine WL.app rfl rfl rfl (by first | omega | (simp; done) | (simp; omega)) ?_)
  (first | refine (?_ : W _ _ _ _ _) | refine (?_ : WL _ _ _ _ _ _) | skip)
  try dsimp only [St.put, Nat.reduceAdd]
  (refine W.cond rfl (fun hif => ?_) (fun hif => ?_) <;> (try simp only [decide_eq_true_eq, decide_eq_false_iff_not, Int.not_lt, Int.not_le, Bool.not_eq_true', Bool.not_eq_false'] at hif))
  · have h0 : pceE p ≠ 0 := by simpa using hif
    rw [(lks_err hs h0).1, (lks_err hs h0).2]
    repeat (first | refine W.go rfl ?_ | refine WL.ev rfl ?_ | refine WL.ar rfl rfl (by unfold I64; omega) ?_ | refine WL.len rfl rfl (by first | exact List.length_map _ | exact List.length_replicate | rfl) ?_ | refine WL.app rfl rfl rfl (by first | omega | (simp; done) | (simp; omega)) ?_)
    (first | refine (?_ : W _ _ _ _ _) | refine (?_ : WL _ _ _ _ _ _) | skip)
    try dsimp only [St.put, Nat.reduceAdd]
    refine W.tr (Tr.nilLs (t := 4) 3 rfl) ?_
    exact W.ret (fin2 rfl rfl rfl rfl rfl rfl rfl)
  have h0 : pceE p = 0 := by simpa using hif
  rw [(lks_ok hs h0).1, (lks_ok hs h0).2]
  repeat (first | refine W.go rfl ?_ | refine WL.ev rfl ?_ | refine WL.ar rfl rfl (by unfold I64; omega) ?_ | refine WL.len rfl rfl (by first | exact List.length_map _ | exact List.length_replicate | rfl) ?_ | refine WL.app rfl rfl rfl (by first | omega | (simp; done) | (simp; omega)) ?_)
  (first | refine (?_ : W _ _ _ _ _) | refine (?_ : WL _ _ _ _ _ _) | skip)
  try dsimp only [St.put, Nat.reduceAdd]
  refine W.tr (Tr.nil (t := 7) 262 3 rfl rfl) ?_
  refine W.loop (fun k : Nat => k ≤ p.evs.length) (fun k => ⟨[(0, .sc (.int .u8 s)), (3, .pt 0 0 0), (7, .sl 1), (8, .sc (.int .i64 k))], [(0, .box 29 (ePce p).cells), (1, .row 262 3 ((lksTo s p k).map eLk))], 2⟩) (fun k => p.evs.length - k) 0 (by omega) (Tr.ren id (by repeat (first | exact trivial | refine ⟨⟨?_, ?_⟩, ?_⟩ | rfl)) (by repeat (first | exact trivial | refine ⟨⟨?_, ?_, ?_⟩, ?_⟩ | rfl)) rfl) fun k hk => ?_
  repeat (first | refine W.go rfl ?_ | refine WL.ev rfl ?_ | refine WL.ar rfl rfl (by unfold I64; omega) ?_ | refine WL.len rfl rfl (by first | exact List.length_map _ | exact List.length_replicate | rfl) ?_ | refine WL.app rfl rfl rfl (by first | omega | (simp; done) | (simp; omega)) ?_)
  (first | refine (?_ : W _ _ _ _ _) | refine (?_ : WL _ _ _ _ _ _) | skip)
  try dsimp only [St.put, Nat.reduceAdd]
  (refine W.cond rfl (fun hif => ?_) (fun hif => ?_) <;> (try simp only [decide_eq_true_eq, decide_eq_false_iff_not, Int.not_lt, Int.not_le, Bool.not_eq_true', Bool.not_eq_false'] at hif))
  · have hk2 : k < p.evs.length := by omega
    have hl1 := lksTo_len s hO k hk
    have hl2 := lackE_len s p k p.evs[k] (hO.n4 k hk2)
    have hrow : (lksTo s p k).map eLk ++ (lackE s p k p.evs[k]).map eLk = (lksTo s p (k + 1)).map eLk := by rw [lksTo_at s p hk2, List.map_append]
    repeat (first | refine W.go rfl ?_ | refine WL.ev rfl ?_ | refine WL.ar rfl rfl (by unfold I64; omega) ?_ | refine WL.len rfl rfl (by first | exact List.length_map _ | exact List.length_replicate | rfl) ?_ | refine WL.app rfl rfl rfl (by first | omega | (simp; done) | (simp; omega)) ?_)
    (first | refine (?_ : W _ _ _ _ _) | refine (?_ : WL _ _ _ _ _ _) | skip)
    try dsimp only [St.put, Nat.reduceAdd]
    refine WL.vl rfl (WV.call rfl (callF Tryz.func125 rfl rfl) rfl rfl (rlack_FS s hs p k hk2 hO h0)) ?_
    repeat (first | refine W.go rfl ?_ | refine WL.ev rfl ?_ | refine WL.ar rfl rfl (by unfold I64; omega) ?_ | refine WL.len rfl rfl (by first | exact List.length_map _ | exact List.length_replicate | rfl) ?_ | refine WL.app rfl rfl rfl (by first | omega | (simp; done) | (simp; omega)) ?_)
    (first | refine (?_ : W _ _ _ _ _) | refine (?_ : WL _ _ _ _ _ _) | skip)
    try dsimp only [St.put, Nat.reduceAdd]
    exact ⟨k + 1, by omega, by omega, Tr.ren (fun q => bif Nat.beq q 1 then 2 else q) (by repeat (first | exact trivial | refine ⟨⟨?_, ?_⟩, ?_⟩ | rfl)) (by repeat (first | exact trivial | refine ⟨⟨?_, ?_, ?_⟩, ?_⟩ | exact congrArg (fun r => some (AO.row _ _ r)) hrow | rfl)) rfl⟩
  · have he : k = p.evs.length := by omega
    subst he
    repeat (first | refine W.go rfl ?_ | refine WL.ev rfl ?_ | refine WL.ar rfl rfl (by unfold I64; omega) ?_ | refine WL.len rfl rfl (by first | exact List.length_map _ | exact List.length_replicate | rfl) ?_ | refine WL.app rfl rfl rfl (by first | omega | (simp; done) | (simp; omega)) ?_)
    (first | refine (?_ : W _ _ _ _ _) | refine (?_ : WL _ _ _ _ _ _) | skip)
    try dsimp only [St.put, Nat.reduceAdd]
    refine W.tr (Tr.freeze 1 rfl) ?_
    exact W.ret (fin2 rfl rfl rfl rfl rfl rfl rfl)
end Go.Proofs.YtkgnmddakiagbaaGreatDoor

/- Whether a piece is too big: the law's own look. -/
namespace Go.Proofs.YtkgnmddakiagbaaGreatDoor
open Go.RowKit
set_option maxHeartbeats 1600000
set_option maxRecDepth 100000
set_option linter.unusedVariables false
set_option linter.unusedSimpArgs false
theorem big_any (M : PM) (p : Pce) (w : World) (hP : PcAt w w.heap.size M p) : Calls Tryz.prog 11 #[pcValue M p] w (Ret (.bool (bigB p)) w) := by
  obtain ⟨A1, A2, A3, c1, c2, c3⟩ := M
  obtain ⟨cs, st, evs⟩ := p
  unfold pcValue
  simp only at *
  have HP := Lib.hid hP.2.1
  obtain ⟨n1, hn1⟩ : ∃ n, cs.length = n := ⟨_, rfl⟩
  obtain ⟨n2, hn2⟩ : ∃ n, st.length = n := ⟨_, rfl⟩
  obtain ⟨n3, hn3⟩ : ∃ n, evs.length = n := ⟨_, rfl⟩
  have HN3 := Lib.hid hn3
  have hB : bigB ⟨cs, st, evs⟩ = (decide (64 < n1) || (decide (64 < n2) || (decide (420 < n3) || evs.any fun e => decide (20 < e.stops.length)))) := by unfold bigB; rw [hn1, hn2, hn3]
  rw [hB, hn1, hn2, hn3]
  clear hB hn1 hn2 hn3 hP
  by_cases b1 : 64 < n1
  · have e : (decide (64 < n1) || (decide (64 < n2) || (decide (420 < n3) || evs.any fun e => decide (20 < e.stops.length)))) = true := by simp [b1]
    rw [e]
    clear e
    go_enter Tryz.func11, Tryz.ntmps11
    go_wp2
    go_ret
    exact Ret.mk' rfl (by repeat (first | exact Below.refl _ _ | assumption | refine bel_drewN ?_ _ | refine Below.drew ?_ | refine bel_alloc ?_ _ | refine Below.setCell ?_ (by first | omega | (simp; done) | (simp; omega)) _ | refine bel_step ?_ (by assumption)))
  · by_cases b2 : 64 < n2
    · have e : (decide (64 < n1) || (decide (64 < n2) || (decide (420 < n3) || evs.any fun e => decide (20 < e.stops.length)))) = true := by simp [b2]
      rw [e]
      clear e
      go_enter Tryz.func11, Tryz.ntmps11
      go_wp2
      go_ret
      exact Ret.mk' rfl (by repeat (first | exact Below.refl _ _ | assumption | refine bel_drewN ?_ _ | refine Below.drew ?_ | refine bel_alloc ?_ _ | refine Below.setCell ?_ (by first | omega | (simp; done) | (simp; omega)) _ | refine bel_step ?_ (by assumption)))
    · by_cases b3 : 420 < n3
      · have e : (decide (64 < n1) || (decide (64 < n2) || (decide (420 < n3) || evs.any fun e => decide (20 < e.stops.length)))) = true := by simp [b3]
        rw [e]
        clear e
        go_enter Tryz.func11, Tryz.ntmps11
        go_wp2
        go_ret
        exact Ret.mk' rfl (by repeat (first | exact Below.refl _ _ | assumption | refine bel_drewN ?_ _ | refine Below.drew ?_ | refine bel_alloc ?_ _ | refine Below.setCell ?_ (by first | omega | (simp; done) | (simp; omega)) _ | refine bel_step ?_ (by assumption)))
      · have e : (decide (64 < n1) || (decide (64 < n2) || (decide (420 < n3) || evs.any fun e => decide (20 < e.stops.length)))) = evs.any fun e => decide (20 < e.stops.length) := by simp [b1, b2, b3]
        rw [e]
        clear e
        obtain ⟨V, hV⟩ : ∃ V, (evs.any fun e => decide (20 < e.stops.length)) = V := ⟨_, rfl⟩
        rw [hV]
        have HV := Lib.hid hV
        clear hV
        go_enter Tryz.func11, Tryz.ntmps11
        go_wp2
        go_loop [3] (fun i => ∃ k : Nat, k ≤ n3 ∧ i = .int .i64 k ∧ V = (evs.drop k).any fun e => decide (20 < e.stops.length)) (fun i => n3 - (intOf i).toNat)
        case atStart => exact ⟨0, Nat.zero_le _, rfl, HV.out.symm⟩
        case round =>
          obtain ⟨k, hk, rfl, hs⟩ := hrel
          have HS := Lib.hid hs
          clear hs
          by_cases hlt : k < n3
          · have hk2 : k < evs.length := by have := HN3.out; omega
            obtain ⟨ad, S, c, hA, hb, _, _, _, _, _, hc, _⟩ := HP.out.ev hk2
            subst hA
            have hs2 := HS.out.trans (any_at hk2)
            generalize evs[k] = e at hc hs2
            have hc2 : ∀ o : Obj, (w.alloc o).cell? ⟨(ad.add (k * 6)).block, (ad.add (k * 6)).off + 5, none⟩ = some (.slice S e.stops.length c) := fun o => by
              rw [World.cell?_alloc_lt _ _ _ (by rw [block_of_add]; omega), hc]
            clear hc
            generalize e.stops.length = n at *
            by_cases hb1 : 20 < n
            · have HE := Lib.hid (hs2.trans (show _ = true by simp [hb1]))
              clear hs2
              go_wp2
              go_ret
              exact Ret.mk' (by rw [HE.out]; rfl) (by repeat (first | exact Below.refl _ _ | assumption | refine bel_drewN ?_ _ | refine Below.drew ?_ | refine bel_alloc ?_ _ | refine Below.setCell ?_ (by first | omega | (simp; done) | (simp; omega)) _ | refine bel_step ?_ (by assumption)))
            · have HS3 := Lib.hid (hs2.trans (show _ = (evs.drop (k + 1)).any fun e => decide (20 < e.stops.length) by simp [hb1]))
              clear hs2
              go_wp2
              go_round
              case rel => exact ⟨k + 1, by omega, by go_num, HS3.out⟩
              case measure => simp [intOf]; omega
          · have HE := Lib.hid (HS.out.trans (show ((evs.drop k).any fun e => decide (20 < e.stops.length)) = false from by rw [List.drop_eq_nil_of_le (by have := HN3.out; omega)]; rfl))
            go_wp2
            go_ret
            exact Ret.mk' (by rw [HE.out]; rfl) (by repeat (first | exact Below.refl _ _ | assumption | refine bel_drewN ?_ _ | refine Below.drew ?_ | refine bel_alloc ?_ _ | refine Below.setCell ?_ (by first | omega | (simp; done) | (simp; omega)) _ | refine bel_step ?_ (by assumption)))
end Go.Proofs.YtkgnmddakiagbaaGreatDoor

/- How big a piece is; the look at the examples. -/
namespace Go.Proofs.YtkgnmddakiagbaaGreatDoor
open Go.RowKit
set_option linter.unusedVariables false
set_option linter.unusedSimpArgs false
set_option maxRecDepth 100000
set_option maxHeartbeats 4000000
theorem pcOk_of2 {p : Pce} (h : bigB p = false) : PcOk p := by
  unfold bigB at h
  simp only [Bool.or_eq_false_iff, decide_eq_false_iff_not, List.any_eq_false] at h
  obtain ⟨h1, h2, h3, h4⟩ := h
  refine ⟨by omega, by omega, by omega, fun k hk => ?_⟩
  have := h4 _ (List.getElem_mem hk)
  simp at this
  exact this
theorem big_FS (p : Pce) : Ctr Tryz.prog 11 [ePce p] (.sc (.bool (bigB p))) :=
  Ctr.of_pc (pre := []) (post := []) rfl rfl (fun _ => .sc _) fun w M hM => big_any M p w hM
theorem works_FS : Ctr Tryz.prog 12 [] (.sc (.bool true)) :=
  Ctr.of_sc (xs := []) rfl (fun _ => .sc _) fun w => works_any w
end Go.Proofs.YtkgnmddakiagbaaGreatDoor

/- The text of a piece: program and reference, and the law's walk. BLD -/
namespace Go.Proofs.YtkgnmddakiagbaaGreatDoor
open Go.RowKit
set_option linter.unusedVariables false
set_option linter.unusedSimpArgs false
set_option maxRecDepth 100000
set_option maxHeartbeats 4000000
def snmT (s : Int) : List UInt8 := if s = 1 then [102, 114, 101, 110, 99, 104] else if s = 2 then [105, 116, 97, 108, 105, 97, 110] else if s = 3 then [115, 112, 97, 110, 105, 115, 104] else [103, 101, 114, 109, 97, 110]
def nameF (s : Int) : FuncId := if s = 1 then 271 else if s = 2 then 286 else if s = 3 then 294 else 301
theorem snmT_len (s : Int) : (snmT s).length ≤ 7 := by unfold snmT; split <;> (try split) <;> (try split) <;> simp
theorem name_FS (s : Int) (hs : 1 ≤ s ∧ s ≤ 4) : Ctr Tryz.prog (nameF s) [.ag []] (.sc (.string (bs (snmT s)))) := by
  rcases sys_cases hs with rfl | rfl | rfl | rfl
  · show Ctr Tryz.prog 271 _ _
    refine Ctr.intro Tryz.func271 rfl Tryz.ntmps271 (Nat.le_of_ble_eq_true rfl) (bd_all rfl) fun w0 F0 => ?_; dsimp only [St.init, number, Nat.reduceAdd]
    repeat (first | refine W.go rfl ?_)
    (first | refine (?_ : W _ _ _ _ _) | refine (?_ : WL _ _ _ _ _ _) | skip)
    try dsimp only [St.put, Nat.reduceAdd]
    exact W.ret (fin1 rfl rfl rfl rfl)
  · show Ctr Tryz.prog 286 _ _
    refine Ctr.intro Tryz.func286 rfl Tryz.ntmps286 (Nat.le_of_ble_eq_true rfl) (bd_all rfl) fun w0 F0 => ?_; dsimp only [St.init, number, Nat.reduceAdd]
    repeat (first | refine W.go rfl ?_)
    (first | refine (?_ : W _ _ _ _ _) | refine (?_ : WL _ _ _ _ _ _) | skip)
    try dsimp only [St.put, Nat.reduceAdd]
    exact W.ret (fin1 rfl rfl rfl rfl)
  · show Ctr Tryz.prog 294 _ _
    refine Ctr.intro Tryz.func294 rfl Tryz.ntmps294 (Nat.le_of_ble_eq_true rfl) (bd_all rfl) fun w0 F0 => ?_; dsimp only [St.init, number, Nat.reduceAdd]
    repeat (first | refine W.go rfl ?_)
    (first | refine (?_ : W _ _ _ _ _) | refine (?_ : WL _ _ _ _ _ _) | skip)
    try dsimp only [St.put, Nat.reduceAdd]
    exact W.ret (fin1 rfl rfl rfl rfl)
  · show Ctr Tryz.prog 301 _ _
    refine Ctr.intro Tryz.func301 rfl Tryz.ntmps301 (Nat.le_of_ble_eq_true rfl) (bd_all rfl) fun w0 F0 => ?_; dsimp only [St.init, number, Nat.reduceAdd]
    repeat (first | refine W.go rfl ?_)
    (first | refine (?_ : W _ _ _ _ _) | refine (?_ : WL _ _ _ _ _ _) | skip)
    try dsimp only [St.put, Nat.reduceAdd]
    exact W.ret (fin1 rfl rfl rfl rfl)
theorem names_FS : Ctr Tryz.prog 126 [] (.ls 1 (([[], snmT 1, snmT 2, snmT 3, snmT 4] : List (List UInt8)).map eStr)) := by
  refine Ctr.intro Tryz.func126 rfl Tryz.ntmps126 (Nat.le_of_ble_eq_true rfl) (bd_all rfl) fun w0 F0 => ?_; dsimp only [St.init, number, Nat.reduceAdd]
  repeat (first | refine W.go rfl ?_)
  (first | refine (?_ : W _ _ _ _ _) | refine (?_ : WL _ _ _ _ _ _) | skip)
  try dsimp only [St.put, Nat.reduceAdd]
  refine W.tr (Tr.freeze 0 rfl) ?_
  exact W.ret (fin1 rfl rfl rfl rfl)
theorem rSysName_FS (s : Int) (hs : 1 ≤ s ∧ s ≤ 4) : Ctr Tryz.prog 53 [.sc (.int .u8 s)] (.tu [.sc (.string (bs (snmT s))), .sc (.int .i64 0)]) := by
  have hK := known_FS s
  rw [decide_eq_true hs] at hK
  rcases sys_cases hs with rfl | rfl | rfl | rfl
  all_goals
    refine Ctr.intro Tryz.func53 rfl Tryz.ntmps53 (Nat.le_of_ble_eq_true rfl) (bd_all rfl) fun w0 F0 => ?_; dsimp only [St.init, number, Nat.reduceAdd]
    repeat (first | refine W.go rfl ?_ | refine WL.ev rfl ?_ | refine WL.idx rfl rfl (by omega) (by first | exact map_at (by omega) | exact map_atZ (by omega) (by omega)) ?_ | refine W.condF rfl ?_)
    (first | refine (?_ : W _ _ _ _ _) | refine (?_ : WL _ _ _ _ _ _) | skip)
    try dsimp only [St.put, Nat.reduceAdd]
    refine WL.vl rfl (WV.call rfl (callF Tryz.func77 rfl rfl) rfl rfl hK) ?_
    repeat (first | refine W.go rfl ?_ | refine WL.ev rfl ?_ | refine WL.idx rfl rfl (by omega) (by first | exact map_at (by omega) | exact map_atZ (by omega) (by omega)) ?_ | refine W.condF rfl ?_)
    (first | refine (?_ : W _ _ _ _ _) | refine (?_ : WL _ _ _ _ _ _) | skip)
    try dsimp only [St.put, Nat.reduceAdd]
    refine WL.vl rfl (WV.call rfl (callF Tryz.func126 rfl rfl) rfl rfl names_FS) ?_
    repeat (first | refine W.go rfl ?_ | refine WL.ev rfl ?_ | refine WL.idx rfl rfl (by omega) (by first | exact map_at (by omega) | exact map_atZ (by omega) (by omega)) ?_ | refine W.condF rfl ?_)
    (first | refine (?_ : W _ _ _ _ _) | refine (?_ : WL _ _ _ _ _ _) | skip)
    try dsimp only [St.put, Nat.reduceAdd]
    refine WL.idx rfl rfl (by omega) rfl ?_
    repeat (first | refine W.go rfl ?_ | refine WL.ev rfl ?_ | refine WL.idx rfl rfl (by omega) (by first | exact map_at (by omega) | exact map_atZ (by omega) (by omega)) ?_ | refine W.condF rfl ?_)
    (first | refine (?_ : W _ _ _ _ _) | refine (?_ : WL _ _ _ _ _ _) | skip)
    try dsimp only [St.put, Nat.reduceAdd]
    exact W.ret (fin2 rfl rfl rfl rfl rfl rfl rfl)
/-! The text of a piece. -/
def hdW (s : Int) (p : Pce) : List UInt8 := [116, 97, 98, 108, 97, 116, 117, 114, 101, 32] ++ snmT s ++ [10] ++ fmA p.cs p.st ++ [10]
def colN (s : Int) (p : Pce) (i : Nat) : List UInt8 := (match p.evs[i]? with
  | some e => colS s p i e
  | none => []) ++ [10]
def bodyW (s : Int) (p : Pce) : Nat → List UInt8
  | 0 => []
  | k + 1 => bodyW s p k ++ colN s p k
def wrX (s : Int) (p : Pce) : Int := if lksE s p ≠ 0 then lksE s p else if lksR s p = [] then 0 else 31
def wrT (s : Int) (p : Pce) : List UInt8 := if wrX s p = 0 then hdW s p ++ bodyW s p p.evs.length else []
theorem colN_at {s : Int} {p : Pce} {i : Nat} (h : i < p.evs.length) : colN s p i = colS s p i p.evs[i] ++ [10] := by unfold colN; rw [List.getElem?_eq_getElem h]
theorem colS_len {s : Int} (hs : 1 ≤ s ∧ s ≤ 4) {p : Pce} (hO : PcOk p) (h0 : pceE p = 0) (i : Nat) (hi : i < p.evs.length) : (colS s p i p.evs[i]).length ≤ 1000000 :=
  (joinW_bd s hs p i p.evs[i] (evE_zero ((pceE_zero h0).2.2 i hi)).1 (stopsIn_of h0 i hi) (hO.n4 i hi)).2
theorem bodyW_len {s : Int} (hs : 1 ≤ s ∧ s ≤ 4) {p : Pce} (hO : PcOk p) (h0 : pceE p = 0) : ∀ k, k ≤ p.evs.length → (bodyW s p k).length ≤ 1000001 * k
  | 0, _ => by simp [bodyW]
  | k + 1, h => by
    have h1 := bodyW_len hs hO h0 k (by omega)
    have h2 := colS_len hs hO h0 k (by omega)
    unfold bodyW
    rw [colN_at (by omega)]
    simp only [List.length_append, List.length_cons, List.length_nil]; omega
theorem fmA_len (cs : List (Int × Int × Bool)) (st : List Int) : (fmA cs st).length ≤ 1200 := by
  unfold fmA
  split
  · rename_i h
    have h1 := crsTs_len h cs.length
    have h2 := stpTs_len h st.length
    rw [List.take_length] at h1 h2
    unfold fmT
    simp only [List.length_append, List.length_cons, List.length_nil]; omega
  · simp
theorem lksTo_none {s : Int} {p : Pce} : ∀ k, k ≤ p.evs.length → lksTo s p k = [] → ∀ i (h : i < k) (h2 : i < p.evs.length), lackE s p i p.evs[i] = []
  | 0, _, _, i, h, _ => by omega
  | k + 1, hk, hn, i, h, h2 => by
    rw [lksTo_at s p (by omega : k < p.evs.length)] at hn
    have := List.append_eq_nil_iff.1 hn
    by_cases e : i = k
    · subst e; exact this.2
    · exact lksTo_none k (by omega) this.1 i (by omega) h2
theorem wr_err {s : Int} {p : Pce} (h : lksE s p ≠ 0) : wrX s p = lksE s p ∧ wrT s p = [] := by
  have : wrX s p = lksE s p := if_pos h
  exact ⟨this, by unfold wrT; rw [this, if_neg h]⟩
theorem wr_no {s : Int} {p : Pce} (h : lksE s p = 0) (h2 : lksR s p ≠ []) : wrX s p = 31 ∧ wrT s p = [] := by
  have : wrX s p = 31 := by unfold wrX; rw [if_neg (fun k => k h), if_neg h2]
  exact ⟨this, by unfold wrT; rw [this]; rfl⟩
theorem wr_ok {s : Int} {p : Pce} (h : lksE s p = 0) (h2 : lksR s p = []) : wrX s p = 0 ∧ wrT s p = hdW s p ++ bodyW s p p.evs.length := by
  have : wrX s p = 0 := by unfold wrX; rw [if_neg (fun k => k h), if_pos h2]
  exact ⟨this, by unfold wrT; rw [this]; rfl⟩
theorem pWrite_G (s : Int) (p : Pce) (hO : PcOk p) : Ctg tabB Tryz.prog 13 [.sc (.int .u8 s), ePce p] (.tu [.sc (.string (bs (wrT s p))), .sc (.int .i64 (wrX s p))]) := by
  have hn3 := hO.n3
  refine Ctg.intro stabB Tryz.func13 rfl Tryz.ntmps13 (Nat.le_of_ble_eq_true rfl) (bd_all rfl) fun w0 F0 hB => ?_; dsimp only [St.init, number, Nat.reduceAdd]
  repeat (first | refine W.go rfl ?_ | refine WL.nil ?_ | refine WL.ar rfl rfl (by unfold I64; omega) ?_ | refine WL.len rfl rfl (by first | exact List.length_map _ | exact List.length_replicate | rfl) ?_ | refine WL.cat rfl rfl (by first | omega | (simp; done) | (simp; omega)) ?_ | refine W.condT rfl ?_ | refine W.condF rfl ?_)
  (first | refine (?_ : W _ _ _ _ _) | refine (?_ : WL _ _ _ _ _ _) | skip)
  try dsimp only [St.put, Nat.reduceAdd]
  refine WL.vl rfl (WV.call rfl (callF Tryz.func44 rfl rfl) rfl rfl (of_FS s)) ?_
  by_cases hs : 1 ≤ s ∧ s ≤ 4
  rotate_left
  · have hE := (lks_bad (p := p) hs).2
    rw [(wr_err (by omega)).1, (wr_err (by omega)).2, hE, decide_eq_false hs]
    repeat (first | refine W.gob rfl ?_ | refine WL.nil ?_ | refine WL.bt rfl rfl rfl (by omega) ?_ | refine WL.bf rfl rfl rfl (by omega) ?_ | refine WL.nt rfl rfl rfl (by omega) ?_ | refine WL.nf rfl rfl rfl (by omega) ?_ | refine WL.e1 rfl ?_ | refine WL.ar rfl rfl (by unfold I64; omega) ?_ | refine WL.len rfl rfl (by first | exact List.length_map _ | exact List.length_replicate | rfl) ?_ | refine WL.cat rfl rfl (by first | omega | (simp; done) | (simp; omega)) ?_ | refine W.condT rfl ?_ | refine W.condF rfl ?_)
    (first | refine (?_ : W _ _ _ _ _) | refine (?_ : WL _ _ _ _ _ _) | skip)
    try dsimp only [St.put, Nat.reduceAdd]
    exact W.ret (fin2 rfl rfl rfl rfl rfl rfl rfl)
  rw [decide_eq_true hs]
  repeat (first | refine W.gob rfl ?_ | refine WL.nil ?_ | refine WL.bt rfl rfl rfl (by omega) ?_ | refine WL.bf rfl rfl rfl (by omega) ?_ | refine WL.nt rfl rfl rfl (by omega) ?_ | refine WL.nf rfl rfl rfl (by omega) ?_ | refine WL.e1 rfl ?_ | refine WL.ar rfl rfl (by unfold I64; omega) ?_ | refine WL.len rfl rfl (by first | exact List.length_map _ | exact List.length_replicate | rfl) ?_ | refine WL.cat rfl rfl (by first | omega | (simp; done) | (simp; omega)) ?_ | refine W.condT rfl ?_ | refine W.condF rfl ?_)
  (first | refine (?_ : W _ _ _ _ _) | refine (?_ : WL _ _ _ _ _ _) | skip)
  try dsimp only [St.put, Nat.reduceAdd]
  refine WL.vl rfl (WV.call rfl (callF Tryz.func45 rfl rfl) rfl rfl (pCheck_FS p hO)) ?_
  by_cases h0 : pceE p = 0
  rotate_left
  · have hE := (lks_err hs h0).2
    rw [(wr_err (by omega)).1, (wr_err (by omega)).2, hE]
    repeat (first | refine W.gob rfl ?_ | refine WL.nil ?_ | refine WL.bt rfl rfl rfl (by omega) ?_ | refine WL.bf rfl rfl rfl (by omega) ?_ | refine WL.nt rfl rfl rfl (by omega) ?_ | refine WL.nf rfl rfl rfl (by omega) ?_ | refine WL.e1 rfl ?_ | refine WL.ar rfl rfl (by unfold I64; omega) ?_ | refine WL.len rfl rfl (by first | exact List.length_map _ | exact List.length_replicate | rfl) ?_ | refine WL.cat rfl rfl (by first | omega | (simp; done) | (simp; omega)) ?_ | refine W.condT rfl ?_ | refine W.condF rfl ?_)
    (first | refine (?_ : W _ _ _ _ _) | refine (?_ : WL _ _ _ _ _ _) | skip)
    try dsimp only [St.put, Nat.reduceAdd]
    exact W.ret (fin2 rfl rfl rfl rfl rfl rfl rfl)
  have hE := (lks_ok hs h0).2
  have hR := (lks_ok hs h0).1
  have hc := pCan_FS s p hO
  rw [hE] at hc
  rw [h0]
  repeat (first | refine W.gob rfl ?_ | refine WL.nil ?_ | refine WL.bt rfl rfl rfl (by omega) ?_ | refine WL.bf rfl rfl rfl (by omega) ?_ | refine WL.nt rfl rfl rfl (by omega) ?_ | refine WL.nf rfl rfl rfl (by omega) ?_ | refine WL.e1 rfl ?_ | refine WL.ar rfl rfl (by unfold I64; omega) ?_ | refine WL.len rfl rfl (by first | exact List.length_map _ | exact List.length_replicate | rfl) ?_ | refine WL.cat rfl rfl (by first | omega | (simp; done) | (simp; omega)) ?_ | refine W.condT rfl ?_ | refine W.condF rfl ?_)
  (first | refine (?_ : W _ _ _ _ _) | refine (?_ : WL _ _ _ _ _ _) | skip)
  try dsimp only [St.put, Nat.reduceAdd]
  by_cases hl : lksR s p = []
  rotate_left
  · rw [(wr_no hE hl).1, (wr_no hE hl).2]
    have hb : ((0 : Int) == 0 && ((lksR s p).length : Int) == 0) = false := by
      have : (lksR s p).length ≠ 0 := fun h => hl (List.eq_nil_of_length_eq_zero h)
      simp; omega
    rw [hb] at hc
    refine WL.vl rfl (WV.call rfl (callF Tryz.func46 rfl rfl) rfl rfl hc) ?_
    repeat (first | refine W.gob rfl ?_ | refine WL.nil ?_ | refine WL.bt rfl rfl rfl (by omega) ?_ | refine WL.bf rfl rfl rfl (by omega) ?_ | refine WL.nt rfl rfl rfl (by omega) ?_ | refine WL.nf rfl rfl rfl (by omega) ?_ | refine WL.e1 rfl ?_ | refine WL.ar rfl rfl (by unfold I64; omega) ?_ | refine WL.len rfl rfl (by first | exact List.length_map _ | exact List.length_replicate | rfl) ?_ | refine WL.cat rfl rfl (by first | omega | (simp; done) | (simp; omega)) ?_ | refine W.condT rfl ?_ | refine W.condF rfl ?_)
    (first | refine (?_ : W _ _ _ _ _) | refine (?_ : WL _ _ _ _ _ _) | skip)
    try dsimp only [St.put, Nat.reduceAdd]
    exact W.ret (fin2 rfl rfl rfl rfl rfl rfl rfl)
  rw [(wr_ok hE hl).1, (wr_ok hE hl).2]
  have hb : ((0 : Int) == 0 && ((lksR s p).length : Int) == 0) = true := by rw [hl]; rfl
  rw [hb] at hc
  refine WL.vl rfl (WV.call rfl (callF Tryz.func46 rfl rfl) rfl rfl hc) ?_
  repeat (first | refine W.gob rfl ?_ | refine WL.nil ?_ | refine WL.bt rfl rfl rfl (by omega) ?_ | refine WL.bf rfl rfl rfl (by omega) ?_ | refine WL.nt rfl rfl rfl (by omega) ?_ | refine WL.nf rfl rfl rfl (by omega) ?_ | refine WL.e1 rfl ?_ | refine WL.ar rfl rfl (by unfold I64; omega) ?_ | refine WL.len rfl rfl (by first | exact List.length_map _ | exact List.length_replicate | rfl) ?_ | refine WL.cat rfl rfl (by first | omega | (simp; done) | (simp; omega)) ?_ | refine W.condT rfl ?_ | refine W.condF rfl ?_)
  (first | refine (?_ : W _ _ _ _ _) | refine (?_ : WL _ _ _ _ _ _) | skip)
  try dsimp only [St.put, Nat.reduceAdd]
  have hF := pFormat_G p.cs p.st
  have hins : insE p.cs p.st = 0 := (pceE_zero h0).1
  rw [hins] at hF
  refine WL.vl rfl (WV.callG hB rfl (callF Tryz.func47 rfl rfl) rfl rfl hF) ?_
  repeat (first | refine W.gob rfl ?_ | refine WL.nil ?_ | refine WL.bt rfl rfl rfl (by omega) ?_ | refine WL.bf rfl rfl rfl (by omega) ?_ | refine WL.nt rfl rfl rfl (by omega) ?_ | refine WL.nf rfl rfl rfl (by omega) ?_ | refine WL.e1 rfl ?_ | refine WL.ar rfl rfl (by unfold I64; omega) ?_ | refine WL.len rfl rfl (by first | exact List.length_map _ | exact List.length_replicate | rfl) ?_ | refine WL.cat rfl rfl (by first | omega | (simp; done) | (simp; omega)) ?_ | refine W.condT rfl ?_ | refine W.condF rfl ?_)
  (first | refine (?_ : W _ _ _ _ _) | refine (?_ : WL _ _ _ _ _ _) | skip)
  try dsimp only [St.put, Nat.reduceAdd]
  first | refine W.tr (Tr.bld 1 5 rfl) ?_ | refine WL.tr (Tr.bld 1 5 rfl) ?_
  dsimp only [St.upd]
  have hsl := snmT_len s
  have hfl := fmA_len p.cs p.st
  have hhd : hdW s p = [116, 97, 98, 108, 97, 116, 117, 114, 101, 32] ++ snmT s ++ [10] ++ fmA p.cs p.st ++ [10] := rfl
  obtain ⟨sn, hsn⟩ : ∃ z, snmT s = z := ⟨_, rfl⟩
  obtain ⟨fm, hfm⟩ : ∃ z, fmA p.cs p.st = z := ⟨_, rfl⟩
  have hnm := name_FS s hs
  rw [hsn] at hsl hhd hnm
  rw [hfm] at hfl hhd ⊢
  have hd1 : ([116, 97, 98, 108, 97, 116, 117, 114, 101, 32] ++ sn).length ≤ 17 := by simp only [List.length_append, List.length_cons, List.length_nil]; omega
  have hd2 : ([116, 97, 98, 108, 97, 116, 117, 114, 101, 32] ++ sn ++ [10]).length ≤ 18 := by simp only [List.length_append, List.length_cons, List.length_nil]; omega
  have hd3 : ([116, 97, 98, 108, 97, 116, 117, 114, 101, 32] ++ sn ++ [10] ++ fm).length ≤ 1218 := by simp only [List.length_append, List.length_cons, List.length_nil]; omega
  have hd4 : ([116, 97, 98, 108, 97, 116, 117, 114, 101, 32] ++ sn ++ [10] ++ fm ++ [10]).length ≤ 1219 := by simp only [List.length_append, List.length_cons, List.length_nil]; omega
  repeat (first | refine W.gob rfl ?_ | refine WL.nil ?_ | refine WL.bt rfl rfl rfl (by omega) ?_ | refine WL.bf rfl rfl rfl (by omega) ?_ | refine WL.nt rfl rfl rfl (by omega) ?_ | refine WL.nf rfl rfl rfl (by omega) ?_ | refine WL.e1 rfl ?_ | refine WL.ar rfl rfl (by unfold I64; omega) ?_ | refine WL.len rfl rfl (by first | exact List.length_map _ | exact List.length_replicate | rfl) ?_ | refine WL.cat rfl rfl (by first | omega | (simp; done) | (simp; omega)) ?_ | refine W.condT rfl ?_ | refine W.condF rfl ?_)
  (first | refine (?_ : W _ _ _ _ _) | refine (?_ : WL _ _ _ _ _ _) | skip)
  try dsimp only [St.put, Nat.reduceAdd]
  refine WL.vl rfl (WV.sys hs nameF rfl rfl (fun vs w => by kernel_rfl) (fun vs w => by kernel_rfl) (fun vs w => by kernel_rfl) (fun vs w => by kernel_rfl) rfl rfl hnm) ?_
  repeat (first | refine W.gob rfl ?_ | refine WL.nil ?_ | refine WL.bt rfl rfl rfl (by omega) ?_ | refine WL.bf rfl rfl rfl (by omega) ?_ | refine WL.nt rfl rfl rfl (by omega) ?_ | refine WL.nf rfl rfl rfl (by omega) ?_ | refine WL.e1 rfl ?_ | refine WL.ar rfl rfl (by unfold I64; omega) ?_ | refine WL.len rfl rfl (by first | exact List.length_map _ | exact List.length_replicate | rfl) ?_ | refine WL.cat rfl rfl (by first | omega | (simp; done) | (simp; omega)) ?_ | refine W.condT rfl ?_ | refine W.condF rfl ?_)
  (first | refine (?_ : W _ _ _ _ _) | refine (?_ : WL _ _ _ _ _ _) | skip)
  try dsimp only [St.put, Nat.reduceAdd]
  rw [← hhd] at hd4 ⊢
  obtain ⟨hd, hhd2⟩ : ∃ z, hdW s p = z := ⟨_, rfl⟩
  rw [hhd2] at hd4 ⊢
  refine WL.bw rfl rfl rfl (callF Tryz.func48 rfl rfl) bldW_ok (by simp only [List.length_nil]; omega) (List.nil_append _) ?_
  repeat (first | refine W.gob rfl ?_ | refine WL.nil ?_ | refine WL.bt rfl rfl rfl (by omega) ?_ | refine WL.bf rfl rfl rfl (by omega) ?_ | refine WL.nt rfl rfl rfl (by omega) ?_ | refine WL.nf rfl rfl rfl (by omega) ?_ | refine WL.e1 rfl ?_ | refine WL.ar rfl rfl (by unfold I64; omega) ?_ | refine WL.len rfl rfl (by first | exact List.length_map _ | exact List.length_replicate | rfl) ?_ | refine WL.cat rfl rfl (by first | omega | (simp; done) | (simp; omega)) ?_ | refine W.condT rfl ?_ | refine W.condF rfl ?_)
  (first | refine (?_ : W _ _ _ _ _) | refine (?_ : WL _ _ _ _ _ _) | skip)
  try dsimp only [St.put, Nat.reduceAdd]
  have hbl := bodyW_len hs hO h0
  have hnil : ∀ i (h : i < p.evs.length), lackE s p i p.evs[i] = [] := fun i h => lksTo_none p.evs.length (Nat.le_refl _) (by rw [← hR]; exact hl) i h h
  refine W.loop (fun k : Nat => k ≤ p.evs.length) (fun k => ⟨[(0, .sc (.int .u8 s)), (3, .pt 0 0 0), (6, .sc (sysV s)), (11, .pt 1 0 0), (48, .sc (.int .i64 p.evs.length)), (49, .sc (.int .i64 k))], [(0, .box 29 (ePce p).cells), (1, .bld 95 5 (hd ++ bodyW s p k))], 2⟩) (fun k => p.evs.length - k) 0 (by omega) (Tr.ren (fun q => q) (by repeat (first | exact trivial | refine ⟨⟨?_, ?_⟩, ?_⟩ | rfl)) (by repeat (first | exact trivial | refine ⟨⟨?_, ?_, ?_⟩, ?_⟩ | rfl | exact congrArg (fun q => some (AO.row _ _ q)) (List.append_nil _).symm | exact congrArg (fun q => some (AO.bld _ _ q)) (List.append_nil _).symm)) rfl) fun k hk => ?_
  have hbk := hbl k hk
  by_cases hk2 : k < p.evs.length
  · have hcl := colS_len hs hO h0 k hk2
    have hrow : hd ++ bodyW s p k ++ (colS s p k p.evs[k] ++ [10]) = hd ++ bodyW s p (k + 1) := by
      rw [List.append_assoc, ← colN_at hk2]; rfl
    have hcol := column_FS s hs p k hk2 hO h0
    obtain ⟨co, hco⟩ : ∃ z, colS s p k p.evs[k] = z := ⟨_, rfl⟩
    rw [hco] at hcl hrow hcol
    have hln : (hd ++ bodyW s p k).length ≤ 500000000 := by rw [List.length_append]; omega
    have hcn : (co ++ [10]).length ≤ 1000001 := by rw [List.length_append]; simp only [List.length_cons, List.length_nil]; omega
    repeat (first | refine W.gob rfl ?_ | refine WL.nil ?_ | refine WL.bt rfl rfl rfl (by omega) ?_ | refine WL.bf rfl rfl rfl (by omega) ?_ | refine WL.nt rfl rfl rfl (by omega) ?_ | refine WL.nf rfl rfl rfl (by omega) ?_ | refine WL.e1 rfl ?_ | refine WL.ar rfl rfl (by unfold I64; omega) ?_ | refine WL.len rfl rfl (by first | exact List.length_map _ | exact List.length_replicate | rfl) ?_ | refine WL.cat rfl rfl (by first | omega | (simp; done) | (simp; omega)) ?_ | refine W.condT rfl ?_ | refine W.condF rfl ?_)
    (first | refine (?_ : W _ _ _ _ _) | refine (?_ : WL _ _ _ _ _ _) | skip)
    try dsimp only [St.put, Nat.reduceAdd]
    refine WL.vl rfl (WV.call rfl (callF Tryz.func49 rfl rfl) rfl rfl hcol) ?_
    repeat (first | refine W.gob rfl ?_ | refine WL.nil ?_ | refine WL.bt rfl rfl rfl (by omega) ?_ | refine WL.bf rfl rfl rfl (by omega) ?_ | refine WL.nt rfl rfl rfl (by omega) ?_ | refine WL.nf rfl rfl rfl (by omega) ?_ | refine WL.e1 rfl ?_ | refine WL.ar rfl rfl (by unfold I64; omega) ?_ | refine WL.len rfl rfl (by first | exact List.length_map _ | exact List.length_replicate | rfl) ?_ | refine WL.cat rfl rfl (by first | omega | (simp; done) | (simp; omega)) ?_ | refine W.condT rfl ?_ | refine W.condF rfl ?_)
    (first | refine (?_ : W _ _ _ _ _) | refine (?_ : WL _ _ _ _ _ _) | skip)
    try dsimp only [St.put, Nat.reduceAdd]
    refine WL.bw rfl rfl rfl (callF Tryz.func48 rfl rfl) bldW_ok (by omega) hrow ?_
    repeat (first | refine W.gob rfl ?_ | refine WL.nil ?_ | refine WL.bt rfl rfl rfl (by omega) ?_ | refine WL.bf rfl rfl rfl (by omega) ?_ | refine WL.nt rfl rfl rfl (by omega) ?_ | refine WL.nf rfl rfl rfl (by omega) ?_ | refine WL.e1 rfl ?_ | refine WL.ar rfl rfl (by unfold I64; omega) ?_ | refine WL.len rfl rfl (by first | exact List.length_map _ | exact List.length_replicate | rfl) ?_ | refine WL.cat rfl rfl (by first | omega | (simp; done) | (simp; omega)) ?_ | refine W.condT rfl ?_ | refine W.condF rfl ?_)
    (first | refine (?_ : W _ _ _ _ _) | refine (?_ : WL _ _ _ _ _ _) | skip)
    try dsimp only [St.put, Nat.reduceAdd]
    refine ⟨k + 1, by omega, by omega, ?_⟩
    exact (Tr.ren (fun q => q) (by repeat (first | exact trivial | refine ⟨⟨?_, ?_⟩, ?_⟩ | rfl)) (by repeat (first | exact trivial | refine ⟨⟨?_, ?_, ?_⟩, ?_⟩ | rfl | exact congrArg (fun q => some (AO.row _ _ q)) (by first | rfl | (simp; done) | (simp [eInt]; done) | (simp [eLk]; done)))) rfl)
  have hke : k = p.evs.length := by omega
  rw [hke]
  have hne : hd ++ bodyW s p p.evs.length ≠ [] := by
    rw [← hhd2, hhd]; simp
  repeat (first | refine W.gob rfl ?_ | refine WL.nil ?_ | refine WL.bt rfl rfl rfl (by omega) ?_ | refine WL.bf rfl rfl rfl (by omega) ?_ | refine WL.nt rfl rfl rfl (by omega) ?_ | refine WL.nf rfl rfl rfl (by omega) ?_ | refine WL.e1 rfl ?_ | refine WL.ar rfl rfl (by unfold I64; omega) ?_ | refine WL.len rfl rfl (by first | exact List.length_map _ | exact List.length_replicate | rfl) ?_ | refine WL.cat rfl rfl (by first | omega | (simp; done) | (simp; omega)) ?_ | refine W.condT rfl ?_ | refine W.condF rfl ?_)
  (first | refine (?_ : W _ _ _ _ _) | refine (?_ : WL _ _ _ _ _ _) | skip)
  try dsimp only [St.put, Nat.reduceAdd]
  refine WL.bs rfl rfl rfl (callF Tryz.func50 rfl rfl) bldS_ok hne ?_
  repeat (first | refine W.gob rfl ?_ | refine WL.nil ?_ | refine WL.bt rfl rfl rfl (by omega) ?_ | refine WL.bf rfl rfl rfl (by omega) ?_ | refine WL.nt rfl rfl rfl (by omega) ?_ | refine WL.nf rfl rfl rfl (by omega) ?_ | refine WL.e1 rfl ?_ | refine WL.ar rfl rfl (by unfold I64; omega) ?_ | refine WL.len rfl rfl (by first | exact List.length_map _ | exact List.length_replicate | rfl) ?_ | refine WL.cat rfl rfl (by first | omega | (simp; done) | (simp; omega)) ?_ | refine W.condT rfl ?_ | refine W.condF rfl ?_)
  (first | refine (?_ : W _ _ _ _ _) | refine (?_ : WL _ _ _ _ _ _) | skip)
  try dsimp only [St.put, Nat.reduceAdd]
  exact W.ret (fin2 rfl rfl rfl rfl rfl rfl rfl)
theorem rWrite_FS (s : Int) (p : Pce) (hO : PcOk p) : Ctr Tryz.prog 15 [.sc (.int .u8 s), ePce p] (.tu [.sc (.string (bs (wrT s p))), .sc (.int .i64 (wrX s p))]) := by
  have hn3 := hO.n3
  have hlen : (lksR s p).length ≤ 27000 := by
    unfold lksR
    split
    · exact lksTo_len s hO _ (Nat.le_refl _)
    · simp
  refine Ctr.intro Tryz.func15 rfl Tryz.ntmps15 (Nat.le_of_ble_eq_true rfl) (bd_all rfl) fun w0 F0 => ?_; dsimp only [St.init, number, Nat.reduceAdd]
  repeat (first | refine W.go rfl ?_ | refine WL.nil ?_ | refine WL.ar rfl rfl (by unfold I64; omega) ?_ | refine WL.len rfl rfl (by first | exact List.length_map _ | exact List.length_replicate | rfl) ?_ | refine WL.cat rfl rfl (by first | omega | (simp; done) | (simp; omega)) ?_ | refine W.condT rfl ?_ | refine W.condF rfl ?_)
  (first | refine (?_ : W _ _ _ _ _) | refine (?_ : WL _ _ _ _ _ _) | skip)
  try dsimp only [St.put, Nat.reduceAdd]
  refine WL.vl rfl (WV.call rfl (callF Tryz.func52 rfl rfl) rfl rfl (rLacks_FS s p hO)) ?_
  by_cases hE : lksE s p = 0
  rotate_left
  · rw [(wr_err hE).1, (wr_err hE).2]
    repeat (first | refine W.gob rfl ?_ | refine WL.nil ?_ | refine WL.bt rfl rfl rfl (by omega) ?_ | refine WL.bf rfl rfl rfl (by omega) ?_ | refine WL.nt rfl rfl rfl (by omega) ?_ | refine WL.nf rfl rfl rfl (by omega) ?_ | refine WL.e1 rfl ?_ | refine WL.ar rfl rfl (by unfold I64; omega) ?_ | refine WL.len rfl rfl (by first | exact List.length_map _ | exact List.length_replicate | rfl) ?_ | refine WL.cat rfl rfl (by first | omega | (simp; done) | (simp; omega)) ?_ | refine W.condT rfl ?_ | refine W.condF rfl ?_)
    (first | refine (?_ : W _ _ _ _ _) | refine (?_ : WL _ _ _ _ _ _) | skip)
    try dsimp only [St.put, Nat.reduceAdd]
    exact W.ret (fin2 rfl rfl rfl rfl rfl rfl rfl)
  rw [hE]
  by_cases hl : lksR s p = []
  rotate_left
  · have hpos : 0 < (lksR s p).length := List.length_pos_iff.2 hl
    rw [(wr_no hE hl).1, (wr_no hE hl).2]
    repeat (first | refine W.gob rfl ?_ | refine WL.nil ?_ | refine WL.bt rfl rfl rfl (by omega) ?_ | refine WL.bf rfl rfl rfl (by omega) ?_ | refine WL.nt rfl rfl rfl (by omega) ?_ | refine WL.nf rfl rfl rfl (by omega) ?_ | refine WL.e1 rfl ?_ | refine WL.ar rfl rfl (by unfold I64; omega) ?_ | refine WL.len rfl rfl (by first | exact List.length_map _ | exact List.length_replicate | rfl) ?_ | refine WL.cat rfl rfl (by first | omega | (simp; done) | (simp; omega)) ?_ | refine W.condT rfl ?_ | refine W.condF rfl ?_)
    (first | refine (?_ : W _ _ _ _ _) | refine (?_ : WL _ _ _ _ _ _) | skip)
    try dsimp only [St.put, Nat.reduceAdd]
    exact W.ret (fin2 rfl rfl rfl rfl rfl rfl rfl)
  have hs : 1 ≤ s ∧ s ≤ 4 := by
    by_cases h : 1 ≤ s ∧ s ≤ 4
    · exact h
    · have := (lks_bad (p := p) h).2; omega
  have h0 : pceE p = 0 := by
    by_cases h : pceE p = 0
    · exact h
    · have := (lks_err hs h).2; omega
  rw [(wr_ok hE hl).1, (wr_ok hE hl).2, hl]
  have hR := (lks_ok hs h0).1
  have hF := rFormat_FS p.cs p.st
  have hins : insE p.cs p.st = 0 := (pceE_zero h0).1
  rw [hins] at hF
  repeat (first | refine W.gob rfl ?_ | refine WL.nil ?_ | refine WL.bt rfl rfl rfl (by omega) ?_ | refine WL.bf rfl rfl rfl (by omega) ?_ | refine WL.nt rfl rfl rfl (by omega) ?_ | refine WL.nf rfl rfl rfl (by omega) ?_ | refine WL.e1 rfl ?_ | refine WL.ar rfl rfl (by unfold I64; omega) ?_ | refine WL.len rfl rfl (by first | exact List.length_map _ | exact List.length_replicate | rfl) ?_ | refine WL.cat rfl rfl (by first | omega | (simp; done) | (simp; omega)) ?_ | refine W.condT rfl ?_ | refine W.condF rfl ?_)
  (first | refine (?_ : W _ _ _ _ _) | refine (?_ : WL _ _ _ _ _ _) | skip)
  try dsimp only [St.put, Nat.reduceAdd]
  refine WL.vl rfl (WV.call rfl (callF Tryz.func53 rfl rfl) rfl rfl (rSysName_FS s hs)) ?_
  have hsl := snmT_len s
  have hfl := fmA_len p.cs p.st
  have hhd : hdW s p = [116, 97, 98, 108, 97, 116, 117, 114, 101, 32] ++ snmT s ++ [10] ++ fmA p.cs p.st ++ [10] := rfl
  obtain ⟨sn, hsn⟩ : ∃ z, snmT s = z := ⟨_, rfl⟩
  obtain ⟨fm, hfm⟩ : ∃ z, fmA p.cs p.st = z := ⟨_, rfl⟩
  rw [hsn] at hsl hhd ⊢
  rw [hfm] at hfl hhd hF
  have hd1 : ([116, 97, 98, 108, 97, 116, 117, 114, 101, 32] ++ sn).length ≤ 17 := by simp only [List.length_append, List.length_cons, List.length_nil]; omega
  have hd2 : ([116, 97, 98, 108, 97, 116, 117, 114, 101, 32] ++ sn ++ [10]).length ≤ 18 := by simp only [List.length_append, List.length_cons, List.length_nil]; omega
  have hd3 : ([116, 97, 98, 108, 97, 116, 117, 114, 101, 32] ++ sn ++ [10] ++ fm).length ≤ 1218 := by simp only [List.length_append, List.length_cons, List.length_nil]; omega
  have hd4 : ([116, 97, 98, 108, 97, 116, 117, 114, 101, 32] ++ sn ++ [10] ++ fm ++ [10]).length ≤ 1219 := by simp only [List.length_append, List.length_cons, List.length_nil]; omega
  repeat (first | refine W.gob rfl ?_ | refine WL.nil ?_ | refine WL.bt rfl rfl rfl (by omega) ?_ | refine WL.bf rfl rfl rfl (by omega) ?_ | refine WL.nt rfl rfl rfl (by omega) ?_ | refine WL.nf rfl rfl rfl (by omega) ?_ | refine WL.e1 rfl ?_ | refine WL.ar rfl rfl (by unfold I64; omega) ?_ | refine WL.len rfl rfl (by first | exact List.length_map _ | exact List.length_replicate | rfl) ?_ | refine WL.cat rfl rfl (by first | omega | (simp; done) | (simp; omega)) ?_ | refine W.condT rfl ?_ | refine W.condF rfl ?_)
  (first | refine (?_ : W _ _ _ _ _) | refine (?_ : WL _ _ _ _ _ _) | skip)
  try dsimp only [St.put, Nat.reduceAdd]
  refine WL.vl rfl (WV.call rfl (callF Tryz.func54 rfl rfl) rfl rfl hF) ?_
  obtain ⟨R, hRR⟩ : ∃ z, hdW s p ++ bodyW s p p.evs.length = z := ⟨_, rfl⟩
  rw [hRR]
  repeat (first | refine W.gob rfl ?_ | refine WL.nil ?_ | refine WL.bt rfl rfl rfl (by omega) ?_ | refine WL.bf rfl rfl rfl (by omega) ?_ | refine WL.nt rfl rfl rfl (by omega) ?_ | refine WL.nf rfl rfl rfl (by omega) ?_ | refine WL.e1 rfl ?_ | refine WL.ar rfl rfl (by unfold I64; omega) ?_ | refine WL.len rfl rfl (by first | exact List.length_map _ | exact List.length_replicate | rfl) ?_ | refine WL.cat rfl rfl (by first | omega | (simp; done) | (simp; omega)) ?_ | refine W.condT rfl ?_ | refine W.condF rfl ?_)
  (first | refine (?_ : W _ _ _ _ _) | refine (?_ : WL _ _ _ _ _ _) | skip)
  try dsimp only [St.put, Nat.reduceAdd]
  rw [← hhd] at hd4 ⊢
  have hz : hdW s p = hdW s p ++ bodyW s p 0 := (List.append_nil _).symm
  rw [hz]
  have hbl := bodyW_len hs hO h0
  have hnil : ∀ i (h : i < p.evs.length), lackE s p i p.evs[i] = [] := fun i h => lksTo_none p.evs.length (Nat.le_refl _) (by rw [← hR]; exact hl) i h h
  refine W.loop (fun k : Nat => k ≤ p.evs.length) (fun k => ⟨[(0, .sc (.int .u8 s)), (3, .pt 0 0 0), (12, .sc (.string (bs (hdW s p ++ bodyW s p k)))), (13, .sc (.int .i64 k))], [(0, .box 29 (ePce p).cells)], 1⟩) (fun k => p.evs.length - k) 0 (by omega) (Tr.ren id (by repeat (first | exact trivial | refine ⟨⟨?_, ?_⟩, ?_⟩ | rfl)) (by repeat (first | exact trivial | refine ⟨⟨?_, ?_, ?_⟩, ?_⟩ | rfl)) rfl) fun k hk => ?_
  have hbk := hbl k hk
  by_cases hk2 : k < p.evs.length
  · have hcl := colS_len hs hO h0 k hk2
    have hrow : hdW s p ++ bodyW s p k ++ colS s p k p.evs[k] ++ [10] = hdW s p ++ bodyW s p (k + 1) := by
      rw [List.append_assoc, List.append_assoc, ← colN_at hk2]; rfl
    have hcol := rcolumn_FS s hs p k hk2 hO h0 (hnil k hk2)
    obtain ⟨co, hco⟩ : ∃ z, colS s p k p.evs[k] = z := ⟨_, rfl⟩
    rw [hco] at hcl hrow hcol
    have hln : (hdW s p ++ bodyW s p k).length ≤ 500000000 := by rw [List.length_append]; omega
    obtain ⟨ac, hac⟩ : ∃ z, hdW s p ++ bodyW s p k = z := ⟨_, rfl⟩
    rw [hac] at hln hrow ⊢
    have hcn : (ac ++ co).length ≤ 501000000 := by rw [List.length_append]; omega
    repeat (first | refine W.gob rfl ?_ | refine WL.nil ?_ | refine WL.bt rfl rfl rfl (by omega) ?_ | refine WL.bf rfl rfl rfl (by omega) ?_ | refine WL.nt rfl rfl rfl (by omega) ?_ | refine WL.nf rfl rfl rfl (by omega) ?_ | refine WL.e1 rfl ?_ | refine WL.ar rfl rfl (by unfold I64; omega) ?_ | refine WL.len rfl rfl (by first | exact List.length_map _ | exact List.length_replicate | rfl) ?_ | refine WL.cat rfl rfl (by first | omega | (simp; done) | (simp; omega)) ?_ | refine W.condT rfl ?_ | refine W.condF rfl ?_)
    (first | refine (?_ : W _ _ _ _ _) | refine (?_ : WL _ _ _ _ _ _) | skip)
    try dsimp only [St.put, Nat.reduceAdd]
    refine WL.vl rfl (WV.call rfl (callF Tryz.func55 rfl rfl) rfl rfl hcol) ?_
    repeat (first | refine W.gob rfl ?_ | refine WL.nil ?_ | refine WL.bt rfl rfl rfl (by omega) ?_ | refine WL.bf rfl rfl rfl (by omega) ?_ | refine WL.nt rfl rfl rfl (by omega) ?_ | refine WL.nf rfl rfl rfl (by omega) ?_ | refine WL.e1 rfl ?_ | refine WL.ar rfl rfl (by unfold I64; omega) ?_ | refine WL.len rfl rfl (by first | exact List.length_map _ | exact List.length_replicate | rfl) ?_ | refine WL.cat rfl rfl (by first | omega | (simp; done) | (simp; omega)) ?_ | refine W.condT rfl ?_ | refine W.condF rfl ?_)
    (first | refine (?_ : W _ _ _ _ _) | refine (?_ : WL _ _ _ _ _ _) | skip)
    try dsimp only [St.put, Nat.reduceAdd]
    refine ⟨k + 1, by omega, by omega, ?_⟩
    rw [← hrow]
    exact (Tr.ren id (by repeat (first | exact trivial | refine ⟨⟨?_, ?_⟩, ?_⟩ | rfl)) (by repeat (first | exact trivial | refine ⟨⟨?_, ?_, ?_⟩, ?_⟩ | rfl)) rfl)
  have hke : k = p.evs.length := by omega
  rw [hke, hRR]
  repeat (first | refine W.gob rfl ?_ | refine WL.nil ?_ | refine WL.bt rfl rfl rfl (by omega) ?_ | refine WL.bf rfl rfl rfl (by omega) ?_ | refine WL.nt rfl rfl rfl (by omega) ?_ | refine WL.nf rfl rfl rfl (by omega) ?_ | refine WL.e1 rfl ?_ | refine WL.ar rfl rfl (by unfold I64; omega) ?_ | refine WL.len rfl rfl (by first | exact List.length_map _ | exact List.length_replicate | rfl) ?_ | refine WL.cat rfl rfl (by first | omega | (simp; done) | (simp; omega)) ?_ | refine W.condT rfl ?_ | refine W.condF rfl ?_)
  (first | refine (?_ : W _ _ _ _ _) | refine (?_ : WL _ _ _ _ _ _) | skip)
  try dsimp only [St.put, Nat.reduceAdd]
  exact W.ret (fin2 rfl rfl rfl rfl rfl rfl rfl)
theorem writes_G (s : Int) (p : Pce) : Ctg tabB Tryz.prog 3 [.sc (.int .u8 s), ePce p] (.sc (.bool true)) := by
  refine Ctg.intro stabB Tryz.func3 rfl Tryz.ntmps3 (Nat.le_of_ble_eq_true rfl) (bd_all rfl) fun w0 F0 hB => ?_; dsimp only [St.init, number, Nat.reduceAdd]
  repeat (first | refine W.go rfl ?_ | refine WL.nil ?_ | refine WL.ev rfl ?_ | refine WL.gyes rfl rfl rfl rfl ?_)
  (first | refine (?_ : W _ _ _ _ _) | refine (?_ : WL _ _ _ _ _ _) | skip)
  try dsimp only [St.put, Nat.reduceAdd]
  refine WL.vl rfl (WV.call rfl (callF Tryz.func11 rfl rfl) rfl rfl (big_FS p)) ?_
  repeat (first | refine W.go rfl ?_ | refine WL.nil ?_ | refine WL.ev rfl ?_ | refine WL.gyes rfl rfl rfl rfl ?_)
  (first | refine (?_ : W _ _ _ _ _) | refine (?_ : WL _ _ _ _ _ _) | skip)
  try dsimp only [St.put, Nat.reduceAdd]
  (refine W.cond rfl (fun hif => ?_) (fun hif => ?_) <;> (try simp only [decide_eq_true_eq, decide_eq_false_iff_not, Int.not_lt, Int.not_le, Bool.not_eq_true', Bool.not_eq_false'] at hif))
  · repeat (first | refine W.go rfl ?_ | refine WL.nil ?_ | refine WL.ev rfl ?_ | refine WL.gyes rfl rfl rfl rfl ?_)
    (first | refine (?_ : W _ _ _ _ _) | refine (?_ : WL _ _ _ _ _ _) | skip)
    try dsimp only [St.put, Nat.reduceAdd]
    refine WL.vl rfl (WV.call rfl (callF Tryz.func12 rfl rfl) rfl rfl works_FS) ?_
    repeat (first | refine W.go rfl ?_ | refine WL.nil ?_ | refine WL.ev rfl ?_ | refine WL.gyes rfl rfl rfl rfl ?_)
    (first | refine (?_ : W _ _ _ _ _) | refine (?_ : WL _ _ _ _ _ _) | skip)
    try dsimp only [St.put, Nat.reduceAdd]
    exact W.ret (fin1 rfl rfl rfl rfl)
  have hO := pcOk_of2 (p := p) hif
  repeat (first | refine W.go rfl ?_ | refine WL.nil ?_ | refine WL.ev rfl ?_ | refine WL.gyes rfl rfl rfl rfl ?_)
  (first | refine (?_ : W _ _ _ _ _) | refine (?_ : WL _ _ _ _ _ _) | skip)
  try dsimp only [St.put, Nat.reduceAdd]
  refine WL.vl rfl (WV.call rfl (callF Tryz.func14 rfl rfl) rfl rfl (pcCopy_FS p hO)) ?_
  refine WL.vl rfl (WV.callG hB rfl (callF Tryz.func13 rfl rfl) rfl rfl (pWrite_G s p hO)) ?_
  repeat (first | refine W.go rfl ?_ | refine WL.nil ?_ | refine WL.ev rfl ?_ | refine WL.gyes rfl rfl rfl rfl ?_)
  (first | refine (?_ : W _ _ _ _ _) | refine (?_ : WL _ _ _ _ _ _) | skip)
  try dsimp only [St.put, Nat.reduceAdd]
  refine WL.vl rfl (WV.call rfl (callF Tryz.func15 rfl rfl) rfl rfl (rWrite_FS s p hO)) ?_
  repeat (first | refine W.go rfl ?_ | refine WL.nil ?_ | refine WL.ev rfl ?_ | refine WL.gyes rfl rfl rfl rfl ?_)
  (first | refine (?_ : W _ _ _ _ _) | refine (?_ : WL _ _ _ _ _ _) | skip)
  try dsimp only [St.put, Nat.reduceAdd]
  refine WL.partG rfl rfl rfl rfl (fun hp => ?_) (fun hp => absurd hp (by simp))
  repeat (first | refine W.go rfl ?_ | refine WL.nil ?_ | refine WL.ev rfl ?_ | refine WL.gyes rfl rfl rfl rfl ?_)
  (first | refine (?_ : W _ _ _ _ _) | refine (?_ : WL _ _ _ _ _ _) | skip)
  try dsimp only [St.put, Nat.reduceAdd]
  refine WL.partG rfl rfl rfl rfl (fun hp => ?_) (fun hp => absurd hp (by simp))
  refine WL.gyes rfl rfl rfl rfl ?_
  refine WL.vl rfl (WV.call rfl (callF Tryz.func12 rfl rfl) rfl rfl works_FS) ?_
  repeat (first | refine W.go rfl ?_ | refine WL.nil ?_ | refine WL.ev rfl ?_ | refine WL.gyes rfl rfl rfl rfl ?_)
  (first | refine (?_ : W _ _ _ _ _) | refine (?_ : WL _ _ _ _ _ _) | skip)
  try dsimp only [St.put, Nat.reduceAdd]
  exact W.ret (fin1 rfl rfl rfl rfl)
end Go.Proofs.YtkgnmddakiagbaaGreatDoor

namespace Go.Proofs.YtkgnmddakiagbaaGreatDoor.notationWrites
open Go.ChangeShapes Go.WideShapes Go.ChangeAt Go.RowKit Go.Joins
set_option maxRecDepth 100000
set_option linter.unusedVariables false
set_option linter.unusedSimpArgs false
theorem writes_walk (s : Int) (p : Pce) (v : Value) (w : World) (hB : tabB w (fun q => w.cell? q)) (h : RP (fun q => w.cell? q) (ePce p) v) : Calls Tryz.prog 3 #[.int .u8 s, v] w (Ret (.bool true) w) := by
  refine (writes_G s p w (fun q => w.cell? q) [.int .u8 s, v] hB (fun _ _ h => h) ⟨rfl, fun i av u a b => ?_⟩).mono fun e w' ⟨u, F', he, hb, _, _, _, hr⟩ => ⟨?_, hb⟩
  · match i with
    | 0 => cases a; cases b; exact .sc _
    | 1 => cases a; cases b; exact h
    | i + 2 => simp at a
  · rw [he, hr.sc_eq]
theorem lifted (os : Os) (started : os.Started) (H : Type) (enc : TypeId × Value → H) :
    ReturnsInHanded {} Tryz.checked os 3 .any (fun w args => (Rows.notationWritesSpec.pre enc Tryz.prog Tryz.f3 [] false w args ∧ laidMetH Tryz.prog laidT w) ∧ sizedMet enc Tryz.prog Tryz.f3 (OpenSpec.ofChange Rows.notationWritesSpec) false w args)
      (Rows.notationWritesSpec.post enc Tryz.prog Tryz.f3 false true false false) := by
  refine returnsInHanded_of_change_and (C := Tryz.checked) (X := fun w _ => laidMetH Tryz.prog laidT w) (fun _ _ _ hh h => h.of_heap hh) ownT started (by kernel_rfl) Tryz.func3
    (ChangeSpec.witness_shaped (enc := enc) (C := Tryz.checked) (os := os) (X := fun w _ => laidMetH Tryz.prog laidT w) false (World.doorLaid Tryz.prog 400 os) #[.int .u8 0, .agg #[.slice none 0 0, .slice none 0 0, .slice none 0 0]] 8 rfl (World.shaped_of_RefB (by kernel_rfl) (by kernel_rfl)) (by kernel_rfl) (by kernel_rfl) (by kernel_rfl) (door_met os _)) ?_
  intro W base args ds gs before hval0 hW _ _ hL _
  have hval : ∀ (j : Nat) t v, Tryz.f3.params[j]? = some t → args[j]? = some v → Value.okWide Tryz.prog W .any base t v := hval0
  have hW' := hW
  obtain ⟨p, q, hA0, hV, rfl, hfz, hnd⟩ := hW
  have hA : DataW.TrodAll enc Tryz.prog W 0 (fun _ => true) true Tryz.f3.params.toList args.toList ds p := hA0
  have hAk := hA
  rw [Tryz.params3] at hA hval
  obtain ⟨v0, vs0, d0, ds0, p0, q0, hargs, rfl, rfl, h0, r0⟩ := trodAll_cons hA
  obtain ⟨v1, vs1, d1, ds1, p1, q1, rfl, rfl, rfl, h1, r1⟩ := trodAll_cons r0
  obtain ⟨rfl, rfl, rfl⟩ := trodAll_nil r1
  obtain rfl : args = #[v0, v1] := by cases args; simp_all
  obtain ⟨rfl, rfl⟩ := trodVars_none hV
  obtain ⟨a0, rfl, hd0, hp0, w0⟩ := open_int Tryz.underlying22 (hval 0 22 v0 rfl rfl) h0
  obtain ⟨pc1, hR1⟩ := open_piece_rp (hval 1 29 v1 rfl rfl) h1
  clear hA0 hval0
  simp only [List.append_nil] at hW' hAk
  refine (writes_walk a0 pc1 v1 W (tab_of_laid hL) hR1).mono fun e W' ⟨he, hg⟩ => ?_
  subst he
  exact ⟨_, rfl, post_of_below (pv := []) hW' (fun _ _ _ => (trodAll_cons_mk (shut_bool Tryz.underlying4 _) trodAll_mk0)) (fun sp hsp => args_keep typesKids slicesFull (by rw [Tryz.params3]; decide) hAk hg (fun x hx => hW'.lt x (by simpa using hx)) (fun x hx => hsp x (by simpa using hx))) (fun _ _ => rfl) (by simp)
    hg (ok_one (by kernel_rfl) rfl (okWide_bool_mk Tryz.underlying4 _))⟩

theorem over : Rows.NotationWritesSaid :=
  OpenClaim.holds_of_wide 3 Tryz.f3 rfl rfl rfl rfl rfl rfl rfl ⟨rfl, rfl, rfl, rfl, rfl⟩ rfl rfl rfl rfl rfl (by kernel_rfl) Tryz.func3 (by kernel_rfl)
    (of_decide_eq_true (by kernel_rfl)) (by unfold Func.isWrapper; first | (rw [if_pos (by decide +kernel)]; kernel_rfl) | (rw [if_neg (by decide +kernel)]; exact ⟨rfl, rfl⟩))
    (fun os started H enc _ => lifted os started H enc)
theorem proved : Rows.NotationWritesCardSaid :=
  Claim7.holds_tied_plain_at .later [] [.data, .data, .data, .data, .data] true Rows.notationWritesCard.stood.harness true
    over (fun _ h => by cases h) (by kernel_rfl) (fun _ h => by cases h) notationWrites_row_tie rfl ⟨rfl, rfl⟩ (by kernel_rfl) rfl
    (fun f fn hf hfn => by
      obtain rfl : f = 3 := Option.some.inj ((show Tryz.prog.funcNamed "theorbo/theorbolaw03.NotationWrites" = some 3 by kernel_rfl).symm.trans hf) |>.symm
      obtain rfl : fn = Tryz.f3 := (Option.some.inj (Tryz.func3.symm.trans hfn)).symm
      exact ⟨by kernel_rfl, fun j t ht => by
        rw [Tryz.params3] at ht
        have hm : t ∈ [22, 29] := by simpa using Array.mem_of_getElem? ht
        have hall : ([22, 29].all fun u => !Tryz.prog.wantsStandIn u) = true := by kernel_rfl
        exact (show Tryz.prog.wantsStandIn t = false by simpa using List.all_eq_true.1 hall t hm)⟩)
    (by kernel_rfl)
#print axioms proved
end Go.Proofs.YtkgnmddakiagbaaGreatDoor.notationWrites
