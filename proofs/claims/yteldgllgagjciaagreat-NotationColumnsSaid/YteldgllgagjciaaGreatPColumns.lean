/- THE STATEMENT NotationColumns: for every input the call returns true, and each argument reads afterwards as it read before. No condition. -/
import Derived.Test.YteldgllgagjciaaGreatEG
import Derived.Test.YteldgllgagjciaaGreatEH
import Derived.Test.YteldgllgagjciaaGreatPieP
import Derived.Test.YteldgllgagjciaaGreatProg
import Derived.Lib.Hide
import Derived.Test.YteldgllgagjciaaGreatER
import Derived.Test.YteldgllgagjciaaGreatEO
import Derived.Test.YteldgllgagjciaaGreatWorks
import Derived.Test.YteldgllgagjciaaGreatCoS
import Derived.Test.YteldgllgagjciaaGreatRows
import Derived.ProofKit
import Derived.OpenShut
import Derived.ChangeMaps5
import Derived.Lib.SmallJoins
import Derived.Test.YteldgllgagjciaaGreatFr
import Derived.Test.YteldgllgagjciaaGreatOp

/- What a system lacks of a piece, and whether it can say it: the reference, over trees. -/
namespace Go.Proofs.YteldgllgagjciaaGreat
open Go.RowKit
set_option linter.unusedVariables false
set_option linter.unusedSimpArgs false
set_option maxRecDepth 100000
set_option maxHeartbeats 4000000
theorem rLacks_FS (s : Int) (p : Pce) (hO : PcOk p) : Ctr Tryz.prog 9 [.sc (.int .u8 s), ePce p] (.tu [.ls 3 ((lksR s p).map eLk), .sc (.int .i64 (lksE s p))]) := by
  refine Ctr.intro Tryz.func9 rfl Tryz.ntmps9 (Nat.le_of_ble_eq_true rfl) (bd_all rfl) fun w0 F0 => ?_; dsimp only [St.init, number, Nat.reduceAdd]
  have hn3 := hO.n3
  repeat (first | refine W.go rfl ?_ | refine WL.nil ?_ | refine WL.ev rfl ?_ | refine WL.gyes rfl rfl rfl rfl ?_ | refine WL.opno rfl rfl rfl rfl rfl rfl rfl ?_ | refine WL.ar rfl rfl (by unfold I64; omega) ?_ | refine WL.len rfl rfl (by first | exact List.length_map _ | exact List.length_replicate | rfl) ?_ | refine WL.idx rfl rfl (by omega) (by first | exact map_at (by omega) | exact map_atZ (by omega) (by omega)) ?_ | refine WL.ixs rfl rfl (by first | omega | (simp; done) | (simp; omega)) ?_ | refine WL.app rfl rfl rfl (by first | omega | (simp; done) | (simp; omega)) ?_ | refine WL.cat rfl rfl (by first | omega | (simp; done) | (simp; omega)) ?_ | refine W.condT rfl ?_ | refine W.condF rfl ?_)
  (first | refine (?_ : W _ _ _ _ _) | refine (?_ : WL _ _ _ _ _ _) | skip)
  try dsimp only [St.put, Nat.reduceAdd]
  refine WL.vl rfl (WV.call rfl (callF Tryz.func24 rfl rfl) rfl rfl (known_FS s)) ?_
  repeat (first | refine W.go rfl ?_ | refine WL.nil ?_ | refine WL.ev rfl ?_ | refine WL.gyes rfl rfl rfl rfl ?_ | refine WL.opno rfl rfl rfl rfl rfl rfl rfl ?_ | refine WL.ar rfl rfl (by unfold I64; omega) ?_ | refine WL.len rfl rfl (by first | exact List.length_map _ | exact List.length_replicate | rfl) ?_ | refine WL.idx rfl rfl (by omega) (by first | exact map_at (by omega) | exact map_atZ (by omega) (by omega)) ?_ | refine WL.ixs rfl rfl (by first | omega | (simp; done) | (simp; omega)) ?_ | refine WL.app rfl rfl rfl (by first | omega | (simp; done) | (simp; omega)) ?_ | refine WL.cat rfl rfl (by first | omega | (simp; done) | (simp; omega)) ?_ | refine W.condT rfl ?_ | refine W.condF rfl ?_)
  (first | refine (?_ : W _ _ _ _ _) | refine (?_ : WL _ _ _ _ _ _) | skip)
  try dsimp only [St.put, Nat.reduceAdd]
  (refine W.cond rfl (fun hif => ?_) (fun hif => ?_) <;> (try simp only [decide_eq_true_eq, decide_eq_false_iff_not, Int.not_lt, Int.not_le, Bool.not_eq_true', Bool.not_eq_false'] at hif))
  · have hs : ¬ (1 ≤ s ∧ s ≤ 4) := by simpa using hif
    rw [(lks_bad hs).1, (lks_bad hs).2]
    repeat (first | refine W.go rfl ?_ | refine WL.nil ?_ | refine WL.ev rfl ?_ | refine WL.gyes rfl rfl rfl rfl ?_ | refine WL.opno rfl rfl rfl rfl rfl rfl rfl ?_ | refine WL.ar rfl rfl (by unfold I64; omega) ?_ | refine WL.len rfl rfl (by first | exact List.length_map _ | exact List.length_replicate | rfl) ?_ | refine WL.idx rfl rfl (by omega) (by first | exact map_at (by omega) | exact map_atZ (by omega) (by omega)) ?_ | refine WL.ixs rfl rfl (by first | omega | (simp; done) | (simp; omega)) ?_ | refine WL.app rfl rfl rfl (by first | omega | (simp; done) | (simp; omega)) ?_ | refine WL.cat rfl rfl (by first | omega | (simp; done) | (simp; omega)) ?_ | refine W.condT rfl ?_ | refine W.condF rfl ?_)
    (first | refine (?_ : W _ _ _ _ _) | refine (?_ : WL _ _ _ _ _ _) | skip)
    try dsimp only [St.put, Nat.reduceAdd]
    refine W.tr (Tr.nilLs (t := 4) 3 rfl) ?_
    exact W.ret (fin2 rfl rfl rfl rfl rfl rfl rfl)
  have hs : 1 ≤ s ∧ s ≤ 4 := by simpa using hif
  repeat (first | refine W.go rfl ?_ | refine WL.nil ?_ | refine WL.ev rfl ?_ | refine WL.gyes rfl rfl rfl rfl ?_ | refine WL.opno rfl rfl rfl rfl rfl rfl rfl ?_ | refine WL.ar rfl rfl (by unfold I64; omega) ?_ | refine WL.len rfl rfl (by first | exact List.length_map _ | exact List.length_replicate | rfl) ?_ | refine WL.idx rfl rfl (by omega) (by first | exact map_at (by omega) | exact map_atZ (by omega) (by omega)) ?_ | refine WL.ixs rfl rfl (by first | omega | (simp; done) | (simp; omega)) ?_ | refine WL.app rfl rfl rfl (by first | omega | (simp; done) | (simp; omega)) ?_ | refine WL.cat rfl rfl (by first | omega | (simp; done) | (simp; omega)) ?_ | refine W.condT rfl ?_ | refine W.condF rfl ?_)
  (first | refine (?_ : W _ _ _ _ _) | refine (?_ : WL _ _ _ _ _ _) | skip)
  try dsimp only [St.put, Nat.reduceAdd]
  refine WL.vl rfl (WV.call rfl (callF Tryz.func25 rfl rfl) rfl rfl (rCheck_FS p hO)) ?_
  repeat (first | refine W.go rfl ?_ | refine WL.nil ?_ | refine WL.ev rfl ?_ | refine WL.gyes rfl rfl rfl rfl ?_ | refine WL.opno rfl rfl rfl rfl rfl rfl rfl ?_ | refine WL.ar rfl rfl (by unfold I64; omega) ?_ | refine WL.len rfl rfl (by first | exact List.length_map _ | exact List.length_replicate | rfl) ?_ | refine WL.idx rfl rfl (by omega) (by first | exact map_at (by omega) | exact map_atZ (by omega) (by omega)) ?_ | refine WL.ixs rfl rfl (by first | omega | (simp; done) | (simp; omega)) ?_ | refine WL.app rfl rfl rfl (by first | omega | (simp; done) | (simp; omega)) ?_ | refine WL.cat rfl rfl (by first | omega | (simp; done) | (simp; omega)) ?_ | refine W.condT rfl ?_ | refine W.condF rfl ?_)
  (first | refine (?_ : W _ _ _ _ _) | refine (?_ : WL _ _ _ _ _ _) | skip)
  try dsimp only [St.put, Nat.reduceAdd]
  (refine W.cond rfl (fun hif => ?_) (fun hif => ?_) <;> (try simp only [decide_eq_true_eq, decide_eq_false_iff_not, Int.not_lt, Int.not_le, Bool.not_eq_true', Bool.not_eq_false'] at hif))
  · have h0 : pceE p ≠ 0 := by simpa using hif
    rw [(lks_err hs h0).1, (lks_err hs h0).2]
    repeat (first | refine W.go rfl ?_ | refine WL.nil ?_ | refine WL.ev rfl ?_ | refine WL.gyes rfl rfl rfl rfl ?_ | refine WL.opno rfl rfl rfl rfl rfl rfl rfl ?_ | refine WL.ar rfl rfl (by unfold I64; omega) ?_ | refine WL.len rfl rfl (by first | exact List.length_map _ | exact List.length_replicate | rfl) ?_ | refine WL.idx rfl rfl (by omega) (by first | exact map_at (by omega) | exact map_atZ (by omega) (by omega)) ?_ | refine WL.ixs rfl rfl (by first | omega | (simp; done) | (simp; omega)) ?_ | refine WL.app rfl rfl rfl (by first | omega | (simp; done) | (simp; omega)) ?_ | refine WL.cat rfl rfl (by first | omega | (simp; done) | (simp; omega)) ?_ | refine W.condT rfl ?_ | refine W.condF rfl ?_)
    (first | refine (?_ : W _ _ _ _ _) | refine (?_ : WL _ _ _ _ _ _) | skip)
    try dsimp only [St.put, Nat.reduceAdd]
    refine W.tr (Tr.nilLs (t := 4) 3 rfl) ?_
    exact W.ret (fin2 rfl rfl rfl rfl rfl rfl rfl)
  have h0 : pceE p = 0 := by simpa using hif
  rw [(lks_ok hs h0).1, (lks_ok hs h0).2]
  repeat (first | refine W.go rfl ?_ | refine WL.nil ?_ | refine WL.ev rfl ?_ | refine WL.gyes rfl rfl rfl rfl ?_ | refine WL.opno rfl rfl rfl rfl rfl rfl rfl ?_ | refine WL.ar rfl rfl (by unfold I64; omega) ?_ | refine WL.len rfl rfl (by first | exact List.length_map _ | exact List.length_replicate | rfl) ?_ | refine WL.idx rfl rfl (by omega) (by first | exact map_at (by omega) | exact map_atZ (by omega) (by omega)) ?_ | refine WL.ixs rfl rfl (by first | omega | (simp; done) | (simp; omega)) ?_ | refine WL.app rfl rfl rfl (by first | omega | (simp; done) | (simp; omega)) ?_ | refine WL.cat rfl rfl (by first | omega | (simp; done) | (simp; omega)) ?_ | refine W.condT rfl ?_ | refine W.condF rfl ?_)
  (first | refine (?_ : W _ _ _ _ _) | refine (?_ : WL _ _ _ _ _ _) | skip)
  try dsimp only [St.put, Nat.reduceAdd]
  refine W.tr (Tr.nil (t := 7) 65 3 rfl rfl) ?_
  refine W.loop (fun k : Nat => k ≤ p.evs.length) (fun k => ⟨[(0, .sc (.int .u8 s)), (3, .pt 0 0 0), (7, .sl 1), (8, .sc (.int .i64 k))], [(0, .box 29 (ePce p).cells), (1, .row 65 3 ((lksTo s p k).map eLk))], 2⟩) (fun k => p.evs.length - k) 0 (by omega) (Tr.ren id (by repeat (first | exact trivial | refine ⟨⟨?_, ?_⟩, ?_⟩ | rfl)) (by repeat (first | exact trivial | refine ⟨⟨?_, ?_, ?_⟩, ?_⟩ | rfl)) rfl) fun k hk => ?_
  repeat (first | refine W.go rfl ?_ | refine WL.nil ?_ | refine WL.ev rfl ?_ | refine WL.gyes rfl rfl rfl rfl ?_ | refine WL.opno rfl rfl rfl rfl rfl rfl rfl ?_ | refine WL.ar rfl rfl (by unfold I64; omega) ?_ | refine WL.len rfl rfl (by first | exact List.length_map _ | exact List.length_replicate | rfl) ?_ | refine WL.idx rfl rfl (by omega) (by first | exact map_at (by omega) | exact map_atZ (by omega) (by omega)) ?_ | refine WL.ixs rfl rfl (by first | omega | (simp; done) | (simp; omega)) ?_ | refine WL.app rfl rfl rfl (by first | omega | (simp; done) | (simp; omega)) ?_ | refine WL.cat rfl rfl (by first | omega | (simp; done) | (simp; omega)) ?_ | refine W.condT rfl ?_ | refine W.condF rfl ?_)
  (first | refine (?_ : W _ _ _ _ _) | refine (?_ : WL _ _ _ _ _ _) | skip)
  try dsimp only [St.put, Nat.reduceAdd]
  (refine W.cond rfl (fun hif => ?_) (fun hif => ?_) <;> (try simp only [decide_eq_true_eq, decide_eq_false_iff_not, Int.not_lt, Int.not_le, Bool.not_eq_true', Bool.not_eq_false'] at hif))
  · have hk2 : k < p.evs.length := by omega
    have hl1 := lksTo_len s hO k hk
    have hl2 := lackE_len s p k p.evs[k] (hO.n4 k hk2)
    have hrow : (lksTo s p k).map eLk ++ (lackE s p k p.evs[k]).map eLk = (lksTo s p (k + 1)).map eLk := by rw [lksTo_at s p hk2, List.map_append]
    repeat (first | refine W.go rfl ?_ | refine WL.nil ?_ | refine WL.ev rfl ?_ | refine WL.gyes rfl rfl rfl rfl ?_ | refine WL.opno rfl rfl rfl rfl rfl rfl rfl ?_ | refine WL.ar rfl rfl (by unfold I64; omega) ?_ | refine WL.len rfl rfl (by first | exact List.length_map _ | exact List.length_replicate | rfl) ?_ | refine WL.idx rfl rfl (by omega) (by first | exact map_at (by omega) | exact map_atZ (by omega) (by omega)) ?_ | refine WL.ixs rfl rfl (by first | omega | (simp; done) | (simp; omega)) ?_ | refine WL.app rfl rfl rfl (by first | omega | (simp; done) | (simp; omega)) ?_ | refine WL.cat rfl rfl (by first | omega | (simp; done) | (simp; omega)) ?_ | refine W.condT rfl ?_ | refine W.condF rfl ?_)
    (first | refine (?_ : W _ _ _ _ _) | refine (?_ : WL _ _ _ _ _ _) | skip)
    try dsimp only [St.put, Nat.reduceAdd]
    refine WL.vl rfl (WV.call rfl (callF Tryz.func26 rfl rfl) rfl rfl (rlack_FS s hs p k hk2 hO h0)) ?_
    repeat (first | refine W.go rfl ?_ | refine WL.nil ?_ | refine WL.ev rfl ?_ | refine WL.gyes rfl rfl rfl rfl ?_ | refine WL.opno rfl rfl rfl rfl rfl rfl rfl ?_ | refine WL.ar rfl rfl (by unfold I64; omega) ?_ | refine WL.len rfl rfl (by first | exact List.length_map _ | exact List.length_replicate | rfl) ?_ | refine WL.idx rfl rfl (by omega) (by first | exact map_at (by omega) | exact map_atZ (by omega) (by omega)) ?_ | refine WL.ixs rfl rfl (by first | omega | (simp; done) | (simp; omega)) ?_ | refine WL.app rfl rfl rfl (by first | omega | (simp; done) | (simp; omega)) ?_ | refine WL.cat rfl rfl (by first | omega | (simp; done) | (simp; omega)) ?_ | refine W.condT rfl ?_ | refine W.condF rfl ?_)
    (first | refine (?_ : W _ _ _ _ _) | refine (?_ : WL _ _ _ _ _ _) | skip)
    try dsimp only [St.put, Nat.reduceAdd]
    exact ⟨k + 1, by omega, by omega, Tr.ren (fun q => bif Nat.beq q 1 then 2 else q) (by repeat (first | exact trivial | refine ⟨⟨?_, ?_⟩, ?_⟩ | rfl)) (by repeat (first | exact trivial | refine ⟨⟨?_, ?_, ?_⟩, ?_⟩ | exact congrArg (fun r => some (AO.row _ _ r)) hrow | rfl)) rfl⟩
  · have he : k = p.evs.length := by omega
    subst he
    repeat (first | refine W.go rfl ?_ | refine WL.nil ?_ | refine WL.ev rfl ?_ | refine WL.gyes rfl rfl rfl rfl ?_ | refine WL.opno rfl rfl rfl rfl rfl rfl rfl ?_ | refine WL.ar rfl rfl (by unfold I64; omega) ?_ | refine WL.len rfl rfl (by first | exact List.length_map _ | exact List.length_replicate | rfl) ?_ | refine WL.idx rfl rfl (by omega) (by first | exact map_at (by omega) | exact map_atZ (by omega) (by omega)) ?_ | refine WL.ixs rfl rfl (by first | omega | (simp; done) | (simp; omega)) ?_ | refine WL.app rfl rfl rfl (by first | omega | (simp; done) | (simp; omega)) ?_ | refine WL.cat rfl rfl (by first | omega | (simp; done) | (simp; omega)) ?_ | refine W.condT rfl ?_ | refine W.condF rfl ?_)
    (first | refine (?_ : W _ _ _ _ _) | refine (?_ : WL _ _ _ _ _ _) | skip)
    try dsimp only [St.put, Nat.reduceAdd]
    refine W.tr (Tr.freeze 1 rfl) ?_
    exact W.ret (fin2 rfl rfl rfl rfl rfl rfl rfl)
theorem rCan_FS (s : Int) (p : Pce) (hO : PcOk p) : Ctr Tryz.prog 12 [.sc (.int .u8 s), ePce p] (.sc (.bool (lksE s p == 0 && ((lksR s p).length : Int) == 0))) := by
  refine Ctr.intro Tryz.func12 rfl Tryz.ntmps12 (Nat.le_of_ble_eq_true rfl) (bd_all rfl) fun w0 F0 => ?_; dsimp only [St.init, number, Nat.reduceAdd]
  repeat (first | refine W.go rfl ?_ | refine WL.nil ?_ | refine WL.ev rfl ?_ | refine WL.gyes rfl rfl rfl rfl ?_ | refine WL.opno rfl rfl rfl rfl rfl rfl rfl ?_ | refine WL.ar rfl rfl (by unfold I64; omega) ?_ | refine WL.len rfl rfl (by first | exact List.length_map _ | exact List.length_replicate | rfl) ?_ | refine WL.idx rfl rfl (by omega) (by first | exact map_at (by omega) | exact map_atZ (by omega) (by omega)) ?_ | refine WL.ixs rfl rfl (by first | omega | (simp; done) | (simp; omega)) ?_ | refine WL.app rfl rfl rfl (by first | omega | (simp; done) | (simp; omega)) ?_ | refine WL.cat rfl rfl (by first | omega | (simp; done) | (simp; omega)) ?_ | refine W.condT rfl ?_ | refine W.condF rfl ?_)
  (first | refine (?_ : W _ _ _ _ _) | refine (?_ : WL _ _ _ _ _ _) | skip)
  try dsimp only [St.put, Nat.reduceAdd]
  refine WL.vl rfl (WV.call rfl (callF Tryz.func9 rfl rfl) rfl rfl (rLacks_FS s p hO)) ?_
  repeat (first | refine W.go rfl ?_ | refine WL.nil ?_ | refine WL.ev rfl ?_ | refine WL.gyes rfl rfl rfl rfl ?_ | refine WL.opno rfl rfl rfl rfl rfl rfl rfl ?_ | refine WL.ar rfl rfl (by unfold I64; omega) ?_ | refine WL.len rfl rfl (by first | exact List.length_map _ | exact List.length_replicate | rfl) ?_ | refine WL.idx rfl rfl (by omega) (by first | exact map_at (by omega) | exact map_atZ (by omega) (by omega)) ?_ | refine WL.ixs rfl rfl (by first | omega | (simp; done) | (simp; omega)) ?_ | refine WL.app rfl rfl rfl (by first | omega | (simp; done) | (simp; omega)) ?_ | refine WL.cat rfl rfl (by first | omega | (simp; done) | (simp; omega)) ?_ | refine W.condT rfl ?_ | refine W.condF rfl ?_)
  (first | refine (?_ : W _ _ _ _ _) | refine (?_ : WL _ _ _ _ _ _) | skip)
  try dsimp only [St.put, Nat.reduceAdd]
  have hl : (lksR s p).length ≤ 27000 := by
    unfold lksR
    split
    · exact lksTo_len s hO _ (Nat.le_refl _)
    · simp
  refine WL.partG rfl rfl rfl rfl (fun hp => ?_) (fun hp => ?_)
  · have e : lksE s p = 0 := of_decide_eq_true hp
    repeat (first | refine W.go rfl ?_ | refine WL.nil ?_ | refine WL.ev rfl ?_ | refine WL.gyes rfl rfl rfl rfl ?_ | refine WL.opno rfl rfl rfl rfl rfl rfl rfl ?_ | refine WL.ar rfl rfl (by unfold I64; omega) ?_ | refine WL.len rfl rfl (by first | exact List.length_map _ | exact List.length_replicate | rfl) ?_ | refine WL.idx rfl rfl (by omega) (by first | exact map_at (by omega) | exact map_atZ (by omega) (by omega)) ?_ | refine WL.ixs rfl rfl (by first | omega | (simp; done) | (simp; omega)) ?_ | refine WL.app rfl rfl rfl (by first | omega | (simp; done) | (simp; omega)) ?_ | refine WL.cat rfl rfl (by first | omega | (simp; done) | (simp; omega)) ?_ | refine W.condT rfl ?_ | refine W.condF rfl ?_)
    (first | refine (?_ : W _ _ _ _ _) | refine (?_ : WL _ _ _ _ _ _) | skip)
    try dsimp only [St.put, Nat.reduceAdd]
    refine W.ret (fin1 rfl rfl (sc_bool ?_) rfl)
    rw [e]; rfl
  · have e : lksE s p ≠ 0 := of_decide_eq_false hp
    repeat (first | refine W.go rfl ?_ | refine WL.nil ?_ | refine WL.ev rfl ?_ | refine WL.gyes rfl rfl rfl rfl ?_ | refine WL.opno rfl rfl rfl rfl rfl rfl rfl ?_ | refine WL.ar rfl rfl (by unfold I64; omega) ?_ | refine WL.len rfl rfl (by first | exact List.length_map _ | exact List.length_replicate | rfl) ?_ | refine WL.idx rfl rfl (by omega) (by first | exact map_at (by omega) | exact map_atZ (by omega) (by omega)) ?_ | refine WL.ixs rfl rfl (by first | omega | (simp; done) | (simp; omega)) ?_ | refine WL.app rfl rfl rfl (by first | omega | (simp; done) | (simp; omega)) ?_ | refine WL.cat rfl rfl (by first | omega | (simp; done) | (simp; omega)) ?_ | refine W.condT rfl ?_ | refine W.condF rfl ?_)
    (first | refine (?_ : W _ _ _ _ _) | refine (?_ : WL _ _ _ _ _ _) | skip)
    try dsimp only [St.put, Nat.reduceAdd]
    refine W.ret (fin1 rfl rfl (sc_bool ?_) rfl)
    rw [show (lksE s p == 0) = false by simpa using e]; rfl
end Go.Proofs.YteldgllgagjciaaGreat

/- Whether a piece is too big: the law's own look. -/
namespace Go.Proofs.YteldgllgagjciaaGreat
open Go.RowKit
set_option maxHeartbeats 1600000
set_option maxRecDepth 100000
set_option linter.unusedVariables false
set_option linter.unusedSimpArgs false
theorem big_any (M : PM) (p : Pce) (w : World) (hP : PcAt w w.heap.size M p) : Calls Tryz.prog 5 #[pcValue M p] w (Ret (.bool (bigB p)) w) := by
  obtain ⟨A1, A2, A3, c1, c2, c3⟩ := M
  obtain ⟨cs, st, evs⟩ := p
  unfold pcValue
  simp only at *
  have HP := Lib.hid hP.2.1
  obtain ⟨n1, hn1⟩ : ∃ n, cs.length = n := ⟨_, rfl⟩
  obtain ⟨n2, hn2⟩ : ∃ n, st.length = n := ⟨_, rfl⟩
  obtain ⟨n3, hn3⟩ : ∃ n, evs.length = n := ⟨_, rfl⟩
  have HN3 := Lib.hid hn3
  have hB : bigB ⟨cs, st, evs⟩ = (decide (64 < n1) || (decide (64 < n2) || (decide (420 < n3) || evs.any fun e => decide (20 < e.stops.length)))) := by unfold bigB; rw [hn1, hn2, hn3]
  rw [hB, hn1, hn2, hn3]
  clear hB hn1 hn2 hn3 hP
  by_cases b1 : 64 < n1
  · have e : (decide (64 < n1) || (decide (64 < n2) || (decide (420 < n3) || evs.any fun e => decide (20 < e.stops.length)))) = true := by simp [b1]
    rw [e]
    clear e
    go_enter Tryz.func5, Tryz.ntmps5
    go_wp2
    go_ret
    exact Ret.mk' rfl (by repeat (first | exact Below.refl _ _ | assumption | refine bel_drewN ?_ _ | refine Below.drew ?_ | refine bel_alloc ?_ _ | refine Below.setCell ?_ (by first | omega | (simp; done) | (simp; omega)) _ | refine bel_step ?_ (by assumption)))
  · by_cases b2 : 64 < n2
    · have e : (decide (64 < n1) || (decide (64 < n2) || (decide (420 < n3) || evs.any fun e => decide (20 < e.stops.length)))) = true := by simp [b2]
      rw [e]
      clear e
      go_enter Tryz.func5, Tryz.ntmps5
      go_wp2
      go_ret
      exact Ret.mk' rfl (by repeat (first | exact Below.refl _ _ | assumption | refine bel_drewN ?_ _ | refine Below.drew ?_ | refine bel_alloc ?_ _ | refine Below.setCell ?_ (by first | omega | (simp; done) | (simp; omega)) _ | refine bel_step ?_ (by assumption)))
    · by_cases b3 : 420 < n3
      · have e : (decide (64 < n1) || (decide (64 < n2) || (decide (420 < n3) || evs.any fun e => decide (20 < e.stops.length)))) = true := by simp [b3]
        rw [e]
        clear e
        go_enter Tryz.func5, Tryz.ntmps5
        go_wp2
        go_ret
        exact Ret.mk' rfl (by repeat (first | exact Below.refl _ _ | assumption | refine bel_drewN ?_ _ | refine Below.drew ?_ | refine bel_alloc ?_ _ | refine Below.setCell ?_ (by first | omega | (simp; done) | (simp; omega)) _ | refine bel_step ?_ (by assumption)))
      · have e : (decide (64 < n1) || (decide (64 < n2) || (decide (420 < n3) || evs.any fun e => decide (20 < e.stops.length)))) = evs.any fun e => decide (20 < e.stops.length) := by simp [b1, b2, b3]
        rw [e]
        clear e
        obtain ⟨V, hV⟩ : ∃ V, (evs.any fun e => decide (20 < e.stops.length)) = V := ⟨_, rfl⟩
        rw [hV]
        have HV := Lib.hid hV
        clear hV
        go_enter Tryz.func5, Tryz.ntmps5
        go_wp2
        go_loop [3] (fun i => ∃ k : Nat, k ≤ n3 ∧ i = .int .i64 k ∧ V = (evs.drop k).any fun e => decide (20 < e.stops.length)) (fun i => n3 - (intOf i).toNat)
        case atStart => exact ⟨0, Nat.zero_le _, rfl, HV.out.symm⟩
        case round =>
          obtain ⟨k, hk, rfl, hs⟩ := hrel
          have HS := Lib.hid hs
          clear hs
          by_cases hlt : k < n3
          · have hk2 : k < evs.length := by have := HN3.out; omega
            obtain ⟨ad, S, c, hA, hb, _, _, _, _, _, hc, _⟩ := HP.out.ev hk2
            subst hA
            have hs2 := HS.out.trans (any_at hk2)
            generalize evs[k] = e at hc hs2
            have hc2 : ∀ o : Obj, (w.alloc o).cell? ⟨(ad.add (k * 6)).block, (ad.add (k * 6)).off + 5, none⟩ = some (.slice S e.stops.length c) := fun o => by
              rw [World.cell?_alloc_lt _ _ _ (by rw [block_of_add]; omega), hc]
            clear hc
            generalize e.stops.length = n at *
            by_cases hb1 : 20 < n
            · have HE := Lib.hid (hs2.trans (show _ = true by simp [hb1]))
              clear hs2
              go_wp2
              go_ret
              exact Ret.mk' (by rw [HE.out]; rfl) (by repeat (first | exact Below.refl _ _ | assumption | refine bel_drewN ?_ _ | refine Below.drew ?_ | refine bel_alloc ?_ _ | refine Below.setCell ?_ (by first | omega | (simp; done) | (simp; omega)) _ | refine bel_step ?_ (by assumption)))
            · have HS3 := Lib.hid (hs2.trans (show _ = (evs.drop (k + 1)).any fun e => decide (20 < e.stops.length) by simp [hb1]))
              clear hs2
              go_wp2
              go_round
              case rel => exact ⟨k + 1, by omega, by go_num, HS3.out⟩
              case measure => simp [intOf]; omega
          · have HE := Lib.hid (HS.out.trans (show ((evs.drop k).any fun e => decide (20 < e.stops.length)) = false from by rw [List.drop_eq_nil_of_le (by have := HN3.out; omega)]; rfl))
            go_wp2
            go_ret
            exact Ret.mk' (by rw [HE.out]; rfl) (by repeat (first | exact Below.refl _ _ | assumption | refine bel_drewN ?_ _ | refine Below.drew ?_ | refine bel_alloc ?_ _ | refine Below.setCell ?_ (by first | omega | (simp; done) | (simp; omega)) _ | refine bel_step ?_ (by assumption)))
end Go.Proofs.YteldgllgagjciaaGreat

/- NotationLacks: the walk. -/
namespace Go.Proofs.YteldgllgagjciaaGreat
open Go.RowKit
set_option linter.unusedVariables false
set_option linter.unusedSimpArgs false
set_option maxRecDepth 100000
set_option maxHeartbeats 4000000
theorem pcOk_of2 {p : Pce} (h : bigB p = false) : PcOk p := by
  unfold bigB at h
  simp only [Bool.or_eq_false_iff, decide_eq_false_iff_not, List.any_eq_false] at h
  obtain ⟨h1, h2, h3, h4⟩ := h
  refine ⟨by omega, by omega, by omega, fun k hk => ?_⟩
  have := h4 _ (List.getElem_mem hk)
  simp at this
  exact this
theorem big_FS (p : Pce) : Ctr Tryz.prog 5 [ePce p] (.sc (.bool (bigB p))) :=
  Ctr.of_pc (pre := []) (post := []) rfl rfl (fun _ => .sc _) fun w M hM => big_any M p w hM
theorem works_FS : Ctr Tryz.prog 6 [] (.sc (.bool true)) :=
  Ctr.of_sc (xs := []) rfl (fun _ => .sc _) fun w => works_any w
theorem lacks_FS (s : Int) (p : Pce) : Ctr Tryz.prog 3 [.sc (.int .u8 s), ePce p] (.sc (.bool true)) := by
  refine Ctr.intro Tryz.func3 rfl Tryz.ntmps3 (Nat.le_of_ble_eq_true rfl) (bd_all rfl) fun w0 F0 => ?_; dsimp only [St.init, number, Nat.reduceAdd]
  repeat (first | refine W.go rfl ?_ | refine WL.nil ?_ | refine WL.ev rfl ?_ | refine WL.gyes rfl rfl rfl rfl ?_ | refine WL.opno rfl rfl rfl rfl rfl rfl rfl ?_ | refine WL.ar rfl rfl (by unfold I64; omega) ?_ | refine WL.len rfl rfl (by first | exact List.length_map _ | exact List.length_replicate | rfl) ?_ | refine WL.idx rfl rfl (by omega) (by first | exact map_at (by omega) | exact map_atZ (by omega) (by omega)) ?_ | refine WL.ixs rfl rfl (by first | omega | (simp; done) | (simp; omega)) ?_ | refine WL.app rfl rfl rfl (by first | omega | (simp; done) | (simp; omega)) ?_ | refine WL.cat rfl rfl (by first | omega | (simp; done) | (simp; omega)) ?_ | refine W.condT rfl ?_ | refine W.condF rfl ?_)
  (first | refine (?_ : W _ _ _ _ _) | refine (?_ : WL _ _ _ _ _ _) | skip)
  try dsimp only [St.put, Nat.reduceAdd]
  refine WL.vl rfl (WV.call rfl (callF Tryz.func5 rfl rfl) rfl rfl (big_FS p)) ?_
  repeat (first | refine W.go rfl ?_ | refine WL.nil ?_ | refine WL.ev rfl ?_ | refine WL.gyes rfl rfl rfl rfl ?_ | refine WL.opno rfl rfl rfl rfl rfl rfl rfl ?_ | refine WL.ar rfl rfl (by unfold I64; omega) ?_ | refine WL.len rfl rfl (by first | exact List.length_map _ | exact List.length_replicate | rfl) ?_ | refine WL.idx rfl rfl (by omega) (by first | exact map_at (by omega) | exact map_atZ (by omega) (by omega)) ?_ | refine WL.ixs rfl rfl (by first | omega | (simp; done) | (simp; omega)) ?_ | refine WL.app rfl rfl rfl (by first | omega | (simp; done) | (simp; omega)) ?_ | refine WL.cat rfl rfl (by first | omega | (simp; done) | (simp; omega)) ?_ | refine W.condT rfl ?_ | refine W.condF rfl ?_)
  (first | refine (?_ : W _ _ _ _ _) | refine (?_ : WL _ _ _ _ _ _) | skip)
  try dsimp only [St.put, Nat.reduceAdd]
  (refine W.cond rfl (fun hif => ?_) (fun hif => ?_) <;> (try simp only [decide_eq_true_eq, decide_eq_false_iff_not, Int.not_lt, Int.not_le, Bool.not_eq_true', Bool.not_eq_false'] at hif))
  · repeat (first | refine W.go rfl ?_ | refine WL.nil ?_ | refine WL.ev rfl ?_ | refine WL.gyes rfl rfl rfl rfl ?_ | refine WL.opno rfl rfl rfl rfl rfl rfl rfl ?_ | refine WL.ar rfl rfl (by unfold I64; omega) ?_ | refine WL.len rfl rfl (by first | exact List.length_map _ | exact List.length_replicate | rfl) ?_ | refine WL.idx rfl rfl (by omega) (by first | exact map_at (by omega) | exact map_atZ (by omega) (by omega)) ?_ | refine WL.ixs rfl rfl (by first | omega | (simp; done) | (simp; omega)) ?_ | refine WL.app rfl rfl rfl (by first | omega | (simp; done) | (simp; omega)) ?_ | refine WL.cat rfl rfl (by first | omega | (simp; done) | (simp; omega)) ?_ | refine W.condT rfl ?_ | refine W.condF rfl ?_)
    (first | refine (?_ : W _ _ _ _ _) | refine (?_ : WL _ _ _ _ _ _) | skip)
    try dsimp only [St.put, Nat.reduceAdd]
    refine WL.vl rfl (WV.call rfl (callF Tryz.func6 rfl rfl) rfl rfl works_FS) ?_
    repeat (first | refine W.go rfl ?_ | refine WL.nil ?_ | refine WL.ev rfl ?_ | refine WL.gyes rfl rfl rfl rfl ?_ | refine WL.opno rfl rfl rfl rfl rfl rfl rfl ?_ | refine WL.ar rfl rfl (by unfold I64; omega) ?_ | refine WL.len rfl rfl (by first | exact List.length_map _ | exact List.length_replicate | rfl) ?_ | refine WL.idx rfl rfl (by omega) (by first | exact map_at (by omega) | exact map_atZ (by omega) (by omega)) ?_ | refine WL.ixs rfl rfl (by first | omega | (simp; done) | (simp; omega)) ?_ | refine WL.app rfl rfl rfl (by first | omega | (simp; done) | (simp; omega)) ?_ | refine WL.cat rfl rfl (by first | omega | (simp; done) | (simp; omega)) ?_ | refine W.condT rfl ?_ | refine W.condF rfl ?_)
    (first | refine (?_ : W _ _ _ _ _) | refine (?_ : WL _ _ _ _ _ _) | skip)
    try dsimp only [St.put, Nat.reduceAdd]
    exact W.ret (fin1 rfl rfl rfl rfl)
  have hO := pcOk_of2 hif
  repeat (first | refine W.go rfl ?_ | refine WL.nil ?_ | refine WL.ev rfl ?_ | refine WL.gyes rfl rfl rfl rfl ?_ | refine WL.opno rfl rfl rfl rfl rfl rfl rfl ?_ | refine WL.ar rfl rfl (by unfold I64; omega) ?_ | refine WL.len rfl rfl (by first | exact List.length_map _ | exact List.length_replicate | rfl) ?_ | refine WL.idx rfl rfl (by omega) (by first | exact map_at (by omega) | exact map_atZ (by omega) (by omega)) ?_ | refine WL.ixs rfl rfl (by first | omega | (simp; done) | (simp; omega)) ?_ | refine WL.app rfl rfl rfl (by first | omega | (simp; done) | (simp; omega)) ?_ | refine WL.cat rfl rfl (by first | omega | (simp; done) | (simp; omega)) ?_ | refine W.condT rfl ?_ | refine W.condF rfl ?_)
  (first | refine (?_ : W _ _ _ _ _) | refine (?_ : WL _ _ _ _ _ _) | skip)
  try dsimp only [St.put, Nat.reduceAdd]
  refine WL.vl rfl (WV.call rfl (callF Tryz.func7 rfl rfl) rfl rfl (pcCopy_FS p hO)) ?_
  repeat (first | refine W.go rfl ?_ | refine WL.nil ?_ | refine WL.ev rfl ?_ | refine WL.gyes rfl rfl rfl rfl ?_ | refine WL.opno rfl rfl rfl rfl rfl rfl rfl ?_ | refine WL.ar rfl rfl (by unfold I64; omega) ?_ | refine WL.len rfl rfl (by first | exact List.length_map _ | exact List.length_replicate | rfl) ?_ | refine WL.idx rfl rfl (by omega) (by first | exact map_at (by omega) | exact map_atZ (by omega) (by omega)) ?_ | refine WL.ixs rfl rfl (by first | omega | (simp; done) | (simp; omega)) ?_ | refine WL.app rfl rfl rfl (by first | omega | (simp; done) | (simp; omega)) ?_ | refine WL.cat rfl rfl (by first | omega | (simp; done) | (simp; omega)) ?_ | refine W.condT rfl ?_ | refine W.condF rfl ?_)
  (first | refine (?_ : W _ _ _ _ _) | refine (?_ : WL _ _ _ _ _ _) | skip)
  try dsimp only [St.put, Nat.reduceAdd]
  refine WL.vl rfl (WV.call rfl (callF Tryz.func8 rfl rfl) rfl rfl (pLacks_FS s p hO)) ?_
  repeat (first | refine W.go rfl ?_ | refine WL.nil ?_ | refine WL.ev rfl ?_ | refine WL.gyes rfl rfl rfl rfl ?_ | refine WL.opno rfl rfl rfl rfl rfl rfl rfl ?_ | refine WL.ar rfl rfl (by unfold I64; omega) ?_ | refine WL.len rfl rfl (by first | exact List.length_map _ | exact List.length_replicate | rfl) ?_ | refine WL.idx rfl rfl (by omega) (by first | exact map_at (by omega) | exact map_atZ (by omega) (by omega)) ?_ | refine WL.ixs rfl rfl (by first | omega | (simp; done) | (simp; omega)) ?_ | refine WL.app rfl rfl rfl (by first | omega | (simp; done) | (simp; omega)) ?_ | refine WL.cat rfl rfl (by first | omega | (simp; done) | (simp; omega)) ?_ | refine W.condT rfl ?_ | refine W.condF rfl ?_)
  (first | refine (?_ : W _ _ _ _ _) | refine (?_ : WL _ _ _ _ _ _) | skip)
  try dsimp only [St.put, Nat.reduceAdd]
  refine WL.vl rfl (WV.call rfl (callF Tryz.func9 rfl rfl) rfl rfl (rLacks_FS s p hO)) ?_
  repeat (first | refine W.go rfl ?_ | refine WL.nil ?_ | refine WL.ev rfl ?_ | refine WL.gyes rfl rfl rfl rfl ?_ | refine WL.opno rfl rfl rfl rfl rfl rfl rfl ?_ | refine WL.ar rfl rfl (by unfold I64; omega) ?_ | refine WL.len rfl rfl (by first | exact List.length_map _ | exact List.length_replicate | rfl) ?_ | refine WL.idx rfl rfl (by omega) (by first | exact map_at (by omega) | exact map_atZ (by omega) (by omega)) ?_ | refine WL.ixs rfl rfl (by first | omega | (simp; done) | (simp; omega)) ?_ | refine WL.app rfl rfl rfl (by first | omega | (simp; done) | (simp; omega)) ?_ | refine WL.cat rfl rfl (by first | omega | (simp; done) | (simp; omega)) ?_ | refine W.condT rfl ?_ | refine W.condF rfl ?_)
  (first | refine (?_ : W _ _ _ _ _) | refine (?_ : WL _ _ _ _ _ _) | skip)
  try dsimp only [St.put, Nat.reduceAdd]
  have hl : (lksR s p).length ≤ 27000 := by
    unfold lksR
    split
    · exact lksTo_len s hO _ (Nat.le_refl _)
    · simp
  refine W.drawK (by kernel_rfl) (by kernel_rfl) ?_
  repeat (first | refine DK.tt rfl (by first | (simp; done) | fail) ?_ | refine DK.ff rfl (by first | (simp; done) | fail) ?_ | refine DK.st rfl ?_ | refine DK.ar rfl rfl (by unfold I64; omega) ?_ | refine DK.len rfl rfl (by first | exact List.length_map _ | exact List.length_replicate | rfl) ?_ | refine DK.idx rfl rfl (by omega) (by first | exact map_at (by omega) | exact map_atZ (by omega) (by omega)) ?_ | refine DK.ixs rfl rfl (by first | omega | (simp; done) | (simp; omega)) ?_ | refine DK.cat rfl rfl (by first | omega | (simp; done) | (simp; omega)) ?_ | refine DK.nil ?_)
  refine DK.vl rfl (WV.call rfl (callF Tryz.func10 rfl rfl) rfl rfl (sameLk_FS _ (by omega))) ?_
  repeat (first | refine DK.tt rfl (by first | (simp; done) | fail) ?_ | refine DK.ff rfl (by first | (simp; done) | fail) ?_ | refine DK.st rfl ?_ | refine DK.ar rfl rfl (by unfold I64; omega) ?_ | refine DK.len rfl rfl (by first | exact List.length_map _ | exact List.length_replicate | rfl) ?_ | refine DK.idx rfl rfl (by omega) (by first | exact map_at (by omega) | exact map_atZ (by omega) (by omega)) ?_ | refine DK.ixs rfl rfl (by first | omega | (simp; done) | (simp; omega)) ?_ | refine DK.cat rfl rfl (by first | omega | (simp; done) | (simp; omega)) ?_ | refine DK.nil ?_)
  refine DK.vl rfl (WV.call rfl (callF Tryz.func11 rfl rfl) rfl rfl (pCan_FS s p hO)) ?_
  repeat (first | refine DK.tt rfl (by first | (simp; done) | fail) ?_ | refine DK.ff rfl (by first | (simp; done) | fail) ?_ | refine DK.st rfl ?_ | refine DK.ar rfl rfl (by unfold I64; omega) ?_ | refine DK.len rfl rfl (by first | exact List.length_map _ | exact List.length_replicate | rfl) ?_ | refine DK.idx rfl rfl (by omega) (by first | exact map_at (by omega) | exact map_atZ (by omega) (by omega)) ?_ | refine DK.ixs rfl rfl (by first | omega | (simp; done) | (simp; omega)) ?_ | refine DK.cat rfl rfl (by first | omega | (simp; done) | (simp; omega)) ?_ | refine DK.nil ?_)
  refine DK.vl rfl (WV.call rfl (callF Tryz.func12 rfl rfl) rfl rfl (rCan_FS s p hO)) ?_
  repeat (first | refine DK.tt rfl (by first | (simp; done) | fail) ?_ | refine DK.ff rfl (by first | (simp; done) | fail) ?_ | refine DK.st rfl ?_ | refine DK.ar rfl rfl (by unfold I64; omega) ?_ | refine DK.len rfl rfl (by first | exact List.length_map _ | exact List.length_replicate | rfl) ?_ | refine DK.idx rfl rfl (by omega) (by first | exact map_at (by omega) | exact map_atZ (by omega) (by omega)) ?_ | refine DK.ixs rfl rfl (by first | omega | (simp; done) | (simp; omega)) ?_ | refine DK.cat rfl rfl (by first | omega | (simp; done) | (simp; omega)) ?_ | refine DK.nil ?_)
  refine DK.vl rfl (WV.call rfl (callF Tryz.func13 rfl rfl) rfl rfl (same_FS p hO)) ?_
  repeat (first | refine DK.tt rfl (by first | (simp; done) | fail) ?_ | refine DK.ff rfl (by first | (simp; done) | fail) ?_ | refine DK.st rfl ?_ | refine DK.ar rfl rfl (by unfold I64; omega) ?_ | refine DK.len rfl rfl (by first | exact List.length_map _ | exact List.length_replicate | rfl) ?_ | refine DK.idx rfl rfl (by omega) (by first | exact map_at (by omega) | exact map_atZ (by omega) (by omega)) ?_ | refine DK.ixs rfl rfl (by first | omega | (simp; done) | (simp; omega)) ?_ | refine DK.cat rfl rfl (by first | omega | (simp; done) | (simp; omega)) ?_ | refine DK.nil ?_)
  refine DK.vl rfl (WV.call rfl (callF Tryz.func6 rfl rfl) rfl rfl works_FS) ?_
  repeat (first | refine DK.tt rfl (by first | (simp; done) | fail) ?_ | refine DK.ff rfl (by first | (simp; done) | fail) ?_ | refine DK.st rfl ?_ | refine DK.ar rfl rfl (by unfold I64; omega) ?_ | refine DK.len rfl rfl (by first | exact List.length_map _ | exact List.length_replicate | rfl) ?_ | refine DK.idx rfl rfl (by omega) (by first | exact map_at (by omega) | exact map_atZ (by omega) (by omega)) ?_ | refine DK.ixs rfl rfl (by first | omega | (simp; done) | (simp; omega)) ?_ | refine DK.cat rfl rfl (by first | omega | (simp; done) | (simp; omega)) ?_ | refine DK.nil ?_)
  repeat (first | refine W.go rfl ?_ | refine WL.nil ?_ | refine WL.ev rfl ?_ | refine WL.gyes rfl rfl rfl rfl ?_ | refine WL.opno rfl rfl rfl rfl rfl rfl rfl ?_ | refine WL.ar rfl rfl (by unfold I64; omega) ?_ | refine WL.len rfl rfl (by first | exact List.length_map _ | exact List.length_replicate | rfl) ?_ | refine WL.idx rfl rfl (by omega) (by first | exact map_at (by omega) | exact map_atZ (by omega) (by omega)) ?_ | refine WL.ixs rfl rfl (by first | omega | (simp; done) | (simp; omega)) ?_ | refine WL.app rfl rfl rfl (by first | omega | (simp; done) | (simp; omega)) ?_ | refine WL.cat rfl rfl (by first | omega | (simp; done) | (simp; omega)) ?_ | refine W.condT rfl ?_ | refine W.condF rfl ?_)
  (first | refine (?_ : W _ _ _ _ _) | refine (?_ : WL _ _ _ _ _ _) | skip)
  try dsimp only [St.put, Nat.reduceAdd]
  exact W.ret (fin1 rfl rfl rfl rfl)
theorem lacks_walk (s : Int) (p : Pce) (v : Value) (w : World) (h : RP (fun q => w.cell? q) (ePce p) v) : Calls Tryz.prog 3 #[.int .u8 s, v] w (Ret (.bool true) w) := by
  refine (lacks_FS s p w (fun q => w.cell? q) [.int .u8 s, v] (fun _ _ h => h) ⟨rfl, fun i av u a b => ?_⟩).mono fun e w' ⟨u, F', he, hb, _, _, _, hr⟩ => ⟨?_, hb⟩
  · match i with
    | 0 => cases a; cases b; exact .sc _
    | 1 => cases a; cases b; exact h
    | i + 2 => simp at a
  · rw [he, hr.sc_eq]
end Go.Proofs.YteldgllgagjciaaGreat

/- NotationColumns: the walk. -/
namespace Go.Proofs.YteldgllgagjciaaGreat
open Go.RowKit
set_option linter.unusedVariables false
set_option linter.unusedSimpArgs false
set_option maxRecDepth 100000
set_option maxHeartbeats 4000000
/-- What Column answers. -/
def colX (s : Int) (p : Pce) (z : Int) : Int :=
  if ¬ (1 ≤ s ∧ s ≤ 4) then 30 else if pceE p ≠ 0 then pceE p else if z < 0 then 1 else
    match p.evs[z.toNat]? with
    | some e => if lackE s p z e = [] then 0 else 31
    | none => 1
def colT (s : Int) (p : Pce) (z : Int) : List UInt8 :=
  if colX s p z = 0 then
    match p.evs[z.toNat]? with
    | some e => colS s p z e
    | none => []
  else []
section
variable {s : Int} {p : Pce} {z : Int}
theorem colX_sys (h : ¬ (1 ≤ s ∧ s ≤ 4)) : colX s p z = 30 ∧ colT s p z = [] := by
  have : colX s p z = 30 := if_pos h
  exact ⟨this, by unfold colT; rw [this]; rfl⟩
theorem colX_pce (h : 1 ≤ s ∧ s ≤ 4) (h1 : pceE p ≠ 0) : colX s p z = pceE p ∧ colT s p z = [] := by
  have : colX s p z = pceE p := by unfold colX; rw [if_neg (fun k => k h), if_pos h1]
  exact ⟨this, by unfold colT; rw [this, if_neg h1]⟩
theorem colX_arg (h : 1 ≤ s ∧ s ≤ 4) (h1 : ¬ pceE p ≠ 0) (h2 : z < 0 ∨ (p.evs.length : Int) ≤ z) : colX s p z = 1 ∧ colT s p z = [] := by
  have : colX s p z = 1 := by
    unfold colX
    rw [if_neg (fun k => k h), if_neg h1]
    by_cases h3 : z < 0
    · rw [if_pos h3]
    · rw [if_neg h3, List.getElem?_eq_none (by omega)]
  exact ⟨this, by unfold colT; rw [this]; rfl⟩
theorem colX_no {i : Nat} (h : 1 ≤ s ∧ s ≤ 4) (h1 : ¬ pceE p ≠ 0) (h2 : i < p.evs.length) (h3 : ¬ lackE s p i p.evs[i] = []) : colX s p i = 31 ∧ colT s p i = [] := by
  have : colX s p i = 31 := by
    unfold colX
    rw [if_neg (fun k => k h), if_neg h1, if_neg (by omega), Int.toNat_natCast, List.getElem?_eq_getElem h2]
    exact if_neg h3
  exact ⟨this, by unfold colT; rw [this]; rfl⟩
theorem colX_ok {i : Nat} (h : 1 ≤ s ∧ s ≤ 4) (h1 : ¬ pceE p ≠ 0) (h2 : i < p.evs.length) (h3 : lackE s p i p.evs[i] = []) : colX s p i = 0 ∧ colT s p i = colS s p i p.evs[i] := by
  have : colX s p i = 0 := by
    unfold colX
    rw [if_neg (fun k => k h), if_neg h1, if_neg (by omega), Int.toNat_natCast, List.getElem?_eq_getElem h2]
    exact if_pos h3
  exact ⟨this, by unfold colT; rw [this, if_pos rfl, Int.toNat_natCast, List.getElem?_eq_getElem h2]⟩
end
theorem pColumn_FS (s : Int) (p : Pce) (hO : PcOk p) (z : Int) : Ctr Tryz.prog 15 [.sc (.int .u8 s), ePce p, .sc (.int .i64 z)] (.tu [.sc (.string (bs (colT s p z))), .sc (.int .i64 (colX s p z))]) := by
  have hn3 := hO.n3
  refine Ctr.intro Tryz.func15 rfl Tryz.ntmps15 (Nat.le_of_ble_eq_true rfl) (bd_all rfl) fun w0 F0 => ?_; dsimp only [St.init, number, Nat.reduceAdd]
  repeat (first | refine W.go rfl ?_ | refine WL.nil ?_ | refine WL.ev rfl ?_ | refine WL.gyes rfl rfl rfl rfl ?_ | refine WL.opno rfl rfl rfl rfl rfl rfl rfl ?_ | refine WL.ar rfl rfl (by unfold I64; omega) ?_ | refine WL.len rfl rfl (by first | exact List.length_map _ | exact List.length_replicate | rfl) ?_ | refine WL.idx rfl rfl (by omega) (by first | exact map_at (by omega) | exact map_atZ (by omega) (by omega)) ?_ | refine WL.ixs rfl rfl (by first | omega | (simp; done) | (simp; omega)) ?_ | refine WL.app rfl rfl rfl (by first | omega | (simp; done) | (simp; omega)) ?_ | refine WL.cat rfl rfl (by first | omega | (simp; done) | (simp; omega)) ?_ | refine W.condT rfl ?_ | refine W.condF rfl ?_)
  (first | refine (?_ : W _ _ _ _ _) | refine (?_ : WL _ _ _ _ _ _) | skip)
  try dsimp only [St.put, Nat.reduceAdd]
  refine WL.vl rfl (WV.call rfl (callF Tryz.func21 rfl rfl) rfl rfl (of_FS s)) ?_
  repeat (first | refine W.go rfl ?_ | refine WL.nil ?_ | refine WL.ev rfl ?_ | refine WL.gyes rfl rfl rfl rfl ?_ | refine WL.opno rfl rfl rfl rfl rfl rfl rfl ?_ | refine WL.ar rfl rfl (by unfold I64; omega) ?_ | refine WL.len rfl rfl (by first | exact List.length_map _ | exact List.length_replicate | rfl) ?_ | refine WL.idx rfl rfl (by omega) (by first | exact map_at (by omega) | exact map_atZ (by omega) (by omega)) ?_ | refine WL.ixs rfl rfl (by first | omega | (simp; done) | (simp; omega)) ?_ | refine WL.app rfl rfl rfl (by first | omega | (simp; done) | (simp; omega)) ?_ | refine WL.cat rfl rfl (by first | omega | (simp; done) | (simp; omega)) ?_ | refine W.condT rfl ?_ | refine W.condF rfl ?_)
  (first | refine (?_ : W _ _ _ _ _) | refine (?_ : WL _ _ _ _ _ _) | skip)
  try dsimp only [St.put, Nat.reduceAdd]
  (refine W.cond rfl (fun hif => ?_) (fun hif => ?_) <;> (try simp only [decide_eq_true_eq, decide_eq_false_iff_not, Int.not_lt, Int.not_le, Bool.not_eq_true', Bool.not_eq_false'] at hif))
  · have hs : ¬ (1 ≤ s ∧ s ≤ 4) := by simpa using hif
    rw [(colX_sys hs).1, (colX_sys hs).2]
    repeat (first | refine W.go rfl ?_ | refine WL.nil ?_ | refine WL.ev rfl ?_ | refine WL.gyes rfl rfl rfl rfl ?_ | refine WL.opno rfl rfl rfl rfl rfl rfl rfl ?_ | refine WL.ar rfl rfl (by unfold I64; omega) ?_ | refine WL.len rfl rfl (by first | exact List.length_map _ | exact List.length_replicate | rfl) ?_ | refine WL.idx rfl rfl (by omega) (by first | exact map_at (by omega) | exact map_atZ (by omega) (by omega)) ?_ | refine WL.ixs rfl rfl (by first | omega | (simp; done) | (simp; omega)) ?_ | refine WL.app rfl rfl rfl (by first | omega | (simp; done) | (simp; omega)) ?_ | refine WL.cat rfl rfl (by first | omega | (simp; done) | (simp; omega)) ?_ | refine W.condT rfl ?_ | refine W.condF rfl ?_)
    (first | refine (?_ : W _ _ _ _ _) | refine (?_ : WL _ _ _ _ _ _) | skip)
    try dsimp only [St.put, Nat.reduceAdd]
    exact W.ret (fin2 rfl rfl rfl rfl rfl rfl rfl)
  have hs : 1 ≤ s ∧ s ≤ 4 := by simpa using hif
  repeat (first | refine W.go rfl ?_ | refine WL.nil ?_ | refine WL.ev rfl ?_ | refine WL.gyes rfl rfl rfl rfl ?_ | refine WL.opno rfl rfl rfl rfl rfl rfl rfl ?_ | refine WL.ar rfl rfl (by unfold I64; omega) ?_ | refine WL.len rfl rfl (by first | exact List.length_map _ | exact List.length_replicate | rfl) ?_ | refine WL.idx rfl rfl (by omega) (by first | exact map_at (by omega) | exact map_atZ (by omega) (by omega)) ?_ | refine WL.ixs rfl rfl (by first | omega | (simp; done) | (simp; omega)) ?_ | refine WL.app rfl rfl rfl (by first | omega | (simp; done) | (simp; omega)) ?_ | refine WL.cat rfl rfl (by first | omega | (simp; done) | (simp; omega)) ?_ | refine W.condT rfl ?_ | refine W.condF rfl ?_)
  (first | refine (?_ : W _ _ _ _ _) | refine (?_ : WL _ _ _ _ _ _) | skip)
  try dsimp only [St.put, Nat.reduceAdd]
  refine WL.vl rfl (WV.call rfl (callF Tryz.func22 rfl rfl) rfl rfl (pCheck_FS p hO)) ?_
  repeat (first | refine W.go rfl ?_ | refine WL.nil ?_ | refine WL.ev rfl ?_ | refine WL.gyes rfl rfl rfl rfl ?_ | refine WL.opno rfl rfl rfl rfl rfl rfl rfl ?_ | refine WL.ar rfl rfl (by unfold I64; omega) ?_ | refine WL.len rfl rfl (by first | exact List.length_map _ | exact List.length_replicate | rfl) ?_ | refine WL.idx rfl rfl (by omega) (by first | exact map_at (by omega) | exact map_atZ (by omega) (by omega)) ?_ | refine WL.ixs rfl rfl (by first | omega | (simp; done) | (simp; omega)) ?_ | refine WL.app rfl rfl rfl (by first | omega | (simp; done) | (simp; omega)) ?_ | refine WL.cat rfl rfl (by first | omega | (simp; done) | (simp; omega)) ?_ | refine W.condT rfl ?_ | refine W.condF rfl ?_)
  (first | refine (?_ : W _ _ _ _ _) | refine (?_ : WL _ _ _ _ _ _) | skip)
  try dsimp only [St.put, Nat.reduceAdd]
  (refine W.cond rfl (fun hif => ?_) (fun hif => ?_) <;> (try simp only [decide_eq_true_eq, decide_eq_false_iff_not, Int.not_lt, Int.not_le, Bool.not_eq_true', Bool.not_eq_false'] at hif))
  · have h0 : pceE p ≠ 0 := by simpa using hif
    rw [(colX_pce hs h0).1, (colX_pce hs h0).2]
    repeat (first | refine W.go rfl ?_ | refine WL.nil ?_ | refine WL.ev rfl ?_ | refine WL.gyes rfl rfl rfl rfl ?_ | refine WL.opno rfl rfl rfl rfl rfl rfl rfl ?_ | refine WL.ar rfl rfl (by unfold I64; omega) ?_ | refine WL.len rfl rfl (by first | exact List.length_map _ | exact List.length_replicate | rfl) ?_ | refine WL.idx rfl rfl (by omega) (by first | exact map_at (by omega) | exact map_atZ (by omega) (by omega)) ?_ | refine WL.ixs rfl rfl (by first | omega | (simp; done) | (simp; omega)) ?_ | refine WL.app rfl rfl rfl (by first | omega | (simp; done) | (simp; omega)) ?_ | refine WL.cat rfl rfl (by first | omega | (simp; done) | (simp; omega)) ?_ | refine W.condT rfl ?_ | refine W.condF rfl ?_)
    (first | refine (?_ : W _ _ _ _ _) | refine (?_ : WL _ _ _ _ _ _) | skip)
    try dsimp only [St.put, Nat.reduceAdd]
    exact W.ret (fin2 rfl rfl rfl rfl rfl rfl rfl)
  have h0 : pceE p = 0 := by simpa using hif
  by_cases hz : z < 0 ∨ (p.evs.length : Int) ≤ z
  · rw [(colX_arg hs (fun h => h h0) hz).1, (colX_arg hs (fun h => h h0) hz).2]
    by_cases hz0 : z < 0
    · repeat (first | refine W.gob rfl ?_ | refine WL.nil ?_ | refine WL.bt rfl rfl rfl (by omega) ?_ | refine WL.bf rfl rfl rfl (by omega) ?_ | refine WL.nt rfl rfl rfl (by omega) ?_ | refine WL.nf rfl rfl rfl (by omega) ?_ | refine WL.e1 rfl ?_ | refine WL.gyes rfl rfl rfl rfl ?_ | refine WL.opno rfl rfl rfl rfl rfl rfl rfl ?_ | refine WL.ar rfl rfl (by unfold I64; omega) ?_ | refine WL.len rfl rfl (by first | exact List.length_map _ | exact List.length_replicate | rfl) ?_ | refine WL.idx rfl rfl (by omega) (by first | exact map_at (by omega) | exact map_atZ (by omega) (by omega)) ?_ | refine WL.ixs rfl rfl (by first | omega | (simp; done) | (simp; omega)) ?_ | refine WL.app rfl rfl rfl (by first | omega | (simp; done) | (simp; omega)) ?_ | refine WL.cat rfl rfl (by first | omega | (simp; done) | (simp; omega)) ?_ | refine W.condT rfl ?_ | refine W.condF rfl ?_)
      (first | refine (?_ : W _ _ _ _ _) | refine (?_ : WL _ _ _ _ _ _) | skip)
      try dsimp only [St.put, Nat.reduceAdd]
      exact W.ret (fin2 rfl rfl rfl rfl rfl rfl rfl)
    · repeat (first | refine W.gob rfl ?_ | refine WL.nil ?_ | refine WL.bt rfl rfl rfl (by omega) ?_ | refine WL.bf rfl rfl rfl (by omega) ?_ | refine WL.nt rfl rfl rfl (by omega) ?_ | refine WL.nf rfl rfl rfl (by omega) ?_ | refine WL.e1 rfl ?_ | refine WL.gyes rfl rfl rfl rfl ?_ | refine WL.opno rfl rfl rfl rfl rfl rfl rfl ?_ | refine WL.ar rfl rfl (by unfold I64; omega) ?_ | refine WL.len rfl rfl (by first | exact List.length_map _ | exact List.length_replicate | rfl) ?_ | refine WL.idx rfl rfl (by omega) (by first | exact map_at (by omega) | exact map_atZ (by omega) (by omega)) ?_ | refine WL.ixs rfl rfl (by first | omega | (simp; done) | (simp; omega)) ?_ | refine WL.app rfl rfl rfl (by first | omega | (simp; done) | (simp; omega)) ?_ | refine WL.cat rfl rfl (by first | omega | (simp; done) | (simp; omega)) ?_ | refine W.condT rfl ?_ | refine W.condF rfl ?_)
      (first | refine (?_ : W _ _ _ _ _) | refine (?_ : WL _ _ _ _ _ _) | skip)
      try dsimp only [St.put, Nat.reduceAdd]
      exact W.ret (fin2 rfl rfl rfl rfl rfl rfl rfl)
  obtain ⟨i, rfl⟩ := Int.eq_ofNat_of_zero_le (show 0 ≤ z by omega)
  have hi : i < p.evs.length := by omega
  have hll := lackE_len s p i p.evs[i] (hO.n4 i hi)
  repeat (first | refine W.gob rfl ?_ | refine WL.nil ?_ | refine WL.bt rfl rfl rfl (by omega) ?_ | refine WL.bf rfl rfl rfl (by omega) ?_ | refine WL.nt rfl rfl rfl (by omega) ?_ | refine WL.nf rfl rfl rfl (by omega) ?_ | refine WL.e1 rfl ?_ | refine WL.gyes rfl rfl rfl rfl ?_ | refine WL.opno rfl rfl rfl rfl rfl rfl rfl ?_ | refine WL.ar rfl rfl (by unfold I64; omega) ?_ | refine WL.len rfl rfl (by first | exact List.length_map _ | exact List.length_replicate | rfl) ?_ | refine WL.idx rfl rfl (by omega) (by first | exact map_at (by omega) | exact map_atZ (by omega) (by omega)) ?_ | refine WL.ixs rfl rfl (by first | omega | (simp; done) | (simp; omega)) ?_ | refine WL.app rfl rfl rfl (by first | omega | (simp; done) | (simp; omega)) ?_ | refine WL.cat rfl rfl (by first | omega | (simp; done) | (simp; omega)) ?_ | refine W.condT rfl ?_ | refine W.condF rfl ?_)
  (first | refine (?_ : W _ _ _ _ _) | refine (?_ : WL _ _ _ _ _ _) | skip)
  try dsimp only [St.put, Nat.reduceAdd]
  refine WL.vl rfl (WV.call rfl (callF Tryz.func23 rfl rfl) rfl rfl (plack_FS s hs p i hi hO (stopsIn_of h0 i hi))) ?_
  by_cases hk : lackE s p i p.evs[i] = []
  · rw [(colX_ok hs (fun h => h h0) hi hk).1, (colX_ok hs (fun h => h h0) hi hk).2, hk]
    repeat (first | refine W.gob rfl ?_ | refine WL.nil ?_ | refine WL.bt rfl rfl rfl (by omega) ?_ | refine WL.bf rfl rfl rfl (by omega) ?_ | refine WL.nt rfl rfl rfl (by omega) ?_ | refine WL.nf rfl rfl rfl (by omega) ?_ | refine WL.e1 rfl ?_ | refine WL.gyes rfl rfl rfl rfl ?_ | refine WL.opno rfl rfl rfl rfl rfl rfl rfl ?_ | refine WL.ar rfl rfl (by unfold I64; omega) ?_ | refine WL.len rfl rfl (by first | exact List.length_map _ | exact List.length_replicate | rfl) ?_ | refine WL.idx rfl rfl (by omega) (by first | exact map_at (by omega) | exact map_atZ (by omega) (by omega)) ?_ | refine WL.ixs rfl rfl (by first | omega | (simp; done) | (simp; omega)) ?_ | refine WL.app rfl rfl rfl (by first | omega | (simp; done) | (simp; omega)) ?_ | refine WL.cat rfl rfl (by first | omega | (simp; done) | (simp; omega)) ?_ | refine W.condT rfl ?_ | refine W.condF rfl ?_)
    (first | refine (?_ : W _ _ _ _ _) | refine (?_ : WL _ _ _ _ _ _) | skip)
    try dsimp only [St.put, Nat.reduceAdd]
    refine WL.vl rfl (WV.call rfl (callF Tryz.func29 rfl rfl) rfl rfl (column_FS s hs p i hi hO h0)) ?_
    repeat (first | refine W.gob rfl ?_ | refine WL.nil ?_ | refine WL.bt rfl rfl rfl (by omega) ?_ | refine WL.bf rfl rfl rfl (by omega) ?_ | refine WL.nt rfl rfl rfl (by omega) ?_ | refine WL.nf rfl rfl rfl (by omega) ?_ | refine WL.e1 rfl ?_ | refine WL.gyes rfl rfl rfl rfl ?_ | refine WL.opno rfl rfl rfl rfl rfl rfl rfl ?_ | refine WL.ar rfl rfl (by unfold I64; omega) ?_ | refine WL.len rfl rfl (by first | exact List.length_map _ | exact List.length_replicate | rfl) ?_ | refine WL.idx rfl rfl (by omega) (by first | exact map_at (by omega) | exact map_atZ (by omega) (by omega)) ?_ | refine WL.ixs rfl rfl (by first | omega | (simp; done) | (simp; omega)) ?_ | refine WL.app rfl rfl rfl (by first | omega | (simp; done) | (simp; omega)) ?_ | refine WL.cat rfl rfl (by first | omega | (simp; done) | (simp; omega)) ?_ | refine W.condT rfl ?_ | refine W.condF rfl ?_)
    (first | refine (?_ : W _ _ _ _ _) | refine (?_ : WL _ _ _ _ _ _) | skip)
    try dsimp only [St.put, Nat.reduceAdd]
    exact W.ret (fin2 rfl rfl rfl rfl rfl rfl rfl)
  · rw [(colX_no hs (fun h => h h0) hi hk).1, (colX_no hs (fun h => h h0) hi hk).2]
    have hpos : 0 < (lackE s p i p.evs[i]).length := List.length_pos_iff.2 hk
    repeat (first | refine W.gob rfl ?_ | refine WL.nil ?_ | refine WL.bt rfl rfl rfl (by omega) ?_ | refine WL.bf rfl rfl rfl (by omega) ?_ | refine WL.nt rfl rfl rfl (by omega) ?_ | refine WL.nf rfl rfl rfl (by omega) ?_ | refine WL.e1 rfl ?_ | refine WL.gyes rfl rfl rfl rfl ?_ | refine WL.opno rfl rfl rfl rfl rfl rfl rfl ?_ | refine WL.ar rfl rfl (by unfold I64; omega) ?_ | refine WL.len rfl rfl (by first | exact List.length_map _ | exact List.length_replicate | rfl) ?_ | refine WL.idx rfl rfl (by omega) (by first | exact map_at (by omega) | exact map_atZ (by omega) (by omega)) ?_ | refine WL.ixs rfl rfl (by first | omega | (simp; done) | (simp; omega)) ?_ | refine WL.app rfl rfl rfl (by first | omega | (simp; done) | (simp; omega)) ?_ | refine WL.cat rfl rfl (by first | omega | (simp; done) | (simp; omega)) ?_ | refine W.condT rfl ?_ | refine W.condF rfl ?_)
    (first | refine (?_ : W _ _ _ _ _) | refine (?_ : WL _ _ _ _ _ _) | skip)
    try dsimp only [St.put, Nat.reduceAdd]
    exact W.ret (fin2 rfl rfl rfl rfl rfl rfl rfl)
theorem rColumn_FS (s : Int) (p : Pce) (hO : PcOk p) (z : Int) : Ctr Tryz.prog 16 [.sc (.int .u8 s), ePce p, .sc (.int .i64 z)] (.tu [.sc (.string (bs (colT s p z))), .sc (.int .i64 (colX s p z))]) := by
  have hn3 := hO.n3
  refine Ctr.intro Tryz.func16 rfl Tryz.ntmps16 (Nat.le_of_ble_eq_true rfl) (bd_all rfl) fun w0 F0 => ?_; dsimp only [St.init, number, Nat.reduceAdd]
  repeat (first | refine W.go rfl ?_ | refine WL.nil ?_ | refine WL.ev rfl ?_ | refine WL.gyes rfl rfl rfl rfl ?_ | refine WL.opno rfl rfl rfl rfl rfl rfl rfl ?_ | refine WL.ar rfl rfl (by unfold I64; omega) ?_ | refine WL.len rfl rfl (by first | exact List.length_map _ | exact List.length_replicate | rfl) ?_ | refine WL.idx rfl rfl (by omega) (by first | exact map_at (by omega) | exact map_atZ (by omega) (by omega)) ?_ | refine WL.ixs rfl rfl (by first | omega | (simp; done) | (simp; omega)) ?_ | refine WL.app rfl rfl rfl (by first | omega | (simp; done) | (simp; omega)) ?_ | refine WL.cat rfl rfl (by first | omega | (simp; done) | (simp; omega)) ?_ | refine W.condT rfl ?_ | refine W.condF rfl ?_)
  (first | refine (?_ : W _ _ _ _ _) | refine (?_ : WL _ _ _ _ _ _) | skip)
  try dsimp only [St.put, Nat.reduceAdd]
  refine WL.vl rfl (WV.call rfl (callF Tryz.func24 rfl rfl) rfl rfl (known_FS s)) ?_
  repeat (first | refine W.go rfl ?_ | refine WL.nil ?_ | refine WL.ev rfl ?_ | refine WL.gyes rfl rfl rfl rfl ?_ | refine WL.opno rfl rfl rfl rfl rfl rfl rfl ?_ | refine WL.ar rfl rfl (by unfold I64; omega) ?_ | refine WL.len rfl rfl (by first | exact List.length_map _ | exact List.length_replicate | rfl) ?_ | refine WL.idx rfl rfl (by omega) (by first | exact map_at (by omega) | exact map_atZ (by omega) (by omega)) ?_ | refine WL.ixs rfl rfl (by first | omega | (simp; done) | (simp; omega)) ?_ | refine WL.app rfl rfl rfl (by first | omega | (simp; done) | (simp; omega)) ?_ | refine WL.cat rfl rfl (by first | omega | (simp; done) | (simp; omega)) ?_ | refine W.condT rfl ?_ | refine W.condF rfl ?_)
  (first | refine (?_ : W _ _ _ _ _) | refine (?_ : WL _ _ _ _ _ _) | skip)
  try dsimp only [St.put, Nat.reduceAdd]
  (refine W.cond rfl (fun hif => ?_) (fun hif => ?_) <;> (try simp only [decide_eq_true_eq, decide_eq_false_iff_not, Int.not_lt, Int.not_le, Bool.not_eq_true', Bool.not_eq_false'] at hif))
  · have hs : ¬ (1 ≤ s ∧ s ≤ 4) := by simpa using hif
    rw [(colX_sys hs).1, (colX_sys hs).2]
    repeat (first | refine W.go rfl ?_ | refine WL.nil ?_ | refine WL.ev rfl ?_ | refine WL.gyes rfl rfl rfl rfl ?_ | refine WL.opno rfl rfl rfl rfl rfl rfl rfl ?_ | refine WL.ar rfl rfl (by unfold I64; omega) ?_ | refine WL.len rfl rfl (by first | exact List.length_map _ | exact List.length_replicate | rfl) ?_ | refine WL.idx rfl rfl (by omega) (by first | exact map_at (by omega) | exact map_atZ (by omega) (by omega)) ?_ | refine WL.ixs rfl rfl (by first | omega | (simp; done) | (simp; omega)) ?_ | refine WL.app rfl rfl rfl (by first | omega | (simp; done) | (simp; omega)) ?_ | refine WL.cat rfl rfl (by first | omega | (simp; done) | (simp; omega)) ?_ | refine W.condT rfl ?_ | refine W.condF rfl ?_)
    (first | refine (?_ : W _ _ _ _ _) | refine (?_ : WL _ _ _ _ _ _) | skip)
    try dsimp only [St.put, Nat.reduceAdd]
    exact W.ret (fin2 rfl rfl rfl rfl rfl rfl rfl)
  have hs : 1 ≤ s ∧ s ≤ 4 := by simpa using hif
  repeat (first | refine W.go rfl ?_ | refine WL.nil ?_ | refine WL.ev rfl ?_ | refine WL.gyes rfl rfl rfl rfl ?_ | refine WL.opno rfl rfl rfl rfl rfl rfl rfl ?_ | refine WL.ar rfl rfl (by unfold I64; omega) ?_ | refine WL.len rfl rfl (by first | exact List.length_map _ | exact List.length_replicate | rfl) ?_ | refine WL.idx rfl rfl (by omega) (by first | exact map_at (by omega) | exact map_atZ (by omega) (by omega)) ?_ | refine WL.ixs rfl rfl (by first | omega | (simp; done) | (simp; omega)) ?_ | refine WL.app rfl rfl rfl (by first | omega | (simp; done) | (simp; omega)) ?_ | refine WL.cat rfl rfl (by first | omega | (simp; done) | (simp; omega)) ?_ | refine W.condT rfl ?_ | refine W.condF rfl ?_)
  (first | refine (?_ : W _ _ _ _ _) | refine (?_ : WL _ _ _ _ _ _) | skip)
  try dsimp only [St.put, Nat.reduceAdd]
  refine WL.vl rfl (WV.call rfl (callF Tryz.func25 rfl rfl) rfl rfl (rCheck_FS p hO)) ?_
  repeat (first | refine W.go rfl ?_ | refine WL.nil ?_ | refine WL.ev rfl ?_ | refine WL.gyes rfl rfl rfl rfl ?_ | refine WL.opno rfl rfl rfl rfl rfl rfl rfl ?_ | refine WL.ar rfl rfl (by unfold I64; omega) ?_ | refine WL.len rfl rfl (by first | exact List.length_map _ | exact List.length_replicate | rfl) ?_ | refine WL.idx rfl rfl (by omega) (by first | exact map_at (by omega) | exact map_atZ (by omega) (by omega)) ?_ | refine WL.ixs rfl rfl (by first | omega | (simp; done) | (simp; omega)) ?_ | refine WL.app rfl rfl rfl (by first | omega | (simp; done) | (simp; omega)) ?_ | refine WL.cat rfl rfl (by first | omega | (simp; done) | (simp; omega)) ?_ | refine W.condT rfl ?_ | refine W.condF rfl ?_)
  (first | refine (?_ : W _ _ _ _ _) | refine (?_ : WL _ _ _ _ _ _) | skip)
  try dsimp only [St.put, Nat.reduceAdd]
  (refine W.cond rfl (fun hif => ?_) (fun hif => ?_) <;> (try simp only [decide_eq_true_eq, decide_eq_false_iff_not, Int.not_lt, Int.not_le, Bool.not_eq_true', Bool.not_eq_false'] at hif))
  · have h0 : pceE p ≠ 0 := by simpa using hif
    rw [(colX_pce hs h0).1, (colX_pce hs h0).2]
    repeat (first | refine W.go rfl ?_ | refine WL.nil ?_ | refine WL.ev rfl ?_ | refine WL.gyes rfl rfl rfl rfl ?_ | refine WL.opno rfl rfl rfl rfl rfl rfl rfl ?_ | refine WL.ar rfl rfl (by unfold I64; omega) ?_ | refine WL.len rfl rfl (by first | exact List.length_map _ | exact List.length_replicate | rfl) ?_ | refine WL.idx rfl rfl (by omega) (by first | exact map_at (by omega) | exact map_atZ (by omega) (by omega)) ?_ | refine WL.ixs rfl rfl (by first | omega | (simp; done) | (simp; omega)) ?_ | refine WL.app rfl rfl rfl (by first | omega | (simp; done) | (simp; omega)) ?_ | refine WL.cat rfl rfl (by first | omega | (simp; done) | (simp; omega)) ?_ | refine W.condT rfl ?_ | refine W.condF rfl ?_)
    (first | refine (?_ : W _ _ _ _ _) | refine (?_ : WL _ _ _ _ _ _) | skip)
    try dsimp only [St.put, Nat.reduceAdd]
    exact W.ret (fin2 rfl rfl rfl rfl rfl rfl rfl)
  have h0 : pceE p = 0 := by simpa using hif
  by_cases hz : z < 0 ∨ (p.evs.length : Int) ≤ z
  · rw [(colX_arg hs (fun h => h h0) hz).1, (colX_arg hs (fun h => h h0) hz).2]
    by_cases hz0 : z < 0
    · repeat (first | refine W.gob rfl ?_ | refine WL.nil ?_ | refine WL.bt rfl rfl rfl (by omega) ?_ | refine WL.bf rfl rfl rfl (by omega) ?_ | refine WL.nt rfl rfl rfl (by omega) ?_ | refine WL.nf rfl rfl rfl (by omega) ?_ | refine WL.e1 rfl ?_ | refine WL.gyes rfl rfl rfl rfl ?_ | refine WL.opno rfl rfl rfl rfl rfl rfl rfl ?_ | refine WL.ar rfl rfl (by unfold I64; omega) ?_ | refine WL.len rfl rfl (by first | exact List.length_map _ | exact List.length_replicate | rfl) ?_ | refine WL.idx rfl rfl (by omega) (by first | exact map_at (by omega) | exact map_atZ (by omega) (by omega)) ?_ | refine WL.ixs rfl rfl (by first | omega | (simp; done) | (simp; omega)) ?_ | refine WL.app rfl rfl rfl (by first | omega | (simp; done) | (simp; omega)) ?_ | refine WL.cat rfl rfl (by first | omega | (simp; done) | (simp; omega)) ?_ | refine W.condT rfl ?_ | refine W.condF rfl ?_)
      (first | refine (?_ : W _ _ _ _ _) | refine (?_ : WL _ _ _ _ _ _) | skip)
      try dsimp only [St.put, Nat.reduceAdd]
      exact W.ret (fin2 rfl rfl rfl rfl rfl rfl rfl)
    · repeat (first | refine W.gob rfl ?_ | refine WL.nil ?_ | refine WL.bt rfl rfl rfl (by omega) ?_ | refine WL.bf rfl rfl rfl (by omega) ?_ | refine WL.nt rfl rfl rfl (by omega) ?_ | refine WL.nf rfl rfl rfl (by omega) ?_ | refine WL.e1 rfl ?_ | refine WL.gyes rfl rfl rfl rfl ?_ | refine WL.opno rfl rfl rfl rfl rfl rfl rfl ?_ | refine WL.ar rfl rfl (by unfold I64; omega) ?_ | refine WL.len rfl rfl (by first | exact List.length_map _ | exact List.length_replicate | rfl) ?_ | refine WL.idx rfl rfl (by omega) (by first | exact map_at (by omega) | exact map_atZ (by omega) (by omega)) ?_ | refine WL.ixs rfl rfl (by first | omega | (simp; done) | (simp; omega)) ?_ | refine WL.app rfl rfl rfl (by first | omega | (simp; done) | (simp; omega)) ?_ | refine WL.cat rfl rfl (by first | omega | (simp; done) | (simp; omega)) ?_ | refine W.condT rfl ?_ | refine W.condF rfl ?_)
      (first | refine (?_ : W _ _ _ _ _) | refine (?_ : WL _ _ _ _ _ _) | skip)
      try dsimp only [St.put, Nat.reduceAdd]
      exact W.ret (fin2 rfl rfl rfl rfl rfl rfl rfl)
  obtain ⟨i, rfl⟩ := Int.eq_ofNat_of_zero_le (show 0 ≤ z by omega)
  have hi : i < p.evs.length := by omega
  have hll := lackE_len s p i p.evs[i] (hO.n4 i hi)
  repeat (first | refine W.gob rfl ?_ | refine WL.nil ?_ | refine WL.bt rfl rfl rfl (by omega) ?_ | refine WL.bf rfl rfl rfl (by omega) ?_ | refine WL.nt rfl rfl rfl (by omega) ?_ | refine WL.nf rfl rfl rfl (by omega) ?_ | refine WL.e1 rfl ?_ | refine WL.gyes rfl rfl rfl rfl ?_ | refine WL.opno rfl rfl rfl rfl rfl rfl rfl ?_ | refine WL.ar rfl rfl (by unfold I64; omega) ?_ | refine WL.len rfl rfl (by first | exact List.length_map _ | exact List.length_replicate | rfl) ?_ | refine WL.idx rfl rfl (by omega) (by first | exact map_at (by omega) | exact map_atZ (by omega) (by omega)) ?_ | refine WL.ixs rfl rfl (by first | omega | (simp; done) | (simp; omega)) ?_ | refine WL.app rfl rfl rfl (by first | omega | (simp; done) | (simp; omega)) ?_ | refine WL.cat rfl rfl (by first | omega | (simp; done) | (simp; omega)) ?_ | refine W.condT rfl ?_ | refine W.condF rfl ?_)
  (first | refine (?_ : W _ _ _ _ _) | refine (?_ : WL _ _ _ _ _ _) | skip)
  try dsimp only [St.put, Nat.reduceAdd]
  refine WL.vl rfl (WV.call rfl (callF Tryz.func26 rfl rfl) rfl rfl (rlack_FS s hs p i hi hO h0)) ?_
  by_cases hk : lackE s p i p.evs[i] = []
  · rw [(colX_ok hs (fun h => h h0) hi hk).1, (colX_ok hs (fun h => h h0) hi hk).2, hk]
    repeat (first | refine W.gob rfl ?_ | refine WL.nil ?_ | refine WL.bt rfl rfl rfl (by omega) ?_ | refine WL.bf rfl rfl rfl (by omega) ?_ | refine WL.nt rfl rfl rfl (by omega) ?_ | refine WL.nf rfl rfl rfl (by omega) ?_ | refine WL.e1 rfl ?_ | refine WL.gyes rfl rfl rfl rfl ?_ | refine WL.opno rfl rfl rfl rfl rfl rfl rfl ?_ | refine WL.ar rfl rfl (by unfold I64; omega) ?_ | refine WL.len rfl rfl (by first | exact List.length_map _ | exact List.length_replicate | rfl) ?_ | refine WL.idx rfl rfl (by omega) (by first | exact map_at (by omega) | exact map_atZ (by omega) (by omega)) ?_ | refine WL.ixs rfl rfl (by first | omega | (simp; done) | (simp; omega)) ?_ | refine WL.app rfl rfl rfl (by first | omega | (simp; done) | (simp; omega)) ?_ | refine WL.cat rfl rfl (by first | omega | (simp; done) | (simp; omega)) ?_ | refine W.condT rfl ?_ | refine W.condF rfl ?_)
    (first | refine (?_ : W _ _ _ _ _) | refine (?_ : WL _ _ _ _ _ _) | skip)
    try dsimp only [St.put, Nat.reduceAdd]
    refine WL.vl rfl (WV.call rfl (callF Tryz.func30 rfl rfl) rfl rfl (rcolumn_FS s hs p i hi hO h0 hk)) ?_
    repeat (first | refine W.gob rfl ?_ | refine WL.nil ?_ | refine WL.bt rfl rfl rfl (by omega) ?_ | refine WL.bf rfl rfl rfl (by omega) ?_ | refine WL.nt rfl rfl rfl (by omega) ?_ | refine WL.nf rfl rfl rfl (by omega) ?_ | refine WL.e1 rfl ?_ | refine WL.gyes rfl rfl rfl rfl ?_ | refine WL.opno rfl rfl rfl rfl rfl rfl rfl ?_ | refine WL.ar rfl rfl (by unfold I64; omega) ?_ | refine WL.len rfl rfl (by first | exact List.length_map _ | exact List.length_replicate | rfl) ?_ | refine WL.idx rfl rfl (by omega) (by first | exact map_at (by omega) | exact map_atZ (by omega) (by omega)) ?_ | refine WL.ixs rfl rfl (by first | omega | (simp; done) | (simp; omega)) ?_ | refine WL.app rfl rfl rfl (by first | omega | (simp; done) | (simp; omega)) ?_ | refine WL.cat rfl rfl (by first | omega | (simp; done) | (simp; omega)) ?_ | refine W.condT rfl ?_ | refine W.condF rfl ?_)
    (first | refine (?_ : W _ _ _ _ _) | refine (?_ : WL _ _ _ _ _ _) | skip)
    try dsimp only [St.put, Nat.reduceAdd]
    exact W.ret (fin2 rfl rfl rfl rfl rfl rfl rfl)
  · rw [(colX_no hs (fun h => h h0) hi hk).1, (colX_no hs (fun h => h h0) hi hk).2]
    have hpos : 0 < (lackE s p i p.evs[i]).length := List.length_pos_iff.2 hk
    repeat (first | refine W.gob rfl ?_ | refine WL.nil ?_ | refine WL.bt rfl rfl rfl (by omega) ?_ | refine WL.bf rfl rfl rfl (by omega) ?_ | refine WL.nt rfl rfl rfl (by omega) ?_ | refine WL.nf rfl rfl rfl (by omega) ?_ | refine WL.e1 rfl ?_ | refine WL.gyes rfl rfl rfl rfl ?_ | refine WL.opno rfl rfl rfl rfl rfl rfl rfl ?_ | refine WL.ar rfl rfl (by unfold I64; omega) ?_ | refine WL.len rfl rfl (by first | exact List.length_map _ | exact List.length_replicate | rfl) ?_ | refine WL.idx rfl rfl (by omega) (by first | exact map_at (by omega) | exact map_atZ (by omega) (by omega)) ?_ | refine WL.ixs rfl rfl (by first | omega | (simp; done) | (simp; omega)) ?_ | refine WL.app rfl rfl rfl (by first | omega | (simp; done) | (simp; omega)) ?_ | refine WL.cat rfl rfl (by first | omega | (simp; done) | (simp; omega)) ?_ | refine W.condT rfl ?_ | refine W.condF rfl ?_)
    (first | refine (?_ : W _ _ _ _ _) | refine (?_ : WL _ _ _ _ _ _) | skip)
    try dsimp only [St.put, Nat.reduceAdd]
    exact W.ret (fin2 rfl rfl rfl rfl rfl rfl rfl)
/-! The law. -/
def longB (p : Pce) : Bool := bigB p || decide (60 < p.evs.length)
theorem long_FS (p : Pce) : Ctr Tryz.prog 14 [ePce p] (.sc (.bool (longB p))) := by
  refine Ctr.intro Tryz.func14 rfl Tryz.ntmps14 (Nat.le_of_ble_eq_true rfl) (bd_all rfl) fun w0 F0 => ?_; dsimp only [St.init, number, Nat.reduceAdd]
  repeat (first | refine W.go rfl ?_ | refine WL.nil ?_ | refine WL.ev rfl ?_ | refine WL.gyes rfl rfl rfl rfl ?_ | refine WL.opno rfl rfl rfl rfl rfl rfl rfl ?_ | refine WL.ar rfl rfl (by unfold I64; omega) ?_ | refine WL.len rfl rfl (by first | exact List.length_map _ | exact List.length_replicate | rfl) ?_ | refine WL.idx rfl rfl (by omega) (by first | exact map_at (by omega) | exact map_atZ (by omega) (by omega)) ?_ | refine WL.ixs rfl rfl (by first | omega | (simp; done) | (simp; omega)) ?_ | refine WL.app rfl rfl rfl (by first | omega | (simp; done) | (simp; omega)) ?_ | refine WL.cat rfl rfl (by first | omega | (simp; done) | (simp; omega)) ?_ | refine W.condT rfl ?_ | refine W.condF rfl ?_)
  (first | refine (?_ : W _ _ _ _ _) | refine (?_ : WL _ _ _ _ _ _) | skip)
  try dsimp only [St.put, Nat.reduceAdd]
  refine WL.vl rfl (WV.call rfl (callF Tryz.func5 rfl rfl) rfl rfl (big_FS p)) ?_
  repeat (first | refine W.go rfl ?_ | refine WL.nil ?_ | refine WL.ev rfl ?_ | refine WL.gyes rfl rfl rfl rfl ?_ | refine WL.opno rfl rfl rfl rfl rfl rfl rfl ?_ | refine WL.ar rfl rfl (by unfold I64; omega) ?_ | refine WL.len rfl rfl (by first | exact List.length_map _ | exact List.length_replicate | rfl) ?_ | refine WL.idx rfl rfl (by omega) (by first | exact map_at (by omega) | exact map_atZ (by omega) (by omega)) ?_ | refine WL.ixs rfl rfl (by first | omega | (simp; done) | (simp; omega)) ?_ | refine WL.app rfl rfl rfl (by first | omega | (simp; done) | (simp; omega)) ?_ | refine WL.cat rfl rfl (by first | omega | (simp; done) | (simp; omega)) ?_ | refine W.condT rfl ?_ | refine W.condF rfl ?_)
  (first | refine (?_ : W _ _ _ _ _) | refine (?_ : WL _ _ _ _ _ _) | skip)
  try dsimp only [St.put, Nat.reduceAdd]
  refine WL.partG rfl rfl rfl rfl (fun hp => ?_) (fun hp => ?_)
  · repeat (first | refine W.go rfl ?_ | refine WL.nil ?_ | refine WL.ev rfl ?_ | refine WL.gyes rfl rfl rfl rfl ?_ | refine WL.opno rfl rfl rfl rfl rfl rfl rfl ?_ | refine WL.ar rfl rfl (by unfold I64; omega) ?_ | refine WL.len rfl rfl (by first | exact List.length_map _ | exact List.length_replicate | rfl) ?_ | refine WL.idx rfl rfl (by omega) (by first | exact map_at (by omega) | exact map_atZ (by omega) (by omega)) ?_ | refine WL.ixs rfl rfl (by first | omega | (simp; done) | (simp; omega)) ?_ | refine WL.app rfl rfl rfl (by first | omega | (simp; done) | (simp; omega)) ?_ | refine WL.cat rfl rfl (by first | omega | (simp; done) | (simp; omega)) ?_ | refine W.condT rfl ?_ | refine W.condF rfl ?_)
    (first | refine (?_ : W _ _ _ _ _) | refine (?_ : WL _ _ _ _ _ _) | skip)
    try dsimp only [St.put, Nat.reduceAdd]
    exact W.ret (fin1 rfl rfl (sc_bool (by unfold longB; rw [hp]; rfl)) rfl)
  · repeat (first | refine W.go rfl ?_ | refine WL.nil ?_ | refine WL.ev rfl ?_ | refine WL.gyes rfl rfl rfl rfl ?_ | refine WL.opno rfl rfl rfl rfl rfl rfl rfl ?_ | refine WL.ar rfl rfl (by unfold I64; omega) ?_ | refine WL.len rfl rfl (by first | exact List.length_map _ | exact List.length_replicate | rfl) ?_ | refine WL.idx rfl rfl (by omega) (by first | exact map_at (by omega) | exact map_atZ (by omega) (by omega)) ?_ | refine WL.ixs rfl rfl (by first | omega | (simp; done) | (simp; omega)) ?_ | refine WL.app rfl rfl rfl (by first | omega | (simp; done) | (simp; omega)) ?_ | refine WL.cat rfl rfl (by first | omega | (simp; done) | (simp; omega)) ?_ | refine W.condT rfl ?_ | refine W.condF rfl ?_)
    (first | refine (?_ : W _ _ _ _ _) | refine (?_ : WL _ _ _ _ _ _) | skip)
    try dsimp only [St.put, Nat.reduceAdd]
    refine W.ret (fin1 rfl rfl (sc_bool ?_) rfl)
    unfold longB
    rw [hp, Bool.false_or]
    show decide _ = decide _
    rw [decide_eq_decide]; omega
theorem columns_FS (s : Int) (p : Pce) : Ctr Tryz.prog 4 [.sc (.int .u8 s), ePce p] (.sc (.bool true)) := by
  refine Ctr.intro Tryz.func4 rfl Tryz.ntmps4 (Nat.le_of_ble_eq_true rfl) (bd_all rfl) fun w0 F0 => ?_; dsimp only [St.init, number, Nat.reduceAdd]
  repeat (first | refine W.go rfl ?_ | refine WL.nil ?_ | refine WL.ev rfl ?_ | refine WL.gyes rfl rfl rfl rfl ?_ | refine WL.opno rfl rfl rfl rfl rfl rfl rfl ?_ | refine WL.ar rfl rfl (by unfold I64; omega) ?_ | refine WL.len rfl rfl (by first | exact List.length_map _ | exact List.length_replicate | rfl) ?_ | refine WL.idx rfl rfl (by omega) (by first | exact map_at (by omega) | exact map_atZ (by omega) (by omega)) ?_ | refine WL.ixs rfl rfl (by first | omega | (simp; done) | (simp; omega)) ?_ | refine WL.app rfl rfl rfl (by first | omega | (simp; done) | (simp; omega)) ?_ | refine WL.cat rfl rfl (by first | omega | (simp; done) | (simp; omega)) ?_ | refine W.condT rfl ?_ | refine W.condF rfl ?_)
  (first | refine (?_ : W _ _ _ _ _) | refine (?_ : WL _ _ _ _ _ _) | skip)
  try dsimp only [St.put, Nat.reduceAdd]
  refine WL.vl rfl (WV.call rfl (callF Tryz.func14 rfl rfl) rfl rfl (long_FS p)) ?_
  repeat (first | refine W.go rfl ?_ | refine WL.nil ?_ | refine WL.ev rfl ?_ | refine WL.gyes rfl rfl rfl rfl ?_ | refine WL.opno rfl rfl rfl rfl rfl rfl rfl ?_ | refine WL.ar rfl rfl (by unfold I64; omega) ?_ | refine WL.len rfl rfl (by first | exact List.length_map _ | exact List.length_replicate | rfl) ?_ | refine WL.idx rfl rfl (by omega) (by first | exact map_at (by omega) | exact map_atZ (by omega) (by omega)) ?_ | refine WL.ixs rfl rfl (by first | omega | (simp; done) | (simp; omega)) ?_ | refine WL.app rfl rfl rfl (by first | omega | (simp; done) | (simp; omega)) ?_ | refine WL.cat rfl rfl (by first | omega | (simp; done) | (simp; omega)) ?_ | refine W.condT rfl ?_ | refine W.condF rfl ?_)
  (first | refine (?_ : W _ _ _ _ _) | refine (?_ : WL _ _ _ _ _ _) | skip)
  try dsimp only [St.put, Nat.reduceAdd]
  (refine W.cond rfl (fun hif => ?_) (fun hif => ?_) <;> (try simp only [decide_eq_true_eq, decide_eq_false_iff_not, Int.not_lt, Int.not_le, Bool.not_eq_true', Bool.not_eq_false'] at hif))
  · repeat (first | refine W.go rfl ?_ | refine WL.nil ?_ | refine WL.ev rfl ?_ | refine WL.gyes rfl rfl rfl rfl ?_ | refine WL.opno rfl rfl rfl rfl rfl rfl rfl ?_ | refine WL.ar rfl rfl (by unfold I64; omega) ?_ | refine WL.len rfl rfl (by first | exact List.length_map _ | exact List.length_replicate | rfl) ?_ | refine WL.idx rfl rfl (by omega) (by first | exact map_at (by omega) | exact map_atZ (by omega) (by omega)) ?_ | refine WL.ixs rfl rfl (by first | omega | (simp; done) | (simp; omega)) ?_ | refine WL.app rfl rfl rfl (by first | omega | (simp; done) | (simp; omega)) ?_ | refine WL.cat rfl rfl (by first | omega | (simp; done) | (simp; omega)) ?_ | refine W.condT rfl ?_ | refine W.condF rfl ?_)
    (first | refine (?_ : W _ _ _ _ _) | refine (?_ : WL _ _ _ _ _ _) | skip)
    try dsimp only [St.put, Nat.reduceAdd]
    refine WL.vl rfl (WV.call rfl (callF Tryz.func6 rfl rfl) rfl rfl works_FS) ?_
    repeat (first | refine W.go rfl ?_ | refine WL.nil ?_ | refine WL.ev rfl ?_ | refine WL.gyes rfl rfl rfl rfl ?_ | refine WL.opno rfl rfl rfl rfl rfl rfl rfl ?_ | refine WL.ar rfl rfl (by unfold I64; omega) ?_ | refine WL.len rfl rfl (by first | exact List.length_map _ | exact List.length_replicate | rfl) ?_ | refine WL.idx rfl rfl (by omega) (by first | exact map_at (by omega) | exact map_atZ (by omega) (by omega)) ?_ | refine WL.ixs rfl rfl (by first | omega | (simp; done) | (simp; omega)) ?_ | refine WL.app rfl rfl rfl (by first | omega | (simp; done) | (simp; omega)) ?_ | refine WL.cat rfl rfl (by first | omega | (simp; done) | (simp; omega)) ?_ | refine W.condT rfl ?_ | refine W.condF rfl ?_)
    (first | refine (?_ : W _ _ _ _ _) | refine (?_ : WL _ _ _ _ _ _) | skip)
    try dsimp only [St.put, Nat.reduceAdd]
    exact W.ret (fin1 rfl rfl rfl rfl)
  have hO := pcOk_of2 (p := p) (by unfold longB at hif; simp only [Bool.or_eq_false_iff] at hif; exact hif.1)
  have hn3 := hO.n3
  repeat (first | refine W.go rfl ?_ | refine WL.nil ?_ | refine WL.ev rfl ?_ | refine WL.gyes rfl rfl rfl rfl ?_ | refine WL.opno rfl rfl rfl rfl rfl rfl rfl ?_ | refine WL.ar rfl rfl (by unfold I64; omega) ?_ | refine WL.len rfl rfl (by first | exact List.length_map _ | exact List.length_replicate | rfl) ?_ | refine WL.idx rfl rfl (by omega) (by first | exact map_at (by omega) | exact map_atZ (by omega) (by omega)) ?_ | refine WL.ixs rfl rfl (by first | omega | (simp; done) | (simp; omega)) ?_ | refine WL.app rfl rfl rfl (by first | omega | (simp; done) | (simp; omega)) ?_ | refine WL.cat rfl rfl (by first | omega | (simp; done) | (simp; omega)) ?_ | refine W.condT rfl ?_ | refine W.condF rfl ?_)
  (first | refine (?_ : W _ _ _ _ _) | refine (?_ : WL _ _ _ _ _ _) | skip)
  try dsimp only [St.put, Nat.reduceAdd]
  refine W.loop (fun k : Nat => k ≤ p.evs.length + 2) (fun k => ⟨[(0, .sc (.int .u8 s)), (3, .pt 0 0 0), (5, .sc (.int .i64 ((k : Int) - 1)))], [(0, .box 29 (ePce p).cells)], 1⟩) (fun k => p.evs.length + 2 - k) 0 (by omega) (Tr.ren id (by repeat (first | exact trivial | refine ⟨⟨?_, ?_⟩, ?_⟩ | rfl)) (by repeat (first | exact trivial | refine ⟨⟨?_, ?_, ?_⟩, ?_⟩ | rfl)) rfl) fun k hk => ?_
  repeat (first | refine W.go rfl ?_ | refine WL.nil ?_ | refine WL.ev rfl ?_ | refine WL.gyes rfl rfl rfl rfl ?_ | refine WL.opno rfl rfl rfl rfl rfl rfl rfl ?_ | refine WL.ar rfl rfl (by unfold I64; omega) ?_ | refine WL.len rfl rfl (by first | exact List.length_map _ | exact List.length_replicate | rfl) ?_ | refine WL.idx rfl rfl (by omega) (by first | exact map_at (by omega) | exact map_atZ (by omega) (by omega)) ?_ | refine WL.ixs rfl rfl (by first | omega | (simp; done) | (simp; omega)) ?_ | refine WL.app rfl rfl rfl (by first | omega | (simp; done) | (simp; omega)) ?_ | refine WL.cat rfl rfl (by first | omega | (simp; done) | (simp; omega)) ?_ | refine W.condT rfl ?_ | refine W.condF rfl ?_)
  (first | refine (?_ : W _ _ _ _ _) | refine (?_ : WL _ _ _ _ _ _) | skip)
  try dsimp only [St.put, Nat.reduceAdd]
  (refine W.cond rfl (fun hif => ?_) (fun hif => ?_) <;> (try simp only [decide_eq_true_eq, decide_eq_false_iff_not, Int.not_lt, Int.not_le, Bool.not_eq_true', Bool.not_eq_false'] at hif))
  · have hz : (k : Int) - 1 + 1 = ((k + 1 : Nat) : Int) - 1 := by omega
    repeat (first | refine W.go rfl ?_ | refine WL.nil ?_ | refine WL.ev rfl ?_ | refine WL.gyes rfl rfl rfl rfl ?_ | refine WL.opno rfl rfl rfl rfl rfl rfl rfl ?_ | refine WL.ar rfl rfl (by unfold I64; omega) ?_ | refine WL.len rfl rfl (by first | exact List.length_map _ | exact List.length_replicate | rfl) ?_ | refine WL.idx rfl rfl (by omega) (by first | exact map_at (by omega) | exact map_atZ (by omega) (by omega)) ?_ | refine WL.ixs rfl rfl (by first | omega | (simp; done) | (simp; omega)) ?_ | refine WL.app rfl rfl rfl (by first | omega | (simp; done) | (simp; omega)) ?_ | refine WL.cat rfl rfl (by first | omega | (simp; done) | (simp; omega)) ?_ | refine W.condT rfl ?_ | refine W.condF rfl ?_)
    (first | refine (?_ : W _ _ _ _ _) | refine (?_ : WL _ _ _ _ _ _) | skip)
    try dsimp only [St.put, Nat.reduceAdd]
    refine WL.vl rfl (WV.call rfl (callF Tryz.func7 rfl rfl) rfl rfl (pcCopy_FS p hO)) ?_
    repeat (first | refine W.go rfl ?_ | refine WL.nil ?_ | refine WL.ev rfl ?_ | refine WL.gyes rfl rfl rfl rfl ?_ | refine WL.opno rfl rfl rfl rfl rfl rfl rfl ?_ | refine WL.ar rfl rfl (by unfold I64; omega) ?_ | refine WL.len rfl rfl (by first | exact List.length_map _ | exact List.length_replicate | rfl) ?_ | refine WL.idx rfl rfl (by omega) (by first | exact map_at (by omega) | exact map_atZ (by omega) (by omega)) ?_ | refine WL.ixs rfl rfl (by first | omega | (simp; done) | (simp; omega)) ?_ | refine WL.app rfl rfl rfl (by first | omega | (simp; done) | (simp; omega)) ?_ | refine WL.cat rfl rfl (by first | omega | (simp; done) | (simp; omega)) ?_ | refine W.condT rfl ?_ | refine W.condF rfl ?_)
    (first | refine (?_ : W _ _ _ _ _) | refine (?_ : WL _ _ _ _ _ _) | skip)
    try dsimp only [St.put, Nat.reduceAdd]
    refine WL.vl rfl (WV.call rfl (callF Tryz.func15 rfl rfl) rfl rfl (pColumn_FS s p hO _)) ?_
    repeat (first | refine W.go rfl ?_ | refine WL.nil ?_ | refine WL.ev rfl ?_ | refine WL.gyes rfl rfl rfl rfl ?_ | refine WL.opno rfl rfl rfl rfl rfl rfl rfl ?_ | refine WL.ar rfl rfl (by unfold I64; omega) ?_ | refine WL.len rfl rfl (by first | exact List.length_map _ | exact List.length_replicate | rfl) ?_ | refine WL.idx rfl rfl (by omega) (by first | exact map_at (by omega) | exact map_atZ (by omega) (by omega)) ?_ | refine WL.ixs rfl rfl (by first | omega | (simp; done) | (simp; omega)) ?_ | refine WL.app rfl rfl rfl (by first | omega | (simp; done) | (simp; omega)) ?_ | refine WL.cat rfl rfl (by first | omega | (simp; done) | (simp; omega)) ?_ | refine W.condT rfl ?_ | refine W.condF rfl ?_)
    (first | refine (?_ : W _ _ _ _ _) | refine (?_ : WL _ _ _ _ _ _) | skip)
    try dsimp only [St.put, Nat.reduceAdd]
    refine WL.vl rfl (WV.call rfl (callF Tryz.func16 rfl rfl) rfl rfl (rColumn_FS s p hO _)) ?_
    repeat (first | refine W.go rfl ?_ | refine WL.nil ?_ | refine WL.ev rfl ?_ | refine WL.gyes rfl rfl rfl rfl ?_ | refine WL.opno rfl rfl rfl rfl rfl rfl rfl ?_ | refine WL.ar rfl rfl (by unfold I64; omega) ?_ | refine WL.len rfl rfl (by first | exact List.length_map _ | exact List.length_replicate | rfl) ?_ | refine WL.idx rfl rfl (by omega) (by first | exact map_at (by omega) | exact map_atZ (by omega) (by omega)) ?_ | refine WL.ixs rfl rfl (by first | omega | (simp; done) | (simp; omega)) ?_ | refine WL.app rfl rfl rfl (by first | omega | (simp; done) | (simp; omega)) ?_ | refine WL.cat rfl rfl (by first | omega | (simp; done) | (simp; omega)) ?_ | refine W.condT rfl ?_ | refine W.condF rfl ?_)
    (first | refine (?_ : W _ _ _ _ _) | refine (?_ : WL _ _ _ _ _ _) | skip)
    try dsimp only [St.put, Nat.reduceAdd]
    refine WL.partG rfl rfl rfl rfl (fun hp => absurd hp (by simp)) (fun hp => ?_)
    repeat (first | refine W.go rfl ?_ | refine WL.nil ?_ | refine WL.ev rfl ?_ | refine WL.gyes rfl rfl rfl rfl ?_ | refine WL.opno rfl rfl rfl rfl rfl rfl rfl ?_ | refine WL.ar rfl rfl (by unfold I64; omega) ?_ | refine WL.len rfl rfl (by first | exact List.length_map _ | exact List.length_replicate | rfl) ?_ | refine WL.idx rfl rfl (by omega) (by first | exact map_at (by omega) | exact map_atZ (by omega) (by omega)) ?_ | refine WL.ixs rfl rfl (by first | omega | (simp; done) | (simp; omega)) ?_ | refine WL.app rfl rfl rfl (by first | omega | (simp; done) | (simp; omega)) ?_ | refine WL.cat rfl rfl (by first | omega | (simp; done) | (simp; omega)) ?_ | refine W.condT rfl ?_ | refine W.condF rfl ?_)
    (first | refine (?_ : W _ _ _ _ _) | refine (?_ : WL _ _ _ _ _ _) | skip)
    try dsimp only [St.put, Nat.reduceAdd]
    (refine W.cond rfl (fun hif => ?_) (fun hif => ?_) <;> (try simp only [decide_eq_true_eq, decide_eq_false_iff_not, Int.not_lt, Int.not_le, Bool.not_eq_true', Bool.not_eq_false'] at hif))
    · exact absurd hif (by simp)
    repeat (first | refine W.go rfl ?_ | refine WL.nil ?_ | refine WL.ev rfl ?_ | refine WL.gyes rfl rfl rfl rfl ?_ | refine WL.opno rfl rfl rfl rfl rfl rfl rfl ?_ | refine WL.ar rfl rfl (by unfold I64; omega) ?_ | refine WL.len rfl rfl (by first | exact List.length_map _ | exact List.length_replicate | rfl) ?_ | refine WL.idx rfl rfl (by omega) (by first | exact map_at (by omega) | exact map_atZ (by omega) (by omega)) ?_ | refine WL.ixs rfl rfl (by first | omega | (simp; done) | (simp; omega)) ?_ | refine WL.app rfl rfl rfl (by first | omega | (simp; done) | (simp; omega)) ?_ | refine WL.cat rfl rfl (by first | omega | (simp; done) | (simp; omega)) ?_ | refine W.condT rfl ?_ | refine W.condF rfl ?_)
    (first | refine (?_ : W _ _ _ _ _) | refine (?_ : WL _ _ _ _ _ _) | skip)
    try dsimp only [St.put, Nat.reduceAdd]
    refine ⟨k + 1, by omega, by omega, ?_⟩
    rw [hz]
    exact (Tr.ren id (by repeat (first | exact trivial | refine ⟨⟨?_, ?_⟩, ?_⟩ | rfl)) (by repeat (first | exact trivial | refine ⟨⟨?_, ?_, ?_⟩, ?_⟩ | rfl)) rfl)
  repeat (first | refine W.go rfl ?_ | refine WL.nil ?_ | refine WL.ev rfl ?_ | refine WL.gyes rfl rfl rfl rfl ?_ | refine WL.opno rfl rfl rfl rfl rfl rfl rfl ?_ | refine WL.ar rfl rfl (by unfold I64; omega) ?_ | refine WL.len rfl rfl (by first | exact List.length_map _ | exact List.length_replicate | rfl) ?_ | refine WL.idx rfl rfl (by omega) (by first | exact map_at (by omega) | exact map_atZ (by omega) (by omega)) ?_ | refine WL.ixs rfl rfl (by first | omega | (simp; done) | (simp; omega)) ?_ | refine WL.app rfl rfl rfl (by first | omega | (simp; done) | (simp; omega)) ?_ | refine WL.cat rfl rfl (by first | omega | (simp; done) | (simp; omega)) ?_ | refine W.condT rfl ?_ | refine W.condF rfl ?_)
  (first | refine (?_ : W _ _ _ _ _) | refine (?_ : WL _ _ _ _ _ _) | skip)
  try dsimp only [St.put, Nat.reduceAdd]
  refine WL.vl rfl (WV.call rfl (callF Tryz.func6 rfl rfl) rfl rfl works_FS) ?_
  repeat (first | refine W.go rfl ?_ | refine WL.nil ?_ | refine WL.ev rfl ?_ | refine WL.gyes rfl rfl rfl rfl ?_ | refine WL.opno rfl rfl rfl rfl rfl rfl rfl ?_ | refine WL.ar rfl rfl (by unfold I64; omega) ?_ | refine WL.len rfl rfl (by first | exact List.length_map _ | exact List.length_replicate | rfl) ?_ | refine WL.idx rfl rfl (by omega) (by first | exact map_at (by omega) | exact map_atZ (by omega) (by omega)) ?_ | refine WL.ixs rfl rfl (by first | omega | (simp; done) | (simp; omega)) ?_ | refine WL.app rfl rfl rfl (by first | omega | (simp; done) | (simp; omega)) ?_ | refine WL.cat rfl rfl (by first | omega | (simp; done) | (simp; omega)) ?_ | refine W.condT rfl ?_ | refine W.condF rfl ?_)
  (first | refine (?_ : W _ _ _ _ _) | refine (?_ : WL _ _ _ _ _ _) | skip)
  try dsimp only [St.put, Nat.reduceAdd]
  exact W.ret (fin1 rfl rfl rfl rfl)
theorem columns_walk (s : Int) (p : Pce) (v : Value) (w : World) (h : RP (fun q => w.cell? q) (ePce p) v) : Calls Tryz.prog 4 #[.int .u8 s, v] w (Ret (.bool true) w) := by
  refine (columns_FS s p w (fun q => w.cell? q) [.int .u8 s, v] (fun _ _ h => h) ⟨rfl, fun i av u a b => ?_⟩).mono fun e w' ⟨u, F', he, hb, _, _, _, hr⟩ => ⟨?_, hb⟩
  · match i with
    | 0 => cases a; cases b; exact .sc _
    | 1 => cases a; cases b; exact h
    | i + 2 => simp at a
  · rw [he, hr.sc_eq]
end Go.Proofs.YteldgllgagjciaaGreat

namespace Go.Proofs.YteldgllgagjciaaGreat.notationColumns
open Go.ChangeShapes Go.WideShapes Go.ChangeAt Go.RowKit Go.Joins
set_option maxRecDepth 100000
set_option linter.unusedVariables false
set_option linter.unusedSimpArgs false
theorem own : ownKnob Tryz.prog.godebug = none := by kernel_rfl
theorem lifted (os : Os) (started : os.Started) (H : Type) (enc : TypeId × Value → H) :
    ReturnsInHanded {} Tryz.checked os 4 .any (Rows.notationColumnsSpec.pre6 enc Tryz.prog Tryz.f4 Rows.notationColumnsRow.domain false) (Rows.notationColumnsSpec.post enc Tryz.prog Tryz.f4 false true false false) := by
  refine returnsInHanded_of_change (C := Tryz.checked) own started (by kernel_rfl) Tryz.func4
    (ChangeSpec.witness6 (enc := enc) (C := Tryz.checked) false ⟨#[], #[.int .u8 0, .agg #[.slice none 0 0, .slice none 0 0, .slice none 0 0]], []⟩ 8 (by kernel_rfl) (by kernel_rfl) (by kernel_rfl) (by kernel_rfl)) ?_
  intro W base args ds gs before hval0 hW hcnd _
  have hval : ∀ (j : Nat) t v, Tryz.f4.params[j]? = some t → args[j]? = some v → Value.okWide Tryz.prog W .any base t v := hval0
  have hW' := hW
  obtain ⟨p, q, hA0, hV, rfl, hfz, hnd⟩ := hW
  have hA : DataW.TrodAll enc Tryz.prog W 0 (fun _ => true) true Tryz.f4.params.toList args.toList ds p := hA0
  have hAk := hA
  rw [Tryz.params4] at hA hval
  obtain ⟨v0, vs0, d0, ds0, p0, q0, hargs, rfl, rfl, h0, r0⟩ := trodAll_cons hA
  obtain ⟨v1, vs1, d1, ds1, p1, q1, rfl, rfl, rfl, h1, r1⟩ := trodAll_cons r0
  obtain ⟨rfl, rfl, rfl⟩ := trodAll_nil r1
  obtain rfl : args = #[v0, v1] := by cases args; simp_all
  obtain ⟨rfl, rfl⟩ := trodVars_none hV
  obtain ⟨a0, rfl, hd0, hp0, w0⟩ := open_int Tryz.underlying22 (hval 0 22 v0 rfl rfl) h0
  obtain ⟨pc1, hR1⟩ := open_piece_rp (hval 1 29 v1 rfl rfl) h1
  clear hA0 hval0
  simp only [List.append_nil] at hW' hAk
  refine (columns_walk a0 pc1 v1 W hR1).mono fun e W' ⟨he, hg⟩ => ?_
  subst he
  exact ⟨_, rfl, post_of_below (pv := []) hW' (fun _ _ _ => (trodAll_cons_mk (shut_bool Tryz.underlying4 _) trodAll_mk0)) (fun sp hsp => args_keep typesKids slicesFull (by rw [Tryz.params4]; decide) hAk hg (fun x hx => hW'.lt x (by simpa using hx)) (fun x hx => hsp x (by simpa using hx))) (fun _ _ => rfl) (by simp)
    hg (ok_one (by kernel_rfl) rfl (okWide_bool_mk Tryz.underlying4 _))⟩

theorem over : Rows.notationColumnsRow.holds Tryz.pinned (OpenSpec.ofChange Rows.notationColumnsSpec) :=
  OpenClaim.holds_of_wide 4 Tryz.f4 rfl rfl rfl rfl rfl rfl rfl ⟨rfl, rfl, rfl, rfl, rfl⟩ rfl rfl rfl rfl rfl (by kernel_rfl) Tryz.func4 (by kernel_rfl)
    (of_decide_eq_true (by kernel_rfl)) (by unfold Func.isWrapper; first | (rw [if_pos (by decide +kernel)]; kernel_rfl) | (rw [if_neg (by decide +kernel)]; exact ⟨rfl, rfl⟩))
    (fun os started H enc _ => lifted os started H enc)

theorem proved : Rows.NotationColumnsSaid :=
  over
#print axioms proved
end Go.Proofs.YteldgllgagjciaaGreat.notationColumns
