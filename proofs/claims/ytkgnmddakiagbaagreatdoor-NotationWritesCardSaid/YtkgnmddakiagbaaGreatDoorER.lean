/- Copy of a piece, over trees. -/
import Derived.Test.YtkgnmddakiagbaaGreatDoorCpI
import Derived.Test.YtkgnmddakiagbaaGreatDoorRLg
import Derived.Test.YtkgnmddakiagbaaGreatDoorEQ
import Derived.Test.YtkgnmddakiagbaaGreatDoorEZ

/- Copy of a piece: the law's own reference. -/
namespace Go.Proofs.YtkgnmddakiagbaaGreatDoor
open Go.RowKit
set_option maxHeartbeats 4000000
set_option maxRecDepth 100000
set_option linter.unusedVariables false
set_option linter.unusedSimpArgs false
end Go.Proofs.YtkgnmddakiagbaaGreatDoor

namespace Go.Proofs.YtkgnmddakiagbaaGreatDoor
open Go.RowKit
set_option linter.unusedVariables false
set_option linter.unusedSimpArgs false
set_option maxRecDepth 100000
set_option maxHeartbeats 4000000
theorem pcCopy_FS (p : Pce) (hO : PcOk p) : Ctr Tryz.prog 14 [ePce p] (ePce p) := by
  refine Ctr.intro Tryz.func14 rfl Tryz.ntmps14 (Nat.le_of_ble_eq_true rfl) (bd_all rfl) fun w0 F0 => ?_
  have hn3 := hO.n3
  repeat (first | refine W.go rfl ?_ | refine WL.ev rfl ?_ | refine WL.ar rfl rfl (by unfold I64; omega) ?_ | refine WL.len rfl rfl (by first | exact List.length_map _ | exact List.length_replicate | rfl) ?_ | refine WL.idx rfl rfl (by omega) (by first | exact map_at (by omega) | exact map_atZ (by omega) (by omega)) ?_ | refine WL.app rfl rfl rfl (by first | omega | (simp; done) | (simp; omega)) ?_)
  (first | refine (?_ : W _ _ _ _ _) | refine (?_ : WL _ _ _ _ _ _) | skip)
  try dsimp only [St.put, Nat.reduceAdd]
  refine WL.vl rfl (WV.call rfl (callF Tryz.func51 rfl rfl) rfl rfl (insCopy_FS p.cs p.st hO.n1 hO.n2)) ?_
  repeat (first | refine W.go rfl ?_ | refine WL.ev rfl ?_ | refine WL.ar rfl rfl (by unfold I64; omega) ?_ | refine WL.len rfl rfl (by first | exact List.length_map _ | exact List.length_replicate | rfl) ?_ | refine WL.idx rfl rfl (by omega) (by first | exact map_at (by omega) | exact map_atZ (by omega) (by omega)) ?_ | refine WL.app rfl rfl rfl (by first | omega | (simp; done) | (simp; omega)) ?_)
  (first | refine (?_ : W _ _ _ _ _) | refine (?_ : WL _ _ _ _ _ _) | skip)
  try dsimp only [St.put, Nat.reduceAdd]
  refine W.tr (Tr.nilBox (k := 2) (j := 2) 78 6 rfl rfl rfl rfl) ?_
  refine W.loop (fun k : Nat => k ≤ p.evs.length) (fun k => ⟨[(1, .pt 0 0 0), (2, .pt 1 0 0), (3, .pt 2 0 0), (4, .sc (.int .i64 k))], [(0, .box 29 [.ls 3 (p.cs.map eCrs), .ls 1 (p.st.map eInt), .ls 6 (p.evs.map eEv)]), (1, .box 29 [.sc (.slice none 0 0), .sc (.slice none 0 0), .sc (.slice none 0 0)]), (2, .box 29 [.ls 3 (p.cs.map eCrs), .ls 1 (p.st.map eInt), .sl 3]), (3, .row 78 6 ((p.evs.take k).map eEv))], 4⟩) (fun k => p.evs.length - k) 0 (by omega) (Tr.ren id (by repeat (first | exact trivial | refine ⟨⟨?_, ?_⟩, ?_⟩ | rfl)) (by repeat (first | exact trivial | refine ⟨⟨?_, ?_, ?_⟩, ?_⟩ | rfl)) rfl) fun k hk => ?_
  repeat (first | refine W.go rfl ?_ | refine WL.ev rfl ?_ | refine WL.ar rfl rfl (by unfold I64; omega) ?_ | refine WL.len rfl rfl (by first | exact List.length_map _ | exact List.length_replicate | rfl) ?_ | refine WL.idx rfl rfl (by omega) (by first | exact map_at (by omega) | exact map_atZ (by omega) (by omega)) ?_ | refine WL.app rfl rfl rfl (by first | omega | (simp; done) | (simp; omega)) ?_)
  (first | refine (?_ : W _ _ _ _ _) | refine (?_ : WL _ _ _ _ _ _) | skip)
  try dsimp only [St.put, Nat.reduceAdd]
  (refine W.cond rfl (fun hif => ?_) (fun hif => ?_) <;> (try simp only [decide_eq_true_eq, decide_eq_false_iff_not, Int.not_lt, Int.not_le, Bool.not_eq_true', Bool.not_eq_false'] at hif))
  · have hk2 : k < p.evs.length := by omega
    have h20 := hO.n4 k hk2
    repeat (first | refine W.go rfl ?_ | refine WL.ev rfl ?_ | refine WL.ar rfl rfl (by unfold I64; omega) ?_ | refine WL.len rfl rfl (by first | exact List.length_map _ | exact List.length_replicate | rfl) ?_ | refine WL.idx rfl rfl (by omega) (by first | exact map_at (by omega) | exact map_atZ (by omega) (by omega)) ?_ | refine WL.app rfl rfl rfl (by first | omega | (simp; done) | (simp; omega)) ?_)
    (first | refine (?_ : W _ _ _ _ _) | refine (?_ : WL _ _ _ _ _ _) | skip)
    try dsimp only [St.put, Nat.reduceAdd]
    refine WL.tr (Tr.freeze 6 rfl) ?_
    repeat (first | refine W.go rfl ?_ | refine WL.ev rfl ?_ | refine WL.ar rfl rfl (by unfold I64; omega) ?_ | refine WL.len rfl rfl (by first | exact List.length_map _ | exact List.length_replicate | rfl) ?_ | refine WL.idx rfl rfl (by omega) (by first | exact map_at (by omega) | exact map_atZ (by omega) (by omega)) ?_ | refine WL.app rfl rfl rfl (by first | omega | (simp; done) | (simp; omega)) ?_)
    (first | refine (?_ : W _ _ _ _ _) | refine (?_ : WL _ _ _ _ _ _) | skip)
    try dsimp only [St.put, Nat.reduceAdd]
    refine ⟨k + 1, by omega, by omega, Tr.ren (fun q => bif Nat.beq q 3 then 8 else q) (by repeat (first | exact trivial | refine ⟨⟨?_, ?_⟩, ?_⟩ | rfl)) (by repeat (first | exact trivial | refine ⟨⟨?_, ?_, ?_⟩, ?_⟩ | exact congrArg (fun r => some (AO.row _ _ r)) (take_map_succ hk2) | rfl)) rfl⟩
  · have he : k = p.evs.length := by omega
    subst he
    repeat (first | refine W.go rfl ?_ | refine WL.ev rfl ?_ | refine WL.ar rfl rfl (by unfold I64; omega) ?_ | refine WL.len rfl rfl (by first | exact List.length_map _ | exact List.length_replicate | rfl) ?_ | refine WL.idx rfl rfl (by omega) (by first | exact map_at (by omega) | exact map_atZ (by omega) (by omega)) ?_ | refine WL.app rfl rfl rfl (by first | omega | (simp; done) | (simp; omega)) ?_)
    (first | refine (?_ : W _ _ _ _ _) | refine (?_ : WL _ _ _ _ _ _) | skip)
    try dsimp only [St.put, Nat.reduceAdd]
    refine W.tr (Tr.freeze 3 rfl) ?_
    refine W.ret (fin_cell rfl rfl rfl rfl rfl rfl ?_ rfl)
    show AV.ag [_, _, .ls 6 ((p.evs.take p.evs.length).map eEv)] = ePce p
    rw [List.take_length]
    rfl
end Go.Proofs.YtkgnmddakiagbaaGreatDoor
