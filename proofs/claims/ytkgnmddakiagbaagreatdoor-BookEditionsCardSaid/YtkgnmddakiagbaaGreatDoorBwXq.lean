/- How big a piece is; the look at the examples. -/
import Derived.Test.YtkgnmddakiagbaaGreatDoorFAXq
import Derived.Test.YtkgnmddakiagbaaGreatDoorMk1Xq
import Derived.Test.YtkgnmddakiagbaaGreatDoorPl2Xq
import Derived.Test.YtkgnmddakiagbaaGreatDoorPl4Xq
set_option linter.unusedVariables false
set_option linter.unusedSimpArgs false
namespace Go.Proofs.YtkgnmddakiagbaaGreatDoor
open Go.RowKit
theorem pceE_ins {p:Pce} (h:insE p.cs p.st≠0):pceE p=insE p.cs p.st:=if_pos h
theorem pceE_many {p:Pce} (h:¬ insE p.cs p.st≠0)(h1:400<p.evs.length):pceE p=2:=by unfold pceE;rw [if_neg h,if_pos h1]
theorem pceE_evs {p:Pce} (h:¬ insE p.cs p.st≠0)(h1:¬ 400<p.evs.length):pceE p=evsE p 0 p.evs:=by unfold pceE;rw [if_neg h,if_neg h1]
end Go.Proofs.YtkgnmddakiagbaaGreatDoor
namespace Go.Proofs.YtkgnmddakiagbaaGreatDoor
open Go.RowKit
set_option maxHeartbeats 1600000
set_option maxRecDepth 100000
attribute [local go_sem]mk_bs bs_size bs_toList bs_append bs_extract
attribute [local simp]run_cut run_cut_to run_cut_from run_add_bs
theorem of_3 (w:World):Calls Tryz.prog 44 #[.int .u8 3] w fun e w'=>e=.returned (.tuple #[(.iface 193 (.agg #[])),.bool true])∧w=w':=by
 go_enter Tryz.func44,Tryz.ntmps44
 go_wp2
 go_ret2
 exact⟨rfl,rfl⟩
end Go.Proofs.YtkgnmddakiagbaaGreatDoor
namespace Go.Proofs.YtkgnmddakiagbaaGreatDoor
open Go.RowKit
set_option maxRecDepth 100000
set_option maxHeartbeats 4000000
theorem pcCopy_FS (p:Pce) (hO:PcOk p):Ctr Tryz.prog 14 [ePce p] (ePce p):=by
 refine Ctr.intro Tryz.func14 rfl Tryz.ntmps14 (Nat.le_of_ble_eq_true rfl) (bd_all rfl) fun w0 F0=>?_
 have hn3:=hO.n3
 repeat refine W.go rfl ?_
 refine (?_:WL _ _ _ _ _ _)
 dsimp only [St.put,Nat.reduceAdd]
 refine WL.vl rfl (WV.call rfl (callF Tryz.func51 rfl rfl) rfl rfl (insCopy_FS p.cs p.st hO.n1 hO.n2)) ?_
 repeat (first|refine W.go rfl ?_|refine WL.ev rfl ?_)
 refine (?_:W _ _ _ _ _)
 dsimp only [St.put,Nat.reduceAdd]
 refine W.tr (Tr.nilBox (k:=2) (j:=2) 78 6 rfl rfl rfl rfl) ?_
 refine W.loop (fun k:Nat=>k≤p.evs.length) (fun k=>⟨[(1,.pt 0 0 0),(2,.pt 1 0 0),(3,.pt 2 0 0),(4,.sc (.int .i64 k))],[(0,.box 29 [.ls 3 (p.cs.map eCrs),.ls 1 (p.st.map eInt),.ls 6 (p.evs.map eEv)]),(1,.box 29 [.sc (.slice none 0 0),.sc (.slice none 0 0),.sc (.slice none 0 0)]),(2,.box 29 [.ls 3 (p.cs.map eCrs),.ls 1 (p.st.map eInt),.sl 3]),(3,.row 78 6 ((p.evs.take k).map eEv))],4⟩) (fun k=>p.evs.length - k) 0 (by omega) (Tr.ren id (by repeat (first|exact trivial|refine ⟨⟨?_,?_⟩,?_⟩|rfl)) (by repeat (first|exact trivial|refine ⟨⟨?_,?_,?_⟩,?_⟩|rfl)) rfl) fun k hk=>?_
 repeat (first|refine W.go rfl ?_|refine WL.ev rfl ?_|refine WL.len rfl rfl (by first|exact List.length_map _|exact List.length_replicate|rfl) ?_)
 refine (?_:W _ _ _ _ _)
 dsimp only [St.put,Nat.reduceAdd]
 (refine W.cond rfl (fun hif=>?_) (fun hif=>?_)<;>(try simp only [decide_eq_true_eq,decide_eq_false_iff_not,Int.not_lt,Int.not_le,Bool.not_eq_true',Bool.not_eq_false'] at hif))
 ·have hk2:k < p.evs.length:=by omega
  have h20:=hO.n4 k hk2
  repeat (first|refine W.go rfl ?_|refine WL.ev rfl ?_|refine WL.idx rfl rfl (by omega) (by first|exact map_at (by omega)|exact map_atZ (by omega) (by omega)) ?_|refine WL.app rfl rfl rfl (by first|omega|(simp;done)|(simp;omega)) ?_)
  refine (?_:WL _ _ _ _ _ _)
  dsimp only [St.put,Nat.reduceAdd]
  refine WL.tr (Tr.freeze 6 rfl) ?_
  repeat (first|refine W.go rfl ?_|refine WL.ev rfl ?_|refine WL.ar rfl rfl (by unfold I64;omega) ?_|refine WL.app rfl rfl rfl (by first|omega|(simp;done)|(simp;omega)) ?_)
  dsimp only [St.put,Nat.reduceAdd]
  refine ⟨k+1,by omega,by omega,Tr.ren (fun q=>bif Nat.beq q 3 then 8 else q) (by repeat (first|exact trivial|refine ⟨⟨?_,?_⟩,?_⟩|rfl)) (by repeat (first|exact trivial|refine ⟨⟨?_,?_,?_⟩,?_⟩|exact congrArg (fun r=>some (AO.row _ _ r)) (take_map_succ hk2)|rfl)) rfl⟩
 ·have he:k=p.evs.length:=by omega
  subst he
  repeat refine W.go rfl ?_
  refine (?_:W _ _ _ _ _)
  dsimp only [St.put,Nat.reduceAdd]
  refine W.tr (Tr.freeze 3 rfl) ?_
  refine W.ret (fin_cell rfl rfl rfl rfl rfl rfl ?_ rfl)
  show AV.ag [_,_,.ls 6 ((p.evs.take p.evs.length).map eEv)]=ePce p
  rw [List.take_length]
  rfl
end Go.Proofs.YtkgnmddakiagbaaGreatDoor
namespace Go.Proofs.YtkgnmddakiagbaaGreatDoor
open Go.RowKit
set_option maxRecDepth 100000
set_option maxHeartbeats 4000000
theorem pcOk_of2 {p:Pce} (h:bigB p=false):PcOk p:=by
 unfold bigB at h
 simp only [Bool.or_eq_false_iff,decide_eq_false_iff_not,List.any_eq_false]at h
 obtain⟨h1,h2,h3,h4⟩:=h
 refine⟨by omega,by omega,by omega,fun k hk=>?_⟩
 have:=h4 _ (List.getElem_mem hk)
 simp at this
 exact this
theorem big_FS (p:Pce):Ctr Tryz.prog 11 [ePce p] (.sc (.bool (bigB p))) :=
 Ctr.of_pc (pre:=[]) (post:=[]) rfl rfl (fun _=>.sc _) fun w M hM=>big_any M p w hM
end Go.Proofs.YtkgnmddakiagbaaGreatDoor
