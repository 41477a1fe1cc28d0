/- sound: how long a stop stays. -/
import Derived.Test.YtkgnmddakiagbaaGreatDoorFNWq
import Derived.Test.YtkgnmddakiagbaaGreatDoorNtQWq
set_option linter.unusedVariables false
set_option linter.unusedSimpArgs false
namespace Go.Proofs.YtkgnmddakiagbaaGreatDoor
open Go.RowKit
set_option maxHeartbeats 4000000
set_option maxRecDepth 100000
def sndL (p:Pce):List AV:=[.ls 3 (p.cs.map eCrs),.ls 1 (p.st.map eInt),.ls 6 (p.evs.map eEv),.ls 1 ((onsL p.evs p.evs.length).map eInt)]
theorem eSnd_ok {p:Pce} (h0:pceE p=0):eSnd p=.ag (sndL p):=by unfold eSnd onsR sndL;rw [if_pos h0]
theorem stay_FS (p:Pce) (hO:PcOk p) (h0:pceE p=0) (i:Nat) (h:Int) (hh:0≤h) (hi:i+h.toNat+1≤p.evs.length) :
  Ctr Tryz.prog 158 [eSnd p,.sc (.int .i64 i),.sc (.int .i64 h)] (.sc (.int .i64 ((stayN p.evs (i+h.toNat+1):Int) - 1))):=by
 have hn:=hO.n3
 rw [eSnd_ok h0]
 unfold sndL
 obtain ⟨q,rfl⟩:∃ q:Nat,h=q:=⟨h.toNat,by omega⟩
 simp only [Int.toNat_natCast] at hi ⊢
 refine Ctr.intro Tryz.func158 rfl Tryz.ntmps158 (Nat.le_of_ble_eq_true rfl) (bd_all rfl) fun w0 F0=>?_;dsimp only [St.init,number,Nat.reduceAdd]
 repeat (first|refine W.go rfl ?_|refine WL.ev rfl ?_|refine WL.ar rfl rfl (by unfold I64;omega) ?_)
 refine (?_:W _ _ _ _ _)
 dsimp only [St.put,Nat.reduceAdd]
 refine W.loop (fun m:Nat=>i+q≤m∧m+1≤p.evs.length∧stayN p.evs (i+q+1)=stayN p.evs (m+1)) (fun m=>⟨[(3,.pt 0 0 0),(7,.sc (.int .i64 m))],[(0,.box 149 [.ls 3 (p.cs.map eCrs),.ls 1 (p.st.map eInt),.ls 6 (p.evs.map eEv),.ls 1 ((onsL p.evs p.evs.length).map eInt)])],1⟩) (fun m=>p.evs.length - m) (i+q) ⟨Nat.le_refl _,by omega,rfl⟩ (Tr.ren id (by repeat (first|exact trivial|refine ⟨⟨?_,?_⟩,?_⟩|rfl)) (by repeat (first|exact trivial|refine ⟨⟨?_,?_,?_⟩,?_⟩|rfl)) rfl) fun m hm=>?_
 obtain ⟨hm1,hm2,hm3⟩:=hm
 have ez:((m:Int)+1).toNat=m+1:=by omega
 by_cases hlt:m+1 < p.evs.length
 ·repeat (first|refine W.gob rfl ?_|refine WL.nil ?_|refine WL.bt rfl rfl rfl (by omega) ?_|refine WL.e1 rfl ?_|refine WL.gyes rfl rfl rfl rfl ?_|refine WL.ar rfl rfl (by unfold I64;omega) ?_|refine WL.len rfl rfl (by first|exact List.length_map _|exact List.length_replicate|rfl) ?_|refine WL.idx rfl rfl (by omega) (by first|exact map_at (by omega)|exact map_atZ (by omega) (by omega)) ?_)
  refine (?_:W _ _ _ _ _)
  dsimp only [St.put,Nat.reduceAdd]
  (refine W.cond rfl (fun hif=>?_) (fun hif=>?_)<;>(try simp only [decide_eq_true_eq,decide_eq_false_iff_not,Int.not_lt,Int.not_le,Bool.not_eq_true',Bool.not_eq_false'] at hif))
  ·repeat (first|refine W.go rfl ?_|refine WL.ev rfl ?_|refine WL.ar rfl rfl (by unfold I64;omega) ?_)
   dsimp only [St.put,Nat.reduceAdd]
   exact ⟨m+1,⟨by omega,by omega,by rw [hm3,stayN_tie hlt hif]⟩,by omega,(Tr.ren id (by repeat (first|exact trivial|refine ⟨⟨?_,?_⟩,?_⟩|rfl)) (by repeat (first|exact trivial|refine ⟨⟨?_,?_,?_⟩,?_⟩|rfl)) rfl)⟩
  ·rw [show ((stayN p.evs (i+q+1):Int) - 1)=m by rw [hm3,stayN_no hlt hif];omega]
   repeat refine W.go rfl ?_
   refine (?_:W _ _ _ _ _)
   dsimp only [St.put,Nat.reduceAdd]
   exact W.ret (fin1 rfl rfl rfl rfl)
 ·repeat (first|refine W.gob rfl ?_|refine WL.nil ?_|refine WL.bf rfl rfl rfl (by omega) ?_|refine WL.e1 rfl ?_|refine WL.opno rfl rfl rfl rfl rfl rfl rfl ?_|refine WL.ar rfl rfl (by unfold I64;omega) ?_|refine WL.len rfl rfl (by first|exact List.length_map _|exact List.length_replicate|rfl) ?_|refine W.condF rfl ?_)
  refine (?_:W _ _ _ _ _)
  dsimp only [St.put,Nat.reduceAdd]
  refine W.ret (fin1 rfl rfl (sc_int ?_) rfl)
  rw [hm3,stayN_end (by omega)];omega
end Go.Proofs.YtkgnmddakiagbaaGreatDoor
