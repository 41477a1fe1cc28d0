/- Equal things are found equal, over trees: the reference. -/
import Derived.Test.YtgelfflighgajaaGreatDoorG2Tq
set_option maxHeartbeats 4000000
set_option maxRecDepth 100000
set_option linter.unusedVariables false
set_option linter.unusedSimpArgs false
namespace Go.Proofs.YtgelfflighgajaaGreatDoor
open Go.RowKit
theorem z11k {α : Sort _} {a b : α} (h : a = b := by kernel_rfl) : a = b := h
theorem z11m {α : Type} {l : List α} {i : Nat} {x : Option α} (h : l[i]? = x := by first | exact map_at (by omega) | exact map_atZ (by omega) (by omega)) : l[i]? = x := h
theorem z11l {m n : Nat} (h : m = n := by first | exact List.length_map _ | exact List.length_replicate | rfl) : m = n := h
theorem z11t {C : Cx} {σ σ' : St} (ρ : Nat → Nat) (ht : TrT σ ρ σ'.nk σ'.t := by repeat (first | exact trivial | refine ⟨⟨?_, ?_⟩, ?_⟩ | rfl)) (hm : TrM σ ρ σ'.nk σ'.M := by repeat (first | exact trivial | refine ⟨⟨?_, ?_, ?_⟩, ?_⟩ | rfl)) (hi : (injB ρ (σ'.M.map (·.1)) && pinB ρ σ'.nk C.np) = true := by rfl) : Tr C σ σ' := Tr.ren ρ ht hm hi
def eLk (x:Lck):List AV:=[.sc (.int .i64 x.1),.sc (.int .i64 x.2.1),.sc (.int .i64 x.2.2)]
theorem eqn_crs (x y:Int) (b:Bool) (w:World):(Op.equalIn 10000 98 (.agg #[.int .i64 x,.int .i64 y,.bool b]) (.agg #[.int .i64 x,.int .i64 y,.bool b])).run Tryz.prog w=.ok true w:=by
 rw [run_equalIn_agg w 9999 _ _ _ z11k z11k]
 refine Eq.trans (congrArg (fun fs=>Sem.run _ (Op.eqFields 9999 _ _ fs) w) (rfl:(Tryz.prog.fieldsOf 98).toList=[_,_,_])) ?_
 simp [go_sem]
theorem eqn_sign (x:Int) (a b:Bool) (w:World):(Op.equalIn 10000 33 (.agg #[.int .i64 x,.bool a,.bool b]) (.agg #[.int .i64 x,.bool a,.bool b])).run Tryz.prog w=.ok true w:=by
 rw [run_equalIn_agg w 9999 _ _ _ z11k z11k]
 refine Eq.trans (congrArg (fun fs=>Sem.run _ (Op.eqFields 9999 _ _ fs) w) (rfl:(Tryz.prog.fieldsOf 33).toList=[_,_,_])) ?_
 simp [go_sem]
theorem eqn_stp (x y z u v:Int) (w:World):(Op.equalIn 10000 100 (.agg #[.int .i64 x,.int .i64 y,.int .i64 z,.int .i64 u,.int .i64 v]) (.agg #[.int .i64 x,.int .i64 y,.int .i64 z,.int .i64 u,.int .i64 v])).run Tryz.prog w=.ok true w:=by
 rw [run_equalIn_agg w 9999 _ _ _ z11k z11k]
 refine Eq.trans (congrArg (fun fs=>Sem.run _ (Op.eqFields 9999 _ _ fs) w) (rfl:(Tryz.prog.fieldsOf 100).toList=[_,_,_,_,_])) ?_
 simp [go_sem]
theorem sameIns_FS (cs:List (Int×Int×Bool)) (st:List Int) (h1:cs.length≤64) (h2:st.length≤64):Ctr Tryz.prog 29 [.ag (eIns cs st),.ag (eIns cs st)] (.sc (.bool true)):=by
 refine Ctr.intro Tryz.func29 rfl Tryz.ntmps29 (Nat.le_of_ble_eq_true rfl) (bd_all rfl) fun w0 F0=>?_;dsimp only [St.init,number,Nat.reduceAdd]
 repeat (first|refine W.go rfl ?_|refine WL.ev rfl ?_|refine WL.len rfl rfl z11l ?_)
 refine (?_:WL _ _ _ _ _ _)
 refine WL.partG rfl rfl rfl rfl (fun hp=>absurd hp (by simp)) (fun hp=>?_)
 repeat (first|refine WL.ev rfl ?_|refine WL.gyes rfl rfl rfl rfl ?_|refine WL.len rfl rfl z11l ?_)
 refine (?_:W _ _ _ _ _)
 (refine W.cond rfl (fun hif=>?_) (fun hif=>?_)<;>(try simp only [decide_eq_true_eq,decide_eq_false_iff_not,Int.not_lt,Int.not_le,Bool.not_eq_true',Bool.not_eq_false'] at hif))
 ·exact absurd hif (by simp)
 repeat refine W.go rfl ?_
 refine (?_:W _ _ _ _ _)
 refine W.loop (fun k:Nat=>k≤cs.length) (fun k=>⟨[(2,.pt 0 0 0),(3,.pt 1 0 0),(5,.sc (.int .i64 k))],[(0,.box 25 (eIns cs st)),(1,.box 25 (eIns cs st))],2⟩) (fun k=>cs.length - k) 0 (by omega) (z11t id) fun k hk=>?_
 repeat (first|refine W.go rfl ?_|refine WL.ev rfl ?_|refine WL.len rfl rfl z11l ?_)
 refine (?_:W _ _ _ _ _)
 (refine W.cond rfl (fun hif=>?_) (fun hif=>?_)<;>(try simp only [decide_eq_true_eq,decide_eq_false_iff_not,Int.not_lt,Int.not_le,Bool.not_eq_true',Bool.not_eq_false'] at hif))
 ·have hk2:k < cs.length:=by omega
  repeat refine W.go rfl ?_
  refine (?_:W _ _ _ _ _)
  refine W.drawK z11k z11k ?_
  repeat (first|refine DK.st rfl ?_|refine DK.idx rfl rfl (by omega) z11m ?_)
  refine DK.vl rfl (WV.ane (b:=true) rfl rfl rfl rfl rfl z11k (fun w=>eqn_crs _ _ _ w)) ?_
  repeat refine DK.nil ?_
  repeat (first|refine W.go rfl ?_|refine WL.ev rfl ?_|refine WL.ar rfl rfl (by unfold I64;omega) ?_|refine W.condF rfl ?_)
  exact ⟨k+1,by omega,by omega,(z11t id)⟩
 repeat refine W.go rfl ?_
 refine (?_:W _ _ _ _ _)
 refine W.loop (fun k:Nat=>k≤st.length) (fun k=>⟨[(2,.pt 0 0 0),(3,.pt 1 0 0),(6,.sc (.int .i64 k))],[(0,.box 25 (eIns cs st)),(1,.box 25 (eIns cs st))],2⟩) (fun k=>st.length - k) 0 (by omega) (z11t id) fun k hk=>?_
 repeat (first|refine W.go rfl ?_|refine WL.ev rfl ?_|refine WL.len rfl rfl z11l ?_)
 refine (?_:W _ _ _ _ _)
 (refine W.cond rfl (fun hif=>?_) (fun hif=>?_)<;>(try simp only [decide_eq_true_eq,decide_eq_false_iff_not,Int.not_lt,Int.not_le,Bool.not_eq_true',Bool.not_eq_false'] at hif))
 ·have hk2:k < st.length:=by omega
  repeat refine W.go rfl ?_
  refine (?_:W _ _ _ _ _)
  refine W.drawK z11k z11k ?_
  repeat (first|refine DK.ff rfl (by first|(simp;done)|fail) ?_|refine DK.st rfl ?_|refine DK.idx rfl rfl (by omega) z11m ?_|refine DK.nil ?_)
  repeat (first|refine W.go rfl ?_|refine WL.ev rfl ?_|refine WL.ar rfl rfl (by unfold I64;omega) ?_|refine W.condF rfl ?_)
  exact ⟨k+1,by omega,by omega,(z11t id)⟩
 repeat refine W.go rfl ?_
 refine (?_:W _ _ _ _ _)
 exact W.ret (fin1 rfl rfl rfl rfl)
theorem sameEv_FS (e:Ev) (h:e.stops.length≤64):Ctr Tryz.prog 55 [.ag (eEv e),.ag (eEv e)] (.sc (.bool true)):=by
 refine Ctr.intro Tryz.func55 rfl Tryz.ntmps55 (Nat.le_of_ble_eq_true rfl) (bd_all rfl) fun w0 F0=>?_;dsimp only [St.init,number,Nat.reduceAdd]
 repeat refine W.go rfl ?_
 refine (?_:WL _ _ _ _ _ _)
 refine WL.partG rfl rfl rfl rfl (fun hp=>absurd hp (by simp)) (fun hp=>?_)
 repeat (first|refine WL.ev rfl ?_|refine WL.gyes rfl rfl rfl rfl ?_)
 refine (?_:WL _ _ _ _ _ _)
 refine WL.vl rfl (WV.ane (b:=true) rfl rfl rfl rfl rfl z11k (fun w=>eqn_sign _ _ _ w)) ?_
 repeat (first|refine WL.ev rfl ?_|refine WL.gyes rfl rfl rfl rfl ?_)
 refine (?_:WL _ _ _ _ _ _)
 refine WL.partG rfl rfl rfl rfl (fun hp=>absurd hp (by simp)) (fun hp=>?_)
 repeat (first|refine WL.ev rfl ?_|refine WL.gyes rfl rfl rfl rfl ?_|refine WL.len rfl rfl z11l ?_)
 refine (?_:W _ _ _ _ _)
 (refine W.cond rfl (fun hif=>?_) (fun hif=>?_)<;>(try simp only [decide_eq_true_eq,decide_eq_false_iff_not,Int.not_lt,Int.not_le,Bool.not_eq_true',Bool.not_eq_false'] at hif))
 ·exact absurd hif (by simp)
 repeat refine W.go rfl ?_
 refine (?_:W _ _ _ _ _)
 refine W.loop (fun k:Nat=>k≤e.stops.length) (fun k=>⟨[(2,.pt 0 0 0),(3,.pt 1 0 0),(5,.sc (.int .i64 k))],[(0,.box 36 (eEv e)),(1,.box 36 (eEv e))],2⟩) (fun k=>e.stops.length - k) 0 (by omega) (z11t id) fun k hk=>?_
 repeat (first|refine W.go rfl ?_|refine WL.ev rfl ?_|refine WL.len rfl rfl z11l ?_)
 refine (?_:W _ _ _ _ _)
 (refine W.cond rfl (fun hif=>?_) (fun hif=>?_)<;>(try simp only [decide_eq_true_eq,decide_eq_false_iff_not,Int.not_lt,Int.not_le,Bool.not_eq_true',Bool.not_eq_false'] at hif))
 ·have hk2:k < e.stops.length:=by omega
  repeat refine W.go rfl ?_
  refine (?_:W _ _ _ _ _)
  refine W.drawK z11k z11k ?_
  repeat (first|refine DK.st rfl ?_|refine DK.idx rfl rfl (by omega) z11m ?_)
  refine DK.vl rfl (WV.ane (b:=true) rfl rfl rfl rfl rfl z11k (fun w=>eqn_stp _ _ _ _ _ w)) ?_
  repeat refine DK.nil ?_
  repeat (first|refine W.go rfl ?_|refine WL.ev rfl ?_|refine WL.ar rfl rfl (by unfold I64;omega) ?_|refine W.condF rfl ?_)
  exact ⟨k+1,by omega,by omega,(z11t id)⟩
 repeat refine W.go rfl ?_
 refine (?_:W _ _ _ _ _)
 exact W.ret (fin1 rfl rfl rfl rfl)
theorem same_FS (p:Pce) (hO:PcOk p):Ctr Tryz.prog 20 [ePce p,ePce p] (.sc (.bool true)):=by
 refine Ctr.intro Tryz.func20 rfl Tryz.ntmps20 (Nat.le_of_ble_eq_true rfl) (bd_all rfl) fun w0 F0=>?_;dsimp only [St.init,number,Nat.reduceAdd]
 have hn3:=hO.n3
 repeat refine W.go rfl ?_
 refine (?_:WL _ _ _ _ _ _)
 refine WL.opv rfl rfl rfl (WV.call rfl (callF Tryz.func29 rfl rfl) rfl rfl (sameIns_FS p.cs p.st hO.n1 hO.n2)) ?_
 repeat (first|refine WL.ev rfl ?_|refine WL.gyes rfl rfl rfl rfl ?_|refine WL.len rfl rfl z11l ?_)
 refine (?_:W _ _ _ _ _)
 refine (?_:W _ _ _ _ _)
 (refine W.cond rfl (fun hif=>?_) (fun hif=>?_)<;>(try simp only [decide_eq_true_eq,decide_eq_false_iff_not,Int.not_lt,Int.not_le,Bool.not_eq_true',Bool.not_eq_false'] at hif))
 ·exact absurd hif (by simp)
 repeat refine W.go rfl ?_
 refine (?_:W _ _ _ _ _)
 refine W.loop (fun k:Nat=>k≤p.evs.length) (fun k=>⟨[(2,.pt 0 0 0),(3,.pt 1 0 0),(5,.sc (.int .i64 k))],[(0,.box 28 [.ls 3 (p.cs.map eCrs),.ls 1 (p.st.map eInt),.ls 6 (p.evs.map eEv)]),(1,.box 28 [.ls 3 (p.cs.map eCrs),.ls 1 (p.st.map eInt),.ls 6 (p.evs.map eEv)])],2⟩) (fun k=>p.evs.length - k) 0 (by omega) (z11t id) fun k hk=>?_
 repeat (first|refine W.go rfl ?_|refine WL.ev rfl ?_|refine WL.len rfl rfl z11l ?_)
 refine (?_:W _ _ _ _ _)
 (refine W.cond rfl (fun hif=>?_) (fun hif=>?_)<;>(try simp only [decide_eq_true_eq,decide_eq_false_iff_not,Int.not_lt,Int.not_le,Bool.not_eq_true',Bool.not_eq_false'] at hif))
 ·have hk2:k < p.evs.length:=by omega
  have h20:=hO.n4 k hk2
  repeat refine W.go rfl ?_
  refine (?_:W _ _ _ _ _)
  refine W.drawK z11k z11k ?_
  repeat (first|refine DK.st rfl ?_|refine DK.idx rfl rfl (by omega) z11m ?_)
  refine DK.vl rfl (WV.call rfl (callF Tryz.func55 rfl rfl) rfl rfl (sameEv_FS _ (by omega))) ?_
  repeat (first|refine DK.ff rfl (by first|(simp;done)|fail) ?_|refine DK.nil ?_)
  repeat (first|refine W.go rfl ?_|refine WL.ev rfl ?_|refine WL.ar rfl rfl (by unfold I64;omega) ?_|refine W.condF rfl ?_)
  exact ⟨k+1,by omega,by omega,(z11t id)⟩
 repeat refine W.go rfl ?_
 refine (?_:W _ _ _ _ _)
 exact W.ret (fin1 rfl rfl rfl rfl)
end Go.Proofs.YtgelfflighgajaaGreatDoor
