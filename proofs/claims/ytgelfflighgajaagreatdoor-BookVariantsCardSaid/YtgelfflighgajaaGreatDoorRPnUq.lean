/- Plain of the reference: each sign written. -/
import Derived.Test.YtgelfflighgajaaGreatDoorW11Uq
set_option maxHeartbeats 8000000
set_option maxRecDepth 100000
set_option linter.unusedVariables false
set_option linter.unusedSimpArgs false
namespace Go.Proofs.YtgelfflighgajaaGreatDoor
open Go.RowKit
def sgL (evs:List Ev)(k:Nat):List (Int×Bool×Bool):=(List.range k).map fun i=>sgF evs (i+1)
theorem sgL_succ (evs:List Ev)(k:Nat):sgL evs (k+1)=sgL evs k++[sgF evs (k+1)]:=by simp [sgL,List.range_succ]
theorem sgL_length(evs:List Ev)(k:Nat):(sgL evs k).length=k:=by simp [sgL]
theorem rForces_FS (p:Pce) (hO:PcOk p):Ctr Tryz.prog 68 [ePce p] (.ls 3 ((sgL p.evs p.evs.length).map eSig)):=by
 have hn3:=hO.n3
 refine Ctr.intro Tryz.func68 rfl Tryz.ntmps68 (Nat.le_of_ble_eq_true rfl) (bd_all rfl) fun w0 F0=>?_;dsimp only [St.init,number,Nat.reduceAdd]
 repeat refine W.go rfl ?_
 refine (?_:W _ _ _ _ _)
 dsimp only [St.put,Nat.reduceAdd]
 refine W.tr (Tr.nil (t:=3) 33 3 rfl rfl) ?_
 dsimp only [St.put,St.new,St.upd,Nat.reduceAdd]
 refine W.loop (fun k:Nat=>k≤p.evs.length) (fun k=>⟨[(1,.pt 0 0 0),(3,.sl 2),(4,.pt 1 0 0),(5,.sc (.int .i64 k))],[(0,.box 28 (ePce p).cells),(1,.box 33 (eSig (sgF p.evs k))),(2,.row 33 3 ((sgL p.evs k).map eSig))],3⟩) (fun k=>p.evs.length - k) 0 (by omega) (Tr.ren (fun q=>q) (by repeat (first|exact trivial|refine ⟨⟨?_,?_⟩,?_⟩|rfl)) (by repeat (first|exact trivial|refine ⟨⟨?_,?_,?_⟩,?_⟩|rfl|exact congrArg (fun q=>some (AO.row _ _ q)) (by first|rfl|(simp;done)|(simp [eInt];done)|(simp [eLk];done)))) rfl) fun k hk=>?_
 have hsl:=sgL_length p.evs k
 by_cases hlt:k < p.evs.length
 rotate_left
 ·obtain rfl:k=p.evs.length:=by omega
  repeat (first|refine W.gob rfl ?_|refine WL.nil ?_|refine WL.bf rfl rfl rfl (by omega) ?_|refine WL.e1 rfl ?_|refine WL.len rfl rfl (by first|exact List.length_map _|exact List.length_replicate|rfl) ?_|refine W.condF rfl ?_)
  refine (?_:W _ _ _ _ _)
  dsimp only [St.put,Nat.reduceAdd]
  refine W.tr (Tr.freeze 2 rfl) ?_
  exact W.ret (fin1 rfl rfl rfl rfl)
 have e1:sgF p.evs (k+1)=if p.evs[k].val=0 then sgF p.evs k else (p.evs[k].val,p.evs[k].dot,p.evs[k].three):=by
  show (match p.evs[k]? with|some e=>_|none=>_)=_
  rw [List.getElem?_eq_getElem hlt]
 have e2:=sgL_succ p.evs k
 by_cases hv:p.evs[k].val=0
 ·rw [if_pos hv] at e1
  rw [e1] at e2
  repeat (first|refine W.gob rfl ?_|refine WL.nil ?_|refine WL.bt rfl rfl rfl (by omega) ?_|refine WL.nf rfl rfl rfl (by omega) ?_|refine WL.e1 rfl ?_|refine WL.ar rfl rfl (by unfold I64;omega) ?_|refine WL.len rfl rfl (by first|exact List.length_map _|exact List.length_replicate|rfl) ?_|refine WL.idx rfl rfl (by omega) (by first|exact map_at (by omega)|exact map_atZ (by omega) (by omega)) ?_|refine WL.app rfl rfl rfl (by first|omega|(simp;done)|(simp;omega)) ?_|refine W.condT rfl ?_|refine W.condF rfl ?_)
  dsimp only [St.put,Nat.reduceAdd]
  refine ⟨k+1,by omega,by omega,?_⟩
  rw [e2,e1]
  exact (Tr.ren (fun q=>bif Nat.beq q 2 then 4 else q) (by repeat (first|exact trivial|refine ⟨⟨?_,?_⟩,?_⟩|rfl)) (by repeat (first|exact trivial|refine ⟨⟨?_,?_,?_⟩,?_⟩|rfl|exact congrArg (fun q=>some (AO.row _ _ q)) (by rw [List.map_append];rfl))) rfl)
 ·rw [if_neg hv] at e1
  rw [e1] at e2
  repeat (first|refine W.gob rfl ?_|refine WL.nil ?_|refine WL.bt rfl rfl rfl (by omega) ?_|refine WL.nt rfl rfl rfl (by omega) ?_|refine WL.e1 rfl ?_|refine WL.ar rfl rfl (by unfold I64;omega) ?_|refine WL.len rfl rfl (by first|exact List.length_map _|exact List.length_replicate|rfl) ?_|refine WL.idx rfl rfl (by omega) (by first|exact map_at (by omega)|exact map_atZ (by omega) (by omega)) ?_|refine WL.app rfl rfl rfl (by first|omega|(simp;done)|(simp;omega)) ?_|refine W.condT rfl ?_)
  dsimp only [St.put,Nat.reduceAdd]
  refine ⟨k+1,by omega,by omega,?_⟩
  rw [e2,e1]
  exact (Tr.ren (fun q=>bif Nat.beq q 2 then 4 else q) (by repeat (first|exact trivial|refine ⟨⟨?_,?_⟩,?_⟩|rfl)) (by repeat (first|exact trivial|refine ⟨⟨?_,?_,?_⟩,?_⟩|rfl|exact congrArg (fun q=>some (AO.row _ _ q)) (by rw [List.map_append];rfl))) rfl)
end Go.Proofs.YtgelfflighgajaaGreatDoor
namespace Go.Proofs.YtgelfflighgajaaGreatDoor
open Go.RowKit
section
variable {B:World→View→Prop} {gl:Nat} {P:Program} {C:Cx} {σ:St} {o:Oper} {d:Tmp} {ops:Array Oper} {rest:List Oper} {Q:Exit→St→Prop}
theorem WL.ldO {rows:List (List AV)} {i j hi hj:Nat} {r:List AV} {av:AV} (hd:dstB C.N o=some d)(h:ldoV P σ o.op=some (rows,i,j,hi,hj,av))(e1:i=hi)(e2:j=hj)(hr:rows[i]?=some r)(hjr:j<r.length)(k:WL P C ops rest (σ.put d av) Q):WL P C ops (o::rest) σ Q:=WL.vl hd (ldoV_O h e1 e2 hr hjr) k
theorem DK.ldN {rows:List (List AV)} {i j hi hj:Nat} {r:List AV} {av y:AV} (hd:dstD C.N ops σ o=some d)(h:ldoV P (σ.only (o.looksAt ops)) o.op=some (rows,i,j,hi,hj,y))(hne:i≠hi)(hr:rows[i]?=some r)(hjr:r[j]?=some av)(k:DK P C ops rest (σ.put d av) Q):DK P C ops (o::rest) σ Q:=DK.vl hd (ldoV_N h hne hr hjr) k
end
end Go.Proofs.YtgelfflighgajaaGreatDoor
namespace Go.Proofs.YtgelfflighgajaaGreatDoor
open Go.RowKit
theorem eqn_crs (x y:Int) (b:Bool) (w:World):(Op.equalIn 10000 98 (.agg #[.int .i64 x,.int .i64 y,.bool b]) (.agg #[.int .i64 x,.int .i64 y,.bool b])).run Tryz.prog w=.ok true w:=by
 rw [run_equalIn_agg w 9999 _ _ _ (by kernel_rfl) (by kernel_rfl)]
 refine Eq.trans (congrArg (fun fs=>Sem.run _ (Op.eqFields 9999 _ _ fs) w) (rfl:(Tryz.prog.fieldsOf 98).toList=[_,_,_])) ?_
 simp [go_sem]
theorem eqn_sign (x:Int) (a b:Bool) (w:World):(Op.equalIn 10000 33 (.agg #[.int .i64 x,.bool a,.bool b]) (.agg #[.int .i64 x,.bool a,.bool b])).run Tryz.prog w=.ok true w:=by
 rw [run_equalIn_agg w 9999 _ _ _ (by kernel_rfl) (by kernel_rfl)]
 refine Eq.trans (congrArg (fun fs=>Sem.run _ (Op.eqFields 9999 _ _ fs) w) (rfl:(Tryz.prog.fieldsOf 33).toList=[_,_,_])) ?_
 simp [go_sem]
theorem eqn_stp (x y z u v:Int) (w:World):(Op.equalIn 10000 100 (.agg #[.int .i64 x,.int .i64 y,.int .i64 z,.int .i64 u,.int .i64 v]) (.agg #[.int .i64 x,.int .i64 y,.int .i64 z,.int .i64 u,.int .i64 v])).run Tryz.prog w=.ok true w:=by
 rw [run_equalIn_agg w 9999 _ _ _ (by kernel_rfl) (by kernel_rfl)]
 refine Eq.trans (congrArg (fun fs=>Sem.run _ (Op.eqFields 9999 _ _ fs) w) (rfl:(Tryz.prog.fieldsOf 100).toList=[_,_,_,_,_])) ?_
 simp [go_sem]
theorem sameIns_FS (cs:List (Int×Int×Bool)) (st:List Int) (h1:cs.length≤64) (h2:st.length≤64):Ctr Tryz.prog 29 [.ag (eIns cs st),.ag (eIns cs st)] (.sc (.bool true)):=by
 refine Ctr.intro Tryz.func29 rfl Tryz.ntmps29 (Nat.le_of_ble_eq_true rfl) (bd_all rfl) fun w0 F0=>?_;dsimp only [St.init,number,Nat.reduceAdd]
 repeat (first|refine W.go rfl ?_|refine WL.ev rfl ?_|refine WL.len rfl rfl (by first|exact List.length_map _|exact List.length_replicate|rfl) ?_)
 refine (?_:WL _ _ _ _ _ _)
 dsimp only [St.put,Nat.reduceAdd]
 refine WL.partG rfl rfl rfl rfl (fun hp=>absurd hp (by simp)) (fun hp=>?_)
 repeat (first|refine WL.ev rfl ?_|refine WL.gyes rfl rfl rfl rfl ?_|refine WL.len rfl rfl (by first|exact List.length_map _|exact List.length_replicate|rfl) ?_)
 refine (?_:W _ _ _ _ _)
 dsimp only [St.put,Nat.reduceAdd]
 (refine W.cond rfl (fun hif=>?_) (fun hif=>?_)<;>(try simp only [decide_eq_true_eq,decide_eq_false_iff_not,Int.not_lt,Int.not_le,Bool.not_eq_true',Bool.not_eq_false'] at hif))
 ·exact absurd hif (by simp)
 repeat refine W.go rfl ?_
 refine (?_:W _ _ _ _ _)
 refine W.loop (fun k:Nat=>k≤cs.length) (fun k=>⟨[(2,.pt 0 0 0),(3,.pt 1 0 0),(5,.sc (.int .i64 k))],[(0,.box 25 (eIns cs st)),(1,.box 25 (eIns cs st))],2⟩) (fun k=>cs.length - k) 0 (by omega) (Tr.ren id (by repeat (first|exact trivial|refine ⟨⟨?_,?_⟩,?_⟩|rfl)) (by repeat (first|exact trivial|refine ⟨⟨?_,?_,?_⟩,?_⟩|rfl)) rfl) fun k hk=>?_
 repeat (first|refine W.go rfl ?_|refine WL.ev rfl ?_|refine WL.len rfl rfl (by first|exact List.length_map _|exact List.length_replicate|rfl) ?_)
 refine (?_:W _ _ _ _ _)
 dsimp only [St.put,Nat.reduceAdd]
 (refine W.cond rfl (fun hif=>?_) (fun hif=>?_)<;>(try simp only [decide_eq_true_eq,decide_eq_false_iff_not,Int.not_lt,Int.not_le,Bool.not_eq_true',Bool.not_eq_false'] at hif))
 ·have hk2:k < cs.length:=by omega
  repeat refine W.go rfl ?_
  refine (?_:W _ _ _ _ _)
  refine W.drawK (by kernel_rfl) (by kernel_rfl) ?_
  repeat (first|refine DK.st rfl ?_|refine DK.idx rfl rfl (by omega) (by first|exact map_at (by omega)|exact map_atZ (by omega) (by omega)) ?_)
  refine DK.vl rfl (WV.ane (b:=true) rfl rfl rfl rfl rfl (by kernel_rfl) (fun w=>eqn_crs _ _ _ w)) ?_
  repeat refine DK.nil ?_
  repeat (first|refine W.go rfl ?_|refine WL.ev rfl ?_|refine WL.ar rfl rfl (by unfold I64;omega) ?_|refine W.condF rfl ?_)
  dsimp only [St.put,Nat.reduceAdd]
  exact ⟨k+1,by omega,by omega,(Tr.ren id (by repeat (first|exact trivial|refine ⟨⟨?_,?_⟩,?_⟩|rfl)) (by repeat (first|exact trivial|refine ⟨⟨?_,?_,?_⟩,?_⟩|rfl)) rfl)⟩
 repeat refine W.go rfl ?_
 refine (?_:W _ _ _ _ _)
 refine W.loop (fun k:Nat=>k≤st.length) (fun k=>⟨[(2,.pt 0 0 0),(3,.pt 1 0 0),(6,.sc (.int .i64 k))],[(0,.box 25 (eIns cs st)),(1,.box 25 (eIns cs st))],2⟩) (fun k=>st.length - k) 0 (by omega) (Tr.ren id (by repeat (first|exact trivial|refine ⟨⟨?_,?_⟩,?_⟩|rfl)) (by repeat (first|exact trivial|refine ⟨⟨?_,?_,?_⟩,?_⟩|rfl)) rfl) fun k hk=>?_
 repeat (first|refine W.go rfl ?_|refine WL.ev rfl ?_|refine WL.len rfl rfl (by first|exact List.length_map _|exact List.length_replicate|rfl) ?_)
 refine (?_:W _ _ _ _ _)
 dsimp only [St.put,Nat.reduceAdd]
 (refine W.cond rfl (fun hif=>?_) (fun hif=>?_)<;>(try simp only [decide_eq_true_eq,decide_eq_false_iff_not,Int.not_lt,Int.not_le,Bool.not_eq_true',Bool.not_eq_false'] at hif))
 ·have hk2:k < st.length:=by omega
  repeat refine W.go rfl ?_
  refine (?_:W _ _ _ _ _)
  refine W.drawK (by kernel_rfl) (by kernel_rfl) ?_
  repeat (first|refine DK.ff rfl (by first|(simp;done)|fail) ?_|refine DK.st rfl ?_|refine DK.idx rfl rfl (by omega) (by first|exact map_at (by omega)|exact map_atZ (by omega) (by omega)) ?_|refine DK.nil ?_)
  repeat (first|refine W.go rfl ?_|refine WL.ev rfl ?_|refine WL.ar rfl rfl (by unfold I64;omega) ?_|refine W.condF rfl ?_)
  dsimp only [St.put,Nat.reduceAdd]
  exact ⟨k+1,by omega,by omega,(Tr.ren id (by repeat (first|exact trivial|refine ⟨⟨?_,?_⟩,?_⟩|rfl)) (by repeat (first|exact trivial|refine ⟨⟨?_,?_,?_⟩,?_⟩|rfl)) rfl)⟩
 repeat refine W.go rfl ?_
 refine (?_:W _ _ _ _ _)
 exact W.ret (fin1 rfl rfl rfl rfl)
theorem sameEv_FS (e:Ev) (h:e.stops.length≤64):Ctr Tryz.prog 55 [.ag (eEv e),.ag (eEv e)] (.sc (.bool true)):=by
 refine Ctr.intro Tryz.func55 rfl Tryz.ntmps55 (Nat.le_of_ble_eq_true rfl) (bd_all rfl) fun w0 F0=>?_;dsimp only [St.init,number,Nat.reduceAdd]
 repeat refine W.go rfl ?_
 refine (?_:WL _ _ _ _ _ _)
 dsimp only [St.put,Nat.reduceAdd]
 refine WL.partG rfl rfl rfl rfl (fun hp=>absurd hp (by simp)) (fun hp=>?_)
 repeat (first|refine WL.ev rfl ?_|refine WL.gyes rfl rfl rfl rfl ?_)
 refine (?_:WL _ _ _ _ _ _)
 dsimp only [St.put,Nat.reduceAdd]
 refine WL.vl rfl (WV.ane (b:=true) rfl rfl rfl rfl rfl (by kernel_rfl) (fun w=>eqn_sign _ _ _ w)) ?_
 repeat (first|refine WL.ev rfl ?_|refine WL.gyes rfl rfl rfl rfl ?_)
 refine (?_:WL _ _ _ _ _ _)
 dsimp only [St.put,Nat.reduceAdd]
 refine WL.partG rfl rfl rfl rfl (fun hp=>absurd hp (by simp)) (fun hp=>?_)
 repeat (first|refine WL.ev rfl ?_|refine WL.gyes rfl rfl rfl rfl ?_|refine WL.len rfl rfl (by first|exact List.length_map _|exact List.length_replicate|rfl) ?_)
 refine (?_:W _ _ _ _ _)
 dsimp only [St.put,Nat.reduceAdd]
 (refine W.cond rfl (fun hif=>?_) (fun hif=>?_)<;>(try simp only [decide_eq_true_eq,decide_eq_false_iff_not,Int.not_lt,Int.not_le,Bool.not_eq_true',Bool.not_eq_false'] at hif))
 ·exact absurd hif (by simp)
 repeat refine W.go rfl ?_
 refine (?_:W _ _ _ _ _)
 refine W.loop (fun k:Nat=>k≤e.stops.length) (fun k=>⟨[(2,.pt 0 0 0),(3,.pt 1 0 0),(5,.sc (.int .i64 k))],[(0,.box 36 (eEv e)),(1,.box 36 (eEv e))],2⟩) (fun k=>e.stops.length - k) 0 (by omega) (Tr.ren id (by repeat (first|exact trivial|refine ⟨⟨?_,?_⟩,?_⟩|rfl)) (by repeat (first|exact trivial|refine ⟨⟨?_,?_,?_⟩,?_⟩|rfl)) rfl) fun k hk=>?_
 repeat (first|refine W.go rfl ?_|refine WL.ev rfl ?_|refine WL.len rfl rfl (by first|exact List.length_map _|exact List.length_replicate|rfl) ?_)
 refine (?_:W _ _ _ _ _)
 dsimp only [St.put,Nat.reduceAdd]
 (refine W.cond rfl (fun hif=>?_) (fun hif=>?_)<;>(try simp only [decide_eq_true_eq,decide_eq_false_iff_not,Int.not_lt,Int.not_le,Bool.not_eq_true',Bool.not_eq_false'] at hif))
 ·have hk2:k < e.stops.length:=by omega
  repeat refine W.go rfl ?_
  refine (?_:W _ _ _ _ _)
  refine W.drawK (by kernel_rfl) (by kernel_rfl) ?_
  repeat (first|refine DK.st rfl ?_|refine DK.idx rfl rfl (by omega) (by first|exact map_at (by omega)|exact map_atZ (by omega) (by omega)) ?_)
  refine DK.vl rfl (WV.ane (b:=true) rfl rfl rfl rfl rfl (by kernel_rfl) (fun w=>eqn_stp _ _ _ _ _ w)) ?_
  repeat refine DK.nil ?_
  repeat (first|refine W.go rfl ?_|refine WL.ev rfl ?_|refine WL.ar rfl rfl (by unfold I64;omega) ?_|refine W.condF rfl ?_)
  dsimp only [St.put,Nat.reduceAdd]
  exact ⟨k+1,by omega,by omega,(Tr.ren id (by repeat (first|exact trivial|refine ⟨⟨?_,?_⟩,?_⟩|rfl)) (by repeat (first|exact trivial|refine ⟨⟨?_,?_,?_⟩,?_⟩|rfl)) rfl)⟩
 repeat refine W.go rfl ?_
 refine (?_:W _ _ _ _ _)
 exact W.ret (fin1 rfl rfl rfl rfl)
end Go.Proofs.YtgelfflighgajaaGreatDoor
namespace Go.Proofs.YtgelfflighgajaaGreatDoor
open Go.RowKit
theorem rEqual_FS (e f:Ev) (he:e.stops.length≤20) (hf:f.stops.length≤20):Ctr Tryz.prog 55 [.ag (eEv e),.ag (eEv f)] (.sc (.bool (evEq e f))):=by
 refine Ctr.intro Tryz.func55 rfl Tryz.ntmps55 (Nat.le_of_ble_eq_true rfl) (bd_all rfl) fun w0 F0=>?_;dsimp only [St.init,number,Nat.reduceAdd]
 repeat refine W.go rfl ?_
 refine (?_:WL _ _ _ _ _ _)
 dsimp only [St.put,Nat.reduceAdd]
 refine WL.partG rfl rfl rfl rfl (fun hp=>?_) (fun hp=>?_)
 ·have hn:evEq e f=false:=decide_eq_false fun h=>by simp [h.1] at hp
  rw [hn]
  repeat (first|refine W.go rfl ?_|refine WL.ev rfl ?_|refine WL.opno rfl rfl rfl rfl rfl rfl rfl ?_|refine W.condT rfl ?_)
  refine (?_:W _ _ _ _ _)
  dsimp only [St.put,Nat.reduceAdd]
  exact W.ret (fin1 rfl rfl rfl rfl)
 have g1:e.bar=f.bar:=by simpa using hp
 repeat (first|refine WL.ev rfl ?_|refine WL.gyes rfl rfl rfl rfl ?_)
 refine (?_:WL _ _ _ _ _ _)
 dsimp only [St.put,Nat.reduceAdd]
 refine WL.vl rfl (WV.ane rfl rfl rfl rfl rfl (by kernel_rfl) (fun w=>eqs_sign _ _ _ _ _ _ w)) ?_
 repeat refine WL.ev rfl ?_
 refine (?_:WL _ _ _ _ _ _)
 dsimp only [St.put,Nat.reduceAdd]
 refine WL.partG rfl rfl rfl rfl (fun hp=>?_) (fun hp=>?_)
 ·have hn:evEq e f=false:=decide_eq_false fun h=>by simp [h.2.1] at hp
  rw [hn]
  repeat (first|refine W.go rfl ?_|refine WL.ev rfl ?_|refine WL.opno rfl rfl rfl rfl rfl rfl rfl ?_|refine W.condT rfl ?_)
  refine (?_:W _ _ _ _ _)
  dsimp only [St.put,Nat.reduceAdd]
  exact W.ret (fin1 rfl rfl rfl rfl)
 have g2:e.val=f.val∧e.dot=f.dot∧e.three=f.three:=by simpa using hp
 repeat (first|refine WL.ev rfl ?_|refine WL.gyes rfl rfl rfl rfl ?_)
 refine (?_:WL _ _ _ _ _ _)
 dsimp only [St.put,Nat.reduceAdd]
 refine WL.partG rfl rfl rfl rfl (fun hp=>?_) (fun hp=>?_)
 ·have hn:evEq e f=false:=decide_eq_false fun h=>by simp [h.2.2.1] at hp
  rw [hn]
  repeat (first|refine W.go rfl ?_|refine WL.ev rfl ?_|refine WL.opno rfl rfl rfl rfl rfl rfl rfl ?_|refine W.condT rfl ?_)
  refine (?_:W _ _ _ _ _)
  dsimp only [St.put,Nat.reduceAdd]
  exact W.ret (fin1 rfl rfl rfl rfl)
 have g3:e.tie=f.tie:=by simpa using hp
 by_cases hl:e.stops.length=f.stops.length
 rotate_left
 ·have hn:evEq e f=false:=decide_eq_false fun h=>hl (by rw [h.2.2.2])
  rw [hn]
  repeat (first|refine W.gob rfl ?_|refine WL.nil ?_|refine WL.nt rfl rfl rfl (by omega) ?_|refine WL.e1 rfl ?_|refine WL.gyes rfl rfl rfl rfl ?_|refine WL.len rfl rfl (by first|exact List.length_map _|exact List.length_replicate|rfl) ?_|refine W.condT rfl ?_)
  refine (?_:W _ _ _ _ _)
  dsimp only [St.put,Nat.reduceAdd]
  exact W.ret (fin1 rfl rfl rfl rfl)
 repeat (first|refine W.gob rfl ?_|refine WL.nil ?_|refine WL.nf rfl rfl rfl (by omega) ?_|refine WL.e1 rfl ?_|refine WL.gyes rfl rfl rfl rfl ?_|refine WL.len rfl rfl (by first|exact List.length_map _|exact List.length_replicate|rfl) ?_|refine W.condF rfl ?_)
 refine (?_:W _ _ _ _ _)
 dsimp only [St.put,Nat.reduceAdd]
 refine W.loop (fun k:Nat=>k≤e.stops.length∧∀ i (hi:i < k) (h:i < e.stops.length),e.stops[i]=f.stops[i]'(by omega)) (fun k=>⟨[(2,.pt 0 0 0),(3,.pt 1 0 0),(5,.sc (.int .i64 k))],[(0,.box 36 (eEv e)),(1,.box 36 (eEv f))],2⟩) (fun k=>e.stops.length - k) 0 ⟨by omega,fun i hi=>by omega⟩ (Tr.ren id (by repeat (first|exact trivial|refine ⟨⟨?_,?_⟩,?_⟩|rfl)) (by repeat (first|exact trivial|refine ⟨⟨?_,?_,?_⟩,?_⟩|rfl)) rfl) fun k hk=>?_
 obtain ⟨hk,hgood⟩:=hk
 by_cases hlt:k < e.stops.length
 ·have hlt2:k < f.stops.length:=by omega
  by_cases hee:e.stops[k]=f.stops[k]
  ·repeat (first|refine W.gob rfl ?_|refine WL.nil ?_|refine WL.bt rfl rfl rfl (by omega) ?_|refine WL.e1 rfl ?_|refine WL.len rfl rfl (by first|exact List.length_map _|exact List.length_replicate|rfl) ?_|refine W.condT rfl ?_)
   refine (?_:W _ _ _ _ _)
   dsimp only [St.put,Nat.reduceAdd]
   refine W.drawK (by kernel_rfl) (by kernel_rfl) ?_
   repeat (first|refine DK.st rfl ?_|refine DK.idx rfl rfl (by omega) (by first|exact map_at (by omega)|exact map_atZ (by omega) (by omega)) ?_)
   refine DK.vl rfl (WV.ane rfl rfl rfl rfl rfl (by kernel_rfl) (fun w=>eqs_stp _ _ _ _ _ _ _ _ _ _ w)) ?_
   repeat refine DK.nil ?_
   have hd:decide ((e.stops[k].1,e.stops[k].2.1,e.stops[k].2.2.1,e.stops[k].2.2.2.1,e.stops[k].2.2.2.2)=(f.stops[k].1,f.stops[k].2.1,f.stops[k].2.2.1,f.stops[k].2.2.2.1,f.stops[k].2.2.2.2))=true:=decide_eq_true hee
   rw [hd]
   repeat (first|refine W.go rfl ?_|refine WL.ev rfl ?_|refine WL.ar rfl rfl (by unfold I64;omega) ?_|refine W.condF rfl ?_)
   dsimp only [St.put,Nat.reduceAdd]
   exact ⟨k+1,⟨by omega,fun i hi h=>by
    by_cases e:i=k
    ·subst e;exact hee
    ·exact hgood i (by omega) h⟩,by omega,(Tr.ren id (by repeat (first|exact trivial|refine ⟨⟨?_,?_⟩,?_⟩|rfl)) (by repeat (first|exact trivial|refine ⟨⟨?_,?_,?_⟩,?_⟩|rfl)) rfl)⟩
  ·have hn:evEq e f=false:=decide_eq_false fun h=>ne_at' hlt hlt2 hee h.2.2.2
   rw [hn]
   repeat (first|refine W.gob rfl ?_|refine WL.nil ?_|refine WL.bt rfl rfl rfl (by omega) ?_|refine WL.e1 rfl ?_|refine WL.len rfl rfl (by first|exact List.length_map _|exact List.length_replicate|rfl) ?_|refine W.condT rfl ?_)
   refine (?_:W _ _ _ _ _)
   dsimp only [St.put,Nat.reduceAdd]
   refine W.drawK (by kernel_rfl) (by kernel_rfl) ?_
   repeat (first|refine DK.st rfl ?_|refine DK.idx rfl rfl (by omega) (by first|exact map_at (by omega)|exact map_atZ (by omega) (by omega)) ?_)
   refine DK.vl rfl (WV.ane rfl rfl rfl rfl rfl (by kernel_rfl) (fun w=>eqs_stp _ _ _ _ _ _ _ _ _ _ w)) ?_
   repeat refine DK.nil ?_
   have hd:decide ((e.stops[k].1,e.stops[k].2.1,e.stops[k].2.2.1,e.stops[k].2.2.2.1,e.stops[k].2.2.2.2)=(f.stops[k].1,f.stops[k].2.1,f.stops[k].2.2.1,f.stops[k].2.2.2.1,f.stops[k].2.2.2.2))=false:=decide_eq_false hee
   rw [hd]
   repeat (first|refine W.go rfl ?_|refine W.condT rfl ?_)
   refine (?_:W _ _ _ _ _)
   dsimp only [St.put,Nat.reduceAdd]
   exact W.ret (fin1 rfl rfl rfl rfl)
 have hlm:e.stops=f.stops:=ext_len' hl fun q hq=>hgood q (by omega) hq
 have hn:evEq e f=true:=decide_eq_true ⟨g1,g2,g3,hlm⟩
 rw [hn]
 repeat (first|refine W.gob rfl ?_|refine WL.nil ?_|refine WL.bf rfl rfl rfl (by omega) ?_|refine WL.e1 rfl ?_|refine WL.len rfl rfl (by first|exact List.length_map _|exact List.length_replicate|rfl) ?_|refine W.condF rfl ?_)
 refine (?_:W _ _ _ _ _)
 dsimp only [St.put,Nat.reduceAdd]
 exact W.ret (fin1 rfl rfl rfl rfl)
end Go.Proofs.YtgelfflighgajaaGreatDoor
namespace Go.Proofs.YtgelfflighgajaaGreatDoor
open Go.RowKit
theorem half_fin:((List.range 7).all fun k=>decide (((384:Int)/2 ^ k)/2=384/2 ^ (k+1)) && decide (6≤(384:Int)/2 ^ k∧(384:Int)/2 ^ k≤384))=true:=by decide +kernel
theorem half_at {k:Nat} (h:k<7):((384:Int)/2 ^ k)/2=384/2 ^ (k+1)∧6≤(384:Int)/2 ^ k∧(384:Int)/2 ^ k≤384:=by
 have h1:=List.all_eq_true.1 half_fin k (List.mem_range.2 h)
 simp only [Bool.and_eq_true,decide_eq_true_eq]at h1
 exact h1
theorem rTicks_FS (v:Int) (d t:Bool):Ctr Tryz.prog 136 [.ag [.sc (.int .i64 v),.sc (.bool d),.sc (.bool t)]] (.sc (.int .i64 (tkV v d t))):=by
 have hR:=rRight2_FS v d t
 by_cases hok:sgOk v d t=true
 rotate_left
 ·have hok:sgOk v d t=false:=by simpa using hok
  have hz:tkV v d t=0:=by
   refine if_pos ?_
   by_cases h1:v < 1
   ·exact .inl h1
   ·by_cases h2:7 < v
    ·exact .inr (.inl h2)
    ·refine .inr (.inr ?_)
     cases hdt:(d && t) with
     | true=>rfl
     | false =>
      exfalso
      unfold sgOk at hok
      rw [hdt,decide_eq_true (show 1≤v by omega),decide_eq_true (show v≤7 by omega)] at hok
      simp at hok
  rw [hok] at hR
  rw [hz]
  refine Ctr.intro Tryz.func136 rfl Tryz.ntmps136 (Nat.le_of_ble_eq_true rfl) (bd_all rfl) fun w0 F0=>?_;dsimp only [St.init,number,Nat.reduceAdd]
  repeat (first|refine W.gob rfl ?_|refine WL.nil ?_|refine WL.e1 rfl ?_)
  refine (?_:WL _ _ _ _ _ _)
  dsimp only [St.put,Nat.reduceAdd]
  refine WL.vl rfl (WV.call rfl (callF Tryz.func137 rfl rfl) rfl rfl hR) ?_
  repeat (first|refine W.gob rfl ?_|refine WL.nil ?_|refine WL.e1 rfl ?_|refine WL.opno rfl rfl rfl rfl rfl rfl rfl ?_|refine W.condT rfl ?_)
  refine (?_:W _ _ _ _ _)
  dsimp only [St.put,Nat.reduceAdd]
  exact W.ret (fin1 rfl rfl rfl rfl)
 rw [hok] at hR
 by_cases hv:v=0
 ·have hz:tkV v d t=0:=if_pos (.inl (by omega))
  rw [hz]
  refine Ctr.intro Tryz.func136 rfl Tryz.ntmps136 (Nat.le_of_ble_eq_true rfl) (bd_all rfl) fun w0 F0=>?_;dsimp only [St.init,number,Nat.reduceAdd]
  repeat (first|refine W.gob rfl ?_|refine WL.nil ?_|refine WL.e1 rfl ?_)
  refine (?_:WL _ _ _ _ _ _)
  dsimp only [St.put,Nat.reduceAdd]
  refine WL.vl rfl (WV.call rfl (callF Tryz.func137 rfl rfl) rfl rfl hR) ?_
  repeat (first|refine W.gob rfl ?_|refine WL.nil ?_|refine WL.bt rfl rfl rfl (by omega) ?_|refine WL.e1 rfl ?_|refine WL.gyes rfl rfl rfl rfl ?_|refine W.condT rfl ?_)
  refine (?_:W _ _ _ _ _)
  dsimp only [St.put,Nat.reduceAdd]
  exact W.ret (fin1 rfl rfl rfl rfl)
 have hv7:1≤v∧v≤7∧(d && t)=false:=by
  unfold sgOk at hok
  simp only [Bool.or_eq_true,Bool.and_eq_true,beq_iff_eq,decide_eq_true_eq,Bool.not_eq_true'] at hok
  rcases hok with h|h
  ·exact absurd h.1.1 hv
  ·exact ⟨h.1.1,h.1.2,h.2⟩
 obtain ⟨hv1,hv2,hdt⟩:=hv7
 have htk:tkV v d t=if d then 384/2 ^ (v - 1).toNat/2*3 else if t then 384/2 ^ (v - 1).toNat/3*2 else 384/2 ^ (v - 1).toNat:=by
  refine if_neg ?_
  rw [hdt]
  rintro (h|h|h)
  ·omega
  ·omega
  ·cases h
 rw [htk]
 refine Ctr.intro Tryz.func136 rfl Tryz.ntmps136 (Nat.le_of_ble_eq_true rfl) (bd_all rfl) fun w0 F0=>?_;dsimp only [St.init,number,Nat.reduceAdd]
 repeat (first|refine W.gob rfl ?_|refine WL.nil ?_|refine WL.e1 rfl ?_)
 refine (?_:WL _ _ _ _ _ _)
 dsimp only [St.put,Nat.reduceAdd]
 refine WL.vl rfl (WV.call rfl (callF Tryz.func137 rfl rfl) rfl rfl hR) ?_
 repeat (first|refine W.gob rfl ?_|refine WL.nil ?_|refine WL.bf rfl rfl rfl (by omega) ?_|refine WL.e1 rfl ?_|refine WL.gyes rfl rfl rfl rfl ?_|refine W.condF rfl ?_)
 refine (?_:W _ _ _ _ _)
 dsimp only [St.put,Nat.reduceAdd]
 refine W.loop (fun k:Nat=>k≤(v - 1).toNat) (fun k=>⟨[(1,.pt 0 0 0),(3,.sc (.int .i64 (384/2 ^ k))),(4,.sc (.int .i64 ((k+1:Nat):Int)))],[(0,.box 33 [.sc (.int .i64 v),.sc (.bool d),.sc (.bool t)])],1⟩) (fun k=>(v - 1).toNat - k) 0 (by omega) (Tr.ren id (by repeat (first|exact trivial|refine ⟨⟨?_,?_⟩,?_⟩|rfl)) (by repeat (first|exact trivial|refine ⟨⟨?_,?_,?_⟩,?_⟩|rfl)) rfl) fun k hk=>?_
 have h7:=half_at (k:=k) (by omega)
 by_cases hlt:k < (v - 1).toNat
 ·obtain ⟨hh,hh1,hh2⟩:=h7
  obtain ⟨n,hn⟩:∃ n,(384:Int)/2 ^ k=n:=⟨_,rfl⟩
  rw [hn] at hh hh1 hh2 ⊢
  repeat (first|refine W.gob rfl ?_|refine WL.nil ?_|refine WL.bt rfl rfl rfl (by omega) ?_|refine WL.e1 rfl ?_|refine WL.ar rfl rfl (by unfold I64;omega) ?_|refine WL.div rfl rfl (by omega) ?_|refine W.condT rfl ?_)
  dsimp only [St.put,Nat.reduceAdd]
  refine ⟨k+1,by omega,by omega,?_⟩
  rw [← hh]
  exact (Tr.ren id (by repeat (first|exact trivial|refine ⟨⟨?_,?_⟩,?_⟩|rfl)) (by repeat (first|exact trivial|refine ⟨⟨?_,?_,?_⟩,?_⟩|rfl)) rfl)
 obtain rfl:k=(v - 1).toNat:=by omega
 obtain ⟨_,hh1,hh2⟩:=h7
 obtain ⟨n,hn⟩:∃ n,(384:Int)/2 ^ (v - 1).toNat=n:=⟨_,rfl⟩
 rw [hn] at hh1 hh2 ⊢
 repeat (first|refine W.gob rfl ?_|refine WL.nil ?_|refine WL.bf rfl rfl rfl (by omega) ?_|refine WL.e1 rfl ?_|refine W.condF rfl ?_)
 refine (?_:W _ _ _ _ _)
 dsimp only [St.put,Nat.reduceAdd]
 (refine W.cond rfl (fun hif=>?_) (fun hif=>?_)<;>(try simp only [decide_eq_true_eq,decide_eq_false_iff_not,Int.not_lt,Int.not_le,Bool.not_eq_true',Bool.not_eq_false'] at hif))
 ·rw [hif,if_pos rfl]
  repeat (first|refine W.gob rfl ?_|refine WL.nil ?_|refine WL.e1 rfl ?_|refine WL.ar rfl rfl (by unfold I64;omega) ?_|refine WL.div rfl rfl (by omega) ?_)
  refine (?_:W _ _ _ _ _)
  dsimp only [St.put,Nat.reduceAdd]
  exact W.ret (fin1 rfl rfl rfl rfl)
 rw [hif,if_neg (by decide)]
 repeat (first|refine W.gob rfl ?_|refine WL.nil ?_|refine WL.e1 rfl ?_)
 refine (?_:W _ _ _ _ _)
 dsimp only [St.put,Nat.reduceAdd]
 (refine W.cond rfl (fun hif=>?_) (fun hif=>?_)<;>(try simp only [decide_eq_true_eq,decide_eq_false_iff_not,Int.not_lt,Int.not_le,Bool.not_eq_true',Bool.not_eq_false'] at hif))
 ·rw [hif,if_pos rfl]
  repeat (first|refine W.gob rfl ?_|refine WL.nil ?_|refine WL.e1 rfl ?_|refine WL.ar rfl rfl (by unfold I64;omega) ?_|refine WL.div rfl rfl (by omega) ?_)
  refine (?_:W _ _ _ _ _)
  dsimp only [St.put,Nat.reduceAdd]
  exact W.ret (fin1 rfl rfl rfl rfl)
 rw [hif,if_neg (by decide)]
 repeat (first|refine W.gob rfl ?_|refine WL.nil ?_|refine WL.e1 rfl ?_)
 refine (?_:W _ _ _ _ _)
 dsimp only [St.put,Nat.reduceAdd]
 exact W.ret (fin1 rfl rfl rfl rfl)
end Go.Proofs.YtgelfflighgajaaGreatDoor
namespace Go.Proofs.YtgelfflighgajaaGreatDoor
open Go.RowKit
def hasK(b:List Stp)(s:Stp)(k:Nat):Bool:=(b.take k).any fun t=>ple s t
theorem hasK_succ {b:List Stp} {s:Stp} {k:Nat} (h:k<b.length):hasK b s (k+1)=(hasK b s k|| ple s b[k]):=by
 unfold hasK
 rw [List.take_succ_eq_append_getElem h,List.any_append];simp
theorem hasK_all(b:List Stp)(s:Stp):hasK b s b.length=hasP b s:=by unfold hasK hasP;rw [List.take_length]
theorem outside_FS (x y:Ev) (ha:x.stops.length≤20) (hb:y.stops.length≤20):Ctr Tryz.prog 135 [.ag (eEv x),.ag (eEv y)] (.sc (.int .i64 (extN x.stops y.stops))):=by
 rw [← extK_all]
 refine Ctr.intro Tryz.func135 rfl Tryz.ntmps135 (Nat.le_of_ble_eq_true rfl) (bd_all rfl) fun w0 F0=>?_;dsimp only [St.init,number,Nat.reduceAdd]
 repeat refine W.go rfl ?_
 refine (?_:W _ _ _ _ _)
 dsimp only [St.put,Nat.reduceAdd]
 refine W.loop (fun k:Nat=>k≤x.stops.length) (fun k=>⟨[(2,.pt 0 0 0),(3,.pt 1 0 0),(5,.sc (.int .i64 (extK x.stops y.stops k))),(6,.sc (.int .i64 k))],[(0,.box 36 (eEv x)),(1,.box 36 (eEv y))],2⟩) (fun k=>x.stops.length - k) 0 (by omega) (Tr.ren id (by repeat (first|exact trivial|refine ⟨⟨?_,?_⟩,?_⟩|rfl)) (by repeat (first|exact trivial|refine ⟨⟨?_,?_,?_⟩,?_⟩|rfl)) rfl) fun k hk=>?_
 have hle:=extK_le x.stops y.stops k
 by_cases hlt:k < x.stops.length
 rotate_left
 ·obtain rfl:k=x.stops.length:=by omega
  repeat (first|refine W.gob rfl ?_|refine WL.nil ?_|refine WL.bf rfl rfl rfl (by omega) ?_|refine WL.e1 rfl ?_|refine WL.len rfl rfl (by first|exact List.length_map _|exact List.length_replicate|rfl) ?_|refine W.condF rfl ?_)
  refine (?_:W _ _ _ _ _)
  dsimp only [St.put,Nat.reduceAdd]
  exact W.ret (fin1 rfl rfl rfl rfl)
 have hs:=extK_succ (b:=y.stops) hlt
 obtain ⟨E,hE⟩:∃ E,extK x.stops y.stops k=E:=⟨_,rfl⟩
 rw [hE] at hs hle ⊢
 repeat (first|refine W.gob rfl ?_|refine WL.nil ?_|refine WL.bt rfl rfl rfl (by omega) ?_|refine WL.e1 rfl ?_|refine WL.len rfl rfl (by first|exact List.length_map _|exact List.length_replicate|rfl) ?_|refine W.condT rfl ?_)
 refine (?_:W _ _ _ _ _)
 dsimp only [St.put,Nat.reduceAdd]
 refine W.loop (fun j:Nat=>j≤y.stops.length) (fun j=>⟨[(2,.pt 0 0 0),(3,.pt 1 0 0),(5,.sc (.int .i64 E)),(6,.sc (.int .i64 k)),(7,.sc (.bool (hasK y.stops x.stops[k] j))),(8,.sc (.int .i64 j))],[(0,.box 36 (eEv x)),(1,.box 36 (eEv y))],2⟩) (fun j=>y.stops.length - j) 0 (by omega) (Tr.ren id (by repeat (first|exact trivial|refine ⟨⟨?_,?_⟩,?_⟩|rfl)) (by repeat (first|exact trivial|refine ⟨⟨?_,?_,?_⟩,?_⟩|rfl)) rfl) fun j hj=>?_
 by_cases hjl:j < y.stops.length
 ·have hsu:=hasK_succ (s:=x.stops[k]) hjl
  cases hb2:hasK y.stops x.stops[k] j with
  | true =>
   rw [hb2,Bool.true_or] at hsu
   repeat (first|refine W.gob rfl ?_|refine WL.nil ?_|refine WL.bt rfl rfl rfl (by omega) ?_|refine WL.e1 rfl ?_|refine WL.len rfl rfl (by first|exact List.length_map _|exact List.length_replicate|rfl) ?_|refine W.condT rfl ?_)
   refine (?_:W _ _ _ _ _)
   dsimp only [St.put,Nat.reduceAdd]
   refine W.drawK (by kernel_rfl) (by kernel_rfl) ?_
   repeat (first|refine DK.tt rfl (by first|(simp;done)|fail) ?_|refine DK.st rfl ?_|refine DK.nil ?_)
   repeat (first|refine W.gob rfl ?_|refine WL.nil ?_|refine WL.e1 rfl ?_|refine WL.ar rfl rfl (by unfold I64;omega) ?_)
   dsimp only [St.put,Nat.reduceAdd]
   refine ⟨j+1,by omega,by omega,?_⟩
   rw [hsu]
   exact (Tr.ren id (by repeat (first|exact trivial|refine ⟨⟨?_,?_⟩,?_⟩|rfl)) (by repeat (first|exact trivial|refine ⟨⟨?_,?_,?_⟩,?_⟩|rfl)) rfl)
  | false =>
   rw [hb2,Bool.false_or] at hsu
   unfold ple at hsu
   by_cases h1:(x.stops[k]).1=(y.stops[j]).1
   ·by_cases h2:(x.stops[k]).2.1=(y.stops[j]).2.1
    ·have:hasK y.stops x.stops[k] (j+1)=true:=by rw [hsu];simp [h1,h2]
     repeat (first|refine W.gob rfl ?_|refine WL.nil ?_|refine WL.bt rfl rfl rfl (by omega) ?_|refine WL.e1 rfl ?_|refine WL.len rfl rfl (by first|exact List.length_map _|exact List.length_replicate|rfl) ?_|refine W.condT rfl ?_)
     refine (?_:W _ _ _ _ _)
     dsimp only [St.put,Nat.reduceAdd]
     refine W.drawK (by kernel_rfl) (by kernel_rfl) ?_
     repeat (first|refine DK.bt rfl rfl (by omega) ?_|refine DK.tt rfl (by first|(simp;done)|fail) ?_|refine DK.ff rfl (by first|(simp;done)|fail) ?_|refine DK.st rfl ?_|refine DK.idx rfl rfl (by omega) (by first|exact map_at (by omega)|exact map_atZ (by omega) (by omega)) ?_|refine DK.nil ?_)
     repeat (first|refine W.gob rfl ?_|refine WL.nil ?_|refine WL.e1 rfl ?_|refine WL.ar rfl rfl (by unfold I64;omega) ?_)
     dsimp only [St.put,Nat.reduceAdd]
     refine ⟨j+1,by omega,by omega,?_⟩
     rw [this]
     exact (Tr.ren id (by repeat (first|exact trivial|refine ⟨⟨?_,?_⟩,?_⟩|rfl)) (by repeat (first|exact trivial|refine ⟨⟨?_,?_,?_⟩,?_⟩|rfl)) rfl)
    ·have:hasK y.stops x.stops[k] (j+1)=false:=by rw [hsu];simp [h2]
     repeat (first|refine W.gob rfl ?_|refine WL.nil ?_|refine WL.bt rfl rfl rfl (by omega) ?_|refine WL.e1 rfl ?_|refine WL.len rfl rfl (by first|exact List.length_map _|exact List.length_replicate|rfl) ?_|refine W.condT rfl ?_)
     refine (?_:W _ _ _ _ _)
     dsimp only [St.put,Nat.reduceAdd]
     refine W.drawK (by kernel_rfl) (by kernel_rfl) ?_
     repeat (first|refine DK.bt rfl rfl (by omega) ?_|refine DK.bf rfl rfl (by omega) ?_|refine DK.tt rfl (by first|(simp;done)|fail) ?_|refine DK.ff rfl (by first|(simp;done)|fail) ?_|refine DK.st rfl ?_|refine DK.idx rfl rfl (by omega) (by first|exact map_at (by omega)|exact map_atZ (by omega) (by omega)) ?_|refine DK.nil ?_)
     repeat (first|refine W.gob rfl ?_|refine WL.nil ?_|refine WL.e1 rfl ?_|refine WL.ar rfl rfl (by unfold I64;omega) ?_)
     dsimp only [St.put,Nat.reduceAdd]
     refine ⟨j+1,by omega,by omega,?_⟩
     rw [this]
     exact (Tr.ren id (by repeat (first|exact trivial|refine ⟨⟨?_,?_⟩,?_⟩|rfl)) (by repeat (first|exact trivial|refine ⟨⟨?_,?_,?_⟩,?_⟩|rfl)) rfl)
   ·have:hasK y.stops x.stops[k] (j+1)=false:=by rw [hsu];simp [h1]
    repeat (first|refine W.gob rfl ?_|refine WL.nil ?_|refine WL.bt rfl rfl rfl (by omega) ?_|refine WL.e1 rfl ?_|refine WL.len rfl rfl (by first|exact List.length_map _|exact List.length_replicate|rfl) ?_|refine W.condT rfl ?_)
    refine (?_:W _ _ _ _ _)
    dsimp only [St.put,Nat.reduceAdd]
    refine W.drawK (by kernel_rfl) (by kernel_rfl) ?_
    repeat (first|refine DK.bf rfl rfl (by omega) ?_|refine DK.ff rfl (by first|(simp;done)|fail) ?_|refine DK.st rfl ?_|refine DK.idx rfl rfl (by omega) (by first|exact map_at (by omega)|exact map_atZ (by omega) (by omega)) ?_|refine DK.nil ?_)
    repeat (first|refine W.gob rfl ?_|refine WL.nil ?_|refine WL.e1 rfl ?_|refine WL.ar rfl rfl (by unfold I64;omega) ?_)
    dsimp only [St.put,Nat.reduceAdd]
    refine ⟨j+1,by omega,by omega,?_⟩
    rw [this]
    exact (Tr.ren id (by repeat (first|exact trivial|refine ⟨⟨?_,?_⟩,?_⟩|rfl)) (by repeat (first|exact trivial|refine ⟨⟨?_,?_,?_⟩,?_⟩|rfl)) rfl)
 obtain rfl:j=y.stops.length:=by omega
 rw [hasK_all]
 cases hh:hasP y.stops x.stops[k] with
 | true =>
  rw [hh,if_pos rfl] at hs
  repeat (first|refine W.gob rfl ?_|refine WL.nil ?_|refine WL.bf rfl rfl rfl (by omega) ?_|refine WL.e1 rfl ?_|refine WL.ar rfl rfl (by unfold I64;omega) ?_|refine WL.len rfl rfl (by first|exact List.length_map _|exact List.length_replicate|rfl) ?_|refine W.condF rfl ?_)
  dsimp only [St.put,Nat.reduceAdd]
  refine ⟨k+1,by omega,by omega,?_⟩
  rw [hs]
  exact (Tr.ren id (by repeat (first|exact trivial|refine ⟨⟨?_,?_⟩,?_⟩|rfl)) (by repeat (first|exact trivial|refine ⟨⟨?_,?_,?_⟩,?_⟩|rfl)) rfl)
 | false =>
  rw [hh,if_neg (by simp)] at hs
  repeat (first|refine W.gob rfl ?_|refine WL.nil ?_|refine WL.bf rfl rfl rfl (by omega) ?_|refine WL.e1 rfl ?_|refine WL.ar rfl rfl (by unfold I64;omega) ?_|refine WL.len rfl rfl (by first|exact List.length_map _|exact List.length_replicate|rfl) ?_|refine W.condT rfl ?_|refine W.condF rfl ?_)
  dsimp only [St.put,Nat.reduceAdd]
  refine ⟨k+1,by omega,by omega,?_⟩
  rw [hs]
  exact (Tr.ren id (by repeat (first|exact trivial|refine ⟨⟨?_,?_⟩,?_⟩|rfl)) (by repeat (first|exact trivial|refine ⟨⟨?_,?_,?_⟩,?_⟩|rfl)) rfl)
theorem rDist_FS (a b:Ev) (ha:a.stops.length≤20) (hb:b.stops.length≤20):Ctr Tryz.prog 65 [.ag (eEv a),.ag (eEv b)] (.sc (.int .i64 (dstE a b))):=by
 have h1:=outside_FS a b ha hb
 have h2:=outside_FS b a hb ha
 have l1:=extN_le a.stops b.stops
 have l2:=extN_le b.stops a.stops
 have t1:=rTicks_FS a.val a.dot a.three
 have t2:=rTicks_FS b.val b.dot b.three
 have hd:dstE a b=extN a.stops b.stops+extN b.stops a.stops+(if tkV a.val a.dot a.three=tkV b.val b.dot b.three then 0 else 1)+(if a.tie=b.tie then 0 else 1):=rfl
 obtain ⟨x,hx⟩:∃ x,extN a.stops b.stops=x:=⟨_,rfl⟩
 obtain ⟨y,hy⟩:∃ y,extN b.stops a.stops=y:=⟨_,rfl⟩
 obtain ⟨t,ht⟩:∃ t,tkV a.val a.dot a.three=t:=⟨_,rfl⟩
 obtain ⟨u,hu⟩:∃ u,tkV b.val b.dot b.three=u:=⟨_,rfl⟩
 rw [hx] at h1 l1 hd
 rw [hy] at h2 l2 hd
 rw [ht] at t1 hd
 rw [hu] at t2 hd
 refine Ctr.intro Tryz.func65 rfl Tryz.ntmps65 (Nat.le_of_ble_eq_true rfl) (bd_all rfl) fun w0 F0=>?_;dsimp only [St.init,number,Nat.reduceAdd]
 repeat refine W.go rfl ?_
 refine (?_:W _ _ _ _ _)
 dsimp only [St.put,Nat.reduceAdd]
 refine W.drawK (by kernel_rfl) (by kernel_rfl) ?_
 repeat refine DK.st rfl ?_
 refine DK.vl rfl (WV.call rfl (callF Tryz.func135 rfl rfl) rfl rfl h1) ?_
 repeat refine DK.st rfl ?_
 refine DK.vl rfl (WV.call rfl (callF Tryz.func135 rfl rfl) rfl rfl h2) ?_
 repeat (first|refine DK.st rfl ?_|refine DK.ar rfl rfl (by unfold I64;omega) ?_|refine DK.nil ?_)
 repeat refine W.go rfl ?_
 refine (?_:W _ _ _ _ _)
 dsimp only [St.put,Nat.reduceAdd]
 refine W.drawK (by kernel_rfl) (by kernel_rfl) ?_
 repeat refine DK.st rfl ?_
 refine DK.vl rfl (WV.call rfl (callF Tryz.func136 rfl rfl) rfl rfl t1) ?_
 repeat refine DK.st rfl ?_
 refine DK.vl rfl (WV.call rfl (callF Tryz.func136 rfl rfl) rfl rfl t2) ?_
 repeat (first|refine DK.st rfl ?_|refine DK.nil ?_)
 refine (?_:W _ _ _ _ _)
 dsimp only [St.put,Nat.reduceAdd]
 by_cases htu:t=u
 ·rw [if_pos htu] at hd
  subst htu
  (refine W.cond rfl (fun hif=>?_) (fun hif=>?_)<;>(try simp only [decide_eq_true_eq,decide_eq_false_iff_not,Int.not_lt,Int.not_le,Bool.not_eq_true',Bool.not_eq_false'] at hif))
  ·exact absurd hif (by simp)
  repeat refine W.go rfl ?_
  refine (?_:W _ _ _ _ _)
  dsimp only [St.put,Nat.reduceAdd]
  (refine W.cond rfl (fun hif=>?_) (fun hif=>?_)<;>(try simp only [decide_eq_true_eq,decide_eq_false_iff_not,Int.not_lt,Int.not_le,Bool.not_eq_true',Bool.not_eq_false'] at hif))
  ·have hne:¬ a.tie=b.tie:=by simpa using hif
   rw [if_neg hne] at hd
   rw [hd]
   repeat (first|refine W.go rfl ?_|refine WL.ev rfl ?_|refine WL.ar rfl rfl (by unfold I64;omega) ?_)
   refine (?_:W _ _ _ _ _)
   dsimp only [St.put,Nat.reduceAdd]
   exact W.ret (fin1 rfl rfl (sc_int (by omega)) rfl)
  ·have hne:a.tie=b.tie:=by simpa using hif
   rw [if_pos hne] at hd
   rw [hd]
   repeat refine W.go rfl ?_
   refine (?_:W _ _ _ _ _)
   dsimp only [St.put,Nat.reduceAdd]
   exact W.ret (fin1 rfl rfl (sc_int (by omega)) rfl)
 ·rw [if_neg htu] at hd
  (refine W.cond rfl (fun hif=>?_) (fun hif=>?_)<;>(try simp only [decide_eq_true_eq,decide_eq_false_iff_not,Int.not_lt,Int.not_le,Bool.not_eq_true',Bool.not_eq_false'] at hif))
  rotate_left
  ·exact absurd hif (by simpa using htu)
  repeat (first|refine W.go rfl ?_|refine WL.ev rfl ?_|refine WL.ar rfl rfl (by unfold I64;omega) ?_)
  refine (?_:W _ _ _ _ _)
  dsimp only [St.put,Nat.reduceAdd]
  (refine W.cond rfl (fun hif=>?_) (fun hif=>?_)<;>(try simp only [decide_eq_true_eq,decide_eq_false_iff_not,Int.not_lt,Int.not_le,Bool.not_eq_true',Bool.not_eq_false'] at hif))
  ·have hne:¬ a.tie=b.tie:=by simpa using hif
   rw [if_neg hne] at hd
   rw [hd]
   repeat (first|refine W.go rfl ?_|refine WL.ev rfl ?_|refine WL.ar rfl rfl (by unfold I64;omega) ?_)
   refine (?_:W _ _ _ _ _)
   dsimp only [St.put,Nat.reduceAdd]
   exact W.ret (fin1 rfl rfl (sc_int (by omega)) rfl)
  ·have hne:a.tie=b.tie:=by simpa using hif
   rw [if_pos hne] at hd
   rw [hd]
   repeat refine W.go rfl ?_
   refine (?_:W _ _ _ _ _)
   dsimp only [St.put,Nat.reduceAdd]
   exact W.ret (fin1 rfl rfl (sc_int (by omega)) rfl)
end Go.Proofs.YtgelfflighgajaaGreatDoor
namespace Go.Proofs.YtgelfflighgajaaGreatDoor
open Go.RowKit
def tabA (a b:List Ev):List (List AV):=rws a b (-1)
theorem costs_FS (a b:Pce) (hOa:PcOk a) (hOb:PcOk b) (ha:a.evs.length≤60) (hb:b.evs.length≤60):Ctr Tryz.prog 64 [ePce a,ePce b] (.ls 1 (tabA a.evs b.evs)):=by
 have ha2:∀ e∈a.evs,e.stops.length≤20:=fun e he=>by obtain ⟨q,hq,rfl⟩:=List.getElem_of_mem he;exact hOa.n4 q hq
 have hb2:∀ e∈b.evs,e.stops.length≤20:=fun e he=>by obtain ⟨q,hq,rfl⟩:=List.getElem_of_mem he;exact hOb.n4 q hq
 have hbd:=csA_bd ha2 hb2
 have hnn:=csA_nn a.evs b.evs
 have htop:=rws_top a.evs b.evs
 refine Ctr.intro Tryz.func64 rfl Tryz.ntmps64 (Nat.le_of_ble_eq_true rfl) (bd_all rfl) fun w0 F0=>?_;dsimp only [St.init,number,Nat.reduceAdd]
 repeat (first|refine W.gob rfl ?_|refine WL.nil ?_|refine WL.e1 rfl ?_|refine WL.ar rfl rfl (by unfold I64;omega) ?_|refine WL.len rfl rfl (by first|exact List.length_map _|exact List.length_replicate|rfl) ?_)
 refine (?_:WL _ _ _ _ _ _)
 dsimp only [St.put,Nat.reduceAdd]
 refine WL.mks (x:=⟨23,.slice none 0 0,(a.evs.length:Int)+1,(a.evs.length:Int)+1⟩) rfl rfl rfl (show ((a.evs.length:Int)+1).toNat=a.evs.length+1 by omega) ⟨by show 0≤(a.evs.length:Int)+1;omega,by show (a.evs.length:Int)+1≤1000000;omega⟩ ?_
 repeat (first|refine W.gob rfl ?_|refine WL.nil ?_|refine WL.e1 rfl ?_|refine WL.len rfl rfl (by first|exact List.length_map _|exact List.length_replicate|rfl) ?_)
 refine (?_:W _ _ _ _ _)
 dsimp only [St.put,Nat.reduceAdd]
 refine W.loop (fun x:Int=>-1≤x∧x≤a.evs.length) (fun x=>⟨[(2,.pt 0 0 0),(3,.pt 1 0 0),(5,.sl 2),(6,.sc (.int .i64 x))],[(0,.box 28 (ePce a).cells),(1,.box 28 (ePce b).cells),(2,.row 23 1 (rws a.evs b.evs x))],3⟩) (fun x=>(x+1).toNat) (a.evs.length:Int) ⟨by omega,by omega⟩ (by rw [htop];exact (Tr.ren id (by repeat (first|exact trivial|refine ⟨⟨?_,?_⟩,?_⟩|rfl)) (by repeat (first|exact trivial|refine ⟨⟨?_,?_,?_⟩,?_⟩|rfl)) rfl)) fun x hx=>?_
 obtain ⟨hx1,hx2⟩:=hx
 by_cases hx0:0≤x
 rotate_left
 ·have hxz:x=-1:=by omega
  subst hxz
  refine W.tr (Tr.freeze 2 rfl) ?_
  repeat (first|refine W.gob rfl ?_|refine WL.nil ?_|refine WL.bf rfl rfl rfl (by omega) ?_|refine WL.e1 rfl ?_|refine W.condF rfl ?_)
  refine (?_:W _ _ _ _ _)
  dsimp only [St.put,Nat.reduceAdd]
  exact W.ret (fin1 rfl rfl rfl rfl)
 obtain ⟨i,rfl⟩:∃ i:Nat,x=i:=⟨x.toNat,by omega⟩
 have hi:i≤a.evs.length:=by omega
 have hRl:=rws_len a.evs b.evs (i:Nat)
 have hRi:=rws_lo (b:=b.evs) (x:=(i:Nat)) hi (Int.le_refl _)
 have hRset:=rws_set (b:=b.evs) hi
 repeat (first|refine W.gob rfl ?_|refine WL.nil ?_|refine WL.bt rfl rfl rfl (by omega) ?_|refine WL.e1 rfl ?_|refine WL.ar rfl rfl (by unfold I64;omega) ?_|refine WL.len rfl rfl (by first|exact List.length_map _|exact List.length_replicate|rfl) ?_|refine W.condT rfl ?_)
 refine (?_:WL _ _ _ _ _ _)
 dsimp only [St.put,Nat.reduceAdd]
 refine WL.mks (x:=⟨3,.int .i64 0,(b.evs.length:Int)+1,(b.evs.length:Int)+1⟩) rfl rfl rfl (show ((b.evs.length:Int)+1).toNat=b.evs.length+1 by omega) ⟨by show 0≤(b.evs.length:Int)+1;omega,by show (b.evs.length:Int)+1≤1000000;omega⟩ ?_
 repeat refine WL.ixs rfl rfl (by first|omega|(simp;done)|(simp;omega)) ?_
 refine (?_:WL _ _ _ _ _ _)
 dsimp only [St.put,Nat.reduceAdd]
 refine WL.stO rfl rfl rfl rfl (by rw [Int.toNat_natCast];exact hRi) (by show 0 < 1;omega) ?_
 rw [Int.toNat_natCast]
 repeat (first|refine W.gob rfl ?_|refine WL.nil ?_|refine WL.e1 rfl ?_|refine WL.len rfl rfl (by first|exact List.length_map _|exact List.length_replicate|rfl) ?_)
 refine (?_:W _ _ _ _ _)
 dsimp only [St.put,Nat.reduceAdd]
 refine W.loop (fun y:Int=>-1≤y∧y≤b.evs.length) (fun y=>⟨[(2,.pt 0 0 0),(3,.pt 1 0 0),(5,.sl 2),(6,.sc (.int .i64 (i:Nat))),(7,.sc (.int .i64 y))],[(0,.box 28 (ePce a).cells),(1,.box 28 (ePce b).cells),(2,.rof 23 1 (rws a.evs b.evs (i:Nat)) i 0 (.sl 3)),(3,.row 3 1 ((rowK a.evs b.evs i (y+1).toNat).map eInt))],4⟩) (fun y=>(y+1).toNat) (b.evs.length:Int) ⟨by omega,by omega⟩ (by
  rw [show ((b.evs.length:Int)+1).toNat=b.evs.length+1 by omega,rowK_top,List.map_replicate]
  exact (Tr.ren id (by repeat (first|exact trivial|refine ⟨⟨?_,?_⟩,?_⟩|rfl)) (by repeat (first|exact trivial|refine ⟨⟨?_,?_,?_⟩,?_⟩|rfl)) rfl)) fun y hy=>?_
 obtain ⟨hy1,hy2⟩:=hy
 by_cases hy0:0≤y
 rotate_left
 ·have hyz:y=-1:=by omega
  subst hyz
  rw [show ((-1:Int)+1).toNat=0 by rfl,rowK_zero]
  refine W.tr (Tr.freeze 3 rfl) ?_
  refine W.tr (Tr.shut 2 rfl hRi (by show 0 < 1;omega) rfl hRset) ?_
  repeat (first|refine W.gob rfl ?_|refine WL.nil ?_|refine WL.bf rfl rfl rfl (by omega) ?_|refine WL.e1 rfl ?_|refine WL.ar rfl rfl (by unfold I64;omega) ?_|refine W.condF rfl ?_)
  dsimp only [St.put,Nat.reduceAdd]
  exact ⟨(i:Int) - 1,⟨by omega,by omega⟩,by omega,(Tr.ren id (by repeat (first|exact trivial|refine ⟨⟨?_,?_⟩,?_⟩|rfl)) (by repeat (first|exact trivial|refine ⟨⟨?_,?_,?_⟩,?_⟩|rfl)) rfl)⟩
 obtain ⟨k,rfl⟩:∃ k:Nat,y=k:=⟨y.toNat,by omega⟩
 have hk:k≤b.evs.length:=by omega
 have ek:((k:Int)+1).toNat=k+1:=by omega
 have ek2:((k:Int) - 1+1).toNat=k:=by omega
 have ek1:((k:Int)+1).toNat=k+1:=by omega
 have ei1:((i:Int)+1).toNat=i+1:=by omega
 have hKl:=rowK_len (a:=a.evs) (i:=i) (k:=k+1) (b:=b.evs) (by omega)
 have hKl2:((rowK a.evs b.evs i (k+1)).map eInt).length=b.evs.length+1:=by rw [List.length_map,hKl]
 have hK0:=rowK_map0 (a:=a.evs) (b:=b.evs) (i:=i) (k:=k)
 have hset:=rowK_mset (a:=a.evs) (b:=b.evs) (i:=i) (k:=k) hk (v:=csA a.evs b.evs i k) rfl
 rw [ek]
 by_cases hia:i < a.evs.length
 ·have hR1:=rws_hi (a:=a.evs) (b:=b.evs) (x:=(i:Nat)) (q:=i+1) (by omega) (by omega)
  have hal:=ha2 _ (List.getElem_mem hia)
  have halE:alnE a.evs[i]=1+(a.evs[i].stops.length:Int):=rfl
  have hat2:=rowA_map (a:=a.evs) (i:=i+1) (k:=k) hk
  have hb2':=hbd (i+1) k
  have hn2:=hnn (i+1) k
  by_cases hkb:k < b.evs.length
  ·have hcs:=csA_b hia hkb
   have hbl:=hb2 _ (List.getElem_mem hkb)
   have hblE:alnE b.evs[k]=1+(b.evs[k].stops.length:Int):=rfl
   have hD:=rDist_FS a.evs[i] b.evs[k] hal hbl
   have hDb:=dstE_bd a.evs[i] b.evs[k]
   have hat1:=rowA_map (a:=a.evs) (i:=i+1) (k:=k+1) (b:=b.evs) (by omega)
   have hat3:=rowK_map (a:=a.evs) (i:=i) (k:=k+1) (j:=k+1) (b:=b.evs) (by omega) (Nat.le_refl _)
   have hb1':=hbd (i+1) (k+1)
   have hn1:=hnn (i+1) (k+1)
   have hb3':=hbd i (k+1)
   have hn3:=hnn i (k+1)
   rw [halE,hblE] at hcs
   obtain ⟨c1,hc1⟩:∃ z,csA a.evs b.evs (i+1) (k+1)=z:=⟨_,rfl⟩
   obtain ⟨c2,hc2⟩:∃ z,csA a.evs b.evs (i+1) k=z:=⟨_,rfl⟩
   obtain ⟨c3,hc3⟩:∃ z,csA a.evs b.evs i (k+1)=z:=⟨_,rfl⟩
   obtain ⟨dd,hdd⟩:∃ z,dstE a.evs[i] b.evs[k]=z:=⟨_,rfl⟩
   rw [hc1] at hcs hat1 hb1' hn1
   rw [hc2] at hcs hat2 hb2' hn2
   rw [hc3] at hcs hat3 hb3' hn3
   rw [hdd] at hcs hD hDb
   have hc:((1+(a.evs[i].stops.length:Int)+c2 < dd+c1)∧(1+(b.evs[k].stops.length:Int)+c3 < 1+(a.evs[i].stops.length:Int)+c2))∨((1+(a.evs[i].stops.length:Int)+c2 < dd+c1)∧¬ (1+(b.evs[k].stops.length:Int)+c3 < 1+(a.evs[i].stops.length:Int)+c2)) ∨
     (¬ (1+(a.evs[i].stops.length:Int)+c2 < dd+c1)∧(1+(b.evs[k].stops.length:Int)+c3 < dd+c1))∨(¬ (1+(a.evs[i].stops.length:Int)+c2 < dd+c1)∧¬ (1+(b.evs[k].stops.length:Int)+c3 < dd+c1)):=by clear hcs;omega
   have hcs':Unit→csA a.evs b.evs i k=min (min (dd+c1) (1+(a.evs[i].stops.length:Int)+c2)) (1+(b.evs[k].stops.length:Int)+c3):=fun _=>hcs
   clear hcs hDb
   have hdd0:0≤dd∧dd≤42:=by have:=dstE_bd a.evs[i] b.evs[k];omega
   rcases hc with ⟨g1,g2⟩|⟨g1,g2⟩|⟨g1,g2⟩|⟨g1,g2⟩
   all_goals
    repeat (first|refine W.gob rfl ?_|refine WL.nil ?_|refine WL.bt rfl rfl rfl (by omega) ?_|refine WL.e1 rfl ?_|refine WL.gyes rfl rfl rfl rfl ?_|refine WL.len rfl rfl (by first|exact List.length_map _|exact List.length_replicate|rfl) ?_|refine W.condT rfl ?_)
    refine (?_:W _ _ _ _ _)
    dsimp only [St.put,Nat.reduceAdd]
    refine W.drawK (by kernel_rfl) (by kernel_rfl) ?_
    repeat (first|refine DK.st rfl ?_|refine DK.idx rfl rfl (by omega) (by first|exact map_at (by omega)|exact map_atZ (by omega) (by omega)) ?_)
    refine DK.vl rfl (WV.call rfl (callF Tryz.func65 rfl rfl) rfl rfl hD) ?_
    repeat (first|refine DK.st rfl ?_|refine DK.ar rfl rfl (by unfold I64;omega) ?_|refine DK.ixs rfl rfl (by first|omega|(simp;done)|(simp;omega)) ?_)
    try (refine DK.ixs rfl rfl ⟨by omega,by rw [hRl];omega⟩ ?_)
    rw [ei1]
    refine DK.ldN rfl rfl (Nat.succ_ne_self i) hR1 rfl ?_
    repeat (first|refine DK.st rfl ?_|refine DK.ar rfl rfl (by unfold I64;omega) ?_)
    refine DK.idx rfl rfl (by omega) (by rw [ek1];exact hat1) ?_
    repeat (first|refine DK.st rfl ?_|refine DK.ar rfl rfl (by unfold I64;omega) ?_|refine DK.nil ?_)
    repeat (first|refine W.gob rfl ?_|refine WL.nil ?_|refine WL.bt rfl rfl rfl (by omega) ?_|refine WL.e1 rfl ?_|refine WL.len rfl rfl (by first|exact List.length_map _|exact List.length_replicate|rfl) ?_|refine W.condT rfl ?_)
    refine (?_:W _ _ _ _ _)
    dsimp only [St.put,Nat.reduceAdd]
    refine W.drawK (by kernel_rfl) (by kernel_rfl) ?_
    repeat (first|refine DK.st rfl ?_|refine DK.ar rfl rfl (by unfold I64;omega) ?_|refine DK.len rfl rfl (by first|exact List.length_map _|exact List.length_replicate|rfl) ?_|refine DK.idx rfl rfl (by omega) (by first|exact map_at (by omega)|exact map_atZ (by omega) (by omega)) ?_|refine DK.ixs rfl rfl (by first|omega|(simp;done)|(simp;omega)) ?_)
    try (refine DK.ixs rfl rfl ⟨by omega,by rw [hRl];omega⟩ ?_)
    rw [ei1]
    refine DK.ldN rfl rfl (Nat.succ_ne_self i) hR1 rfl ?_
    repeat refine DK.st rfl ?_
    refine DK.idx rfl rfl (by omega) (by rw [Int.toNat_natCast];exact hat2) ?_
    repeat (first|refine DK.st rfl ?_|refine DK.ar rfl rfl (by unfold I64;omega) ?_|refine DK.nil ?_)
    repeat (first|refine W.gob rfl ?_|refine WL.nil ?_|refine WL.bt rfl rfl rfl (by omega) ?_|refine WL.bf rfl rfl rfl (by omega) ?_|refine WL.e1 rfl ?_|refine WL.gyes rfl rfl rfl rfl ?_|refine WL.len rfl rfl (by first|exact List.length_map _|exact List.length_replicate|rfl) ?_|refine W.condT rfl ?_|refine W.condF rfl ?_)
    refine (?_:W _ _ _ _ _)
    dsimp only [St.put,Nat.reduceAdd]
    refine W.drawK (by kernel_rfl) (by kernel_rfl) ?_
    repeat (first|refine DK.st rfl ?_|refine DK.ar rfl rfl (by unfold I64;omega) ?_|refine DK.len rfl rfl (by first|exact List.length_map _|exact List.length_replicate|rfl) ?_|refine DK.idx rfl rfl (by omega) (by first|exact map_at (by omega)|exact map_atZ (by omega) (by omega)) ?_|refine DK.ixs rfl rfl (by first|omega|(simp;done)|(simp;omega)) ?_)
    try (refine DK.ixs rfl rfl ⟨by omega,by rw [hRl];omega⟩ ?_)
    refine DK.ldO rfl rfl (Int.toNat_natCast i) rfl (by rw [Int.toNat_natCast];exact hRi) (by show 0 < 1;omega) ?_
    repeat (first|refine DK.st rfl ?_|refine DK.ar rfl rfl (by unfold I64;omega) ?_|refine DK.ixs rfl rfl (by first|omega|(simp;done)|(simp;omega)) ?_)
    try (refine DK.ixs rfl rfl ⟨by omega,by rw [List.length_map,hKl];omega⟩ ?_)
    rw [ek1]
    refine DK.ldr rfl rfl hat3 rfl rfl ?_
    repeat (first|refine DK.st rfl ?_|refine DK.ar rfl rfl (by unfold I64;omega) ?_|refine DK.nil ?_)
    repeat (first|refine W.gob rfl ?_|refine WL.nil ?_|refine WL.bt rfl rfl rfl (by omega) ?_|refine WL.bf rfl rfl rfl (by omega) ?_|refine WL.e1 rfl ?_|refine WL.gyes rfl rfl rfl rfl ?_|refine WL.ixs rfl rfl (by first|omega|(simp;done)|(simp;omega)) ?_|refine W.condT rfl ?_|refine W.condF rfl ?_)
    refine (?_:WL _ _ _ _ _ _)
    dsimp only [St.put,Nat.reduceAdd]
    refine WL.ldO rfl rfl (Int.toNat_natCast i) rfl (by rw [Int.toNat_natCast];exact hRi) (by show 0 < 1;omega) ?_
    repeat refine WL.e1 rfl ?_
    refine (?_:WL _ _ _ _ _ _)
    dsimp only [St.put,Nat.reduceAdd]
    refine WL.mm rfl rfl (show _=csA a.evs b.evs i k by have hcs:=hcs' ();first|(split<;>omega)|omega) ?_
    repeat refine WL.ixs rfl rfl (by first|omega|(simp;done)|(simp;omega)) ?_
    refine (?_:WL _ _ _ _ _ _)
    dsimp only [St.put,Nat.reduceAdd]
    refine WL.sto rfl rfl rfl rfl (by rw [Int.toNat_natCast];exact hK0) (by show 0+1≤1;omega) ?_
    rw [Int.toNat_natCast]
    repeat (first|refine W.gob rfl ?_|refine WL.nil ?_|refine WL.e1 rfl ?_|refine WL.ar rfl rfl (by unfold I64;omega) ?_)
    dsimp only [St.put,Nat.reduceAdd]
    refine ⟨(k:Int) - 1,⟨by omega,by omega⟩,by omega,?_⟩
    rw [ek2]
    exact (Tr.ren (fun q=>q) (by repeat (first|exact trivial|refine ⟨⟨?_,?_⟩,?_⟩|rfl)) (by repeat (first|exact trivial|refine ⟨⟨?_,?_,?_⟩,?_⟩|rfl|exact congrArg (fun q=>some (AO.row _ _ q)) hset)) rfl)
  ·obtain rfl:k=b.evs.length:=by omega
   have hcs:=csA_l (b:=b.evs) hia
   rw [halE] at hcs
   obtain ⟨c2,hc2⟩:∃ z,csA a.evs b.evs (i+1) b.evs.length=z:=⟨_,rfl⟩
   rw [hc2] at hcs hat2 hb2' hn2
   repeat (first|refine W.gob rfl ?_|refine WL.nil ?_|refine WL.bt rfl rfl rfl (by omega) ?_|refine WL.bf rfl rfl rfl (by omega) ?_|refine WL.e1 rfl ?_|refine WL.gyes rfl rfl rfl rfl ?_|refine WL.len rfl rfl (by first|exact List.length_map _|exact List.length_replicate|rfl) ?_|refine W.condT rfl ?_|refine W.condF rfl ?_)
   refine (?_:W _ _ _ _ _)
   dsimp only [St.put,Nat.reduceAdd]
   refine W.drawK (by kernel_rfl) (by kernel_rfl) ?_
   repeat (first|refine DK.st rfl ?_|refine DK.ar rfl rfl (by unfold I64;omega) ?_|refine DK.len rfl rfl (by first|exact List.length_map _|exact List.length_replicate|rfl) ?_|refine DK.idx rfl rfl (by omega) (by first|exact map_at (by omega)|exact map_atZ (by omega) (by omega)) ?_|refine DK.ixs rfl rfl (by first|omega|(simp;done)|(simp;omega)) ?_)
   try (refine DK.ixs rfl rfl ⟨by omega,by rw [hRl];omega⟩ ?_)
   rw [ei1]
   refine DK.ldN rfl rfl (Nat.succ_ne_self i) hR1 rfl ?_
   repeat refine DK.st rfl ?_
   refine DK.idx rfl rfl (by omega) (by rw [Int.toNat_natCast];exact hat2) ?_
   repeat (first|refine DK.st rfl ?_|refine DK.ar rfl rfl (by unfold I64;omega) ?_|refine DK.nil ?_)
   repeat (first|refine W.gob rfl ?_|refine WL.nil ?_|refine WL.bt rfl rfl rfl (by omega) ?_|refine WL.bf rfl rfl rfl (by omega) ?_|refine WL.e1 rfl ?_|refine WL.opno rfl rfl rfl rfl rfl rfl rfl ?_|refine WL.len rfl rfl (by first|exact List.length_map _|exact List.length_replicate|rfl) ?_|refine WL.ixs rfl rfl (by first|omega|(simp;done)|(simp;omega)) ?_|refine W.condT rfl ?_|refine W.condF rfl ?_)
   refine (?_:WL _ _ _ _ _ _)
   dsimp only [St.put,Nat.reduceAdd]
   refine WL.ldO rfl rfl (Int.toNat_natCast i) rfl (by rw [Int.toNat_natCast];exact hRi) (by show 0 < 1;omega) ?_
   repeat refine WL.e1 rfl ?_
   refine (?_:WL _ _ _ _ _ _)
   dsimp only [St.put,Nat.reduceAdd]
   refine WL.mm rfl rfl (show _=csA a.evs b.evs i b.evs.length by first|(split<;>omega)|omega) ?_
   repeat refine WL.ixs rfl rfl (by first|omega|(simp;done)|(simp;omega)) ?_
   refine (?_:WL _ _ _ _ _ _)
   dsimp only [St.put,Nat.reduceAdd]
   refine WL.sto rfl rfl rfl rfl (by rw [Int.toNat_natCast];exact hK0) (by show 0+1≤1;omega) ?_
   rw [Int.toNat_natCast]
   repeat (first|refine W.gob rfl ?_|refine WL.nil ?_|refine WL.e1 rfl ?_|refine WL.ar rfl rfl (by unfold I64;omega) ?_)
   dsimp only [St.put,Nat.reduceAdd]
   refine ⟨(b.evs.length:Int) - 1,⟨by omega,by omega⟩,by omega,?_⟩
   rw [ek2]
   exact (Tr.ren (fun q=>q) (by repeat (first|exact trivial|refine ⟨⟨?_,?_⟩,?_⟩|rfl)) (by repeat (first|exact trivial|refine ⟨⟨?_,?_,?_⟩,?_⟩|rfl|exact congrArg (fun q=>some (AO.row _ _ q)) hset)) rfl)
 ·obtain rfl:i=a.evs.length:=by omega
  by_cases hkb:k < b.evs.length
  ·have hcs:=csA_r (a:=a.evs) hkb
   have hbl:=hb2 _ (List.getElem_mem hkb)
   have hblE:alnE b.evs[k]=1+(b.evs[k].stops.length:Int):=rfl
   have hat3:=rowK_map (a:=a.evs) (i:=a.evs.length) (k:=k+1) (j:=k+1) (b:=b.evs) (by omega) (Nat.le_refl _)
   have hb3':=hbd a.evs.length (k+1)
   have hn3:=hnn a.evs.length (k+1)
   rw [hblE] at hcs
   obtain ⟨c3,hc3⟩:∃ z,csA a.evs b.evs a.evs.length (k+1)=z:=⟨_,rfl⟩
   rw [hc3] at hcs hat3 hb3' hn3
   repeat (first|refine W.gob rfl ?_|refine WL.nil ?_|refine WL.bt rfl rfl rfl (by omega) ?_|refine WL.bf rfl rfl rfl (by omega) ?_|refine WL.e1 rfl ?_|refine WL.opno rfl rfl rfl rfl rfl rfl rfl ?_|refine WL.len rfl rfl (by first|exact List.length_map _|exact List.length_replicate|rfl) ?_|refine W.condT rfl ?_|refine W.condF rfl ?_)
   refine (?_:W _ _ _ _ _)
   dsimp only [St.put,Nat.reduceAdd]
   refine W.drawK (by kernel_rfl) (by kernel_rfl) ?_
   repeat (first|refine DK.st rfl ?_|refine DK.ar rfl rfl (by unfold I64;omega) ?_|refine DK.len rfl rfl (by first|exact List.length_map _|exact List.length_replicate|rfl) ?_|refine DK.idx rfl rfl (by omega) (by first|exact map_at (by omega)|exact map_atZ (by omega) (by omega)) ?_|refine DK.ixs rfl rfl (by first|omega|(simp;done)|(simp;omega)) ?_)
   try (refine DK.ixs rfl rfl ⟨by omega,by rw [hRl];omega⟩ ?_)
   refine DK.ldO rfl rfl (Int.toNat_natCast a.evs.length) rfl (by rw [Int.toNat_natCast];exact hRi) (by show 0 < 1;omega) ?_
   repeat (first|refine DK.st rfl ?_|refine DK.ar rfl rfl (by unfold I64;omega) ?_|refine DK.ixs rfl rfl (by first|omega|(simp;done)|(simp;omega)) ?_)
   try (refine DK.ixs rfl rfl ⟨by omega,by rw [List.length_map,hKl];omega⟩ ?_)
   rw [ek1]
   refine DK.ldr rfl rfl hat3 rfl rfl ?_
   repeat (first|refine DK.st rfl ?_|refine DK.ar rfl rfl (by unfold I64;omega) ?_|refine DK.nil ?_)
   repeat (first|refine W.gob rfl ?_|refine WL.nil ?_|refine WL.bt rfl rfl rfl (by omega) ?_|refine WL.e1 rfl ?_|refine WL.opno rfl rfl rfl rfl rfl rfl rfl ?_|refine WL.ixs rfl rfl (by first|omega|(simp;done)|(simp;omega)) ?_|refine W.condT rfl ?_)
   refine (?_:WL _ _ _ _ _ _)
   dsimp only [St.put,Nat.reduceAdd]
   refine WL.ldO rfl rfl (Int.toNat_natCast a.evs.length) rfl (by rw [Int.toNat_natCast];exact hRi) (by show 0 < 1;omega) ?_
   repeat refine WL.e1 rfl ?_
   refine (?_:WL _ _ _ _ _ _)
   dsimp only [St.put,Nat.reduceAdd]
   refine WL.mm rfl rfl (show _=csA a.evs b.evs a.evs.length k by first|(split<;>omega)|omega) ?_
   repeat refine WL.ixs rfl rfl (by first|omega|(simp;done)|(simp;omega)) ?_
   refine (?_:WL _ _ _ _ _ _)
   dsimp only [St.put,Nat.reduceAdd]
   refine WL.sto rfl rfl rfl rfl (by rw [Int.toNat_natCast];exact hK0) (by show 0+1≤1;omega) ?_
   rw [Int.toNat_natCast]
   repeat (first|refine W.gob rfl ?_|refine WL.nil ?_|refine WL.e1 rfl ?_|refine WL.ar rfl rfl (by unfold I64;omega) ?_)
   dsimp only [St.put,Nat.reduceAdd]
   refine ⟨(k:Int) - 1,⟨by omega,by omega⟩,by omega,?_⟩
   rw [ek2]
   exact (Tr.ren (fun q=>q) (by repeat (first|exact trivial|refine ⟨⟨?_,?_⟩,?_⟩|rfl)) (by repeat (first|exact trivial|refine ⟨⟨?_,?_,?_⟩,?_⟩|rfl|exact congrArg (fun q=>some (AO.row _ _ q)) hset)) rfl)
  ·obtain rfl:k=b.evs.length:=by omega
   have hcs:=csA_end (a:=a.evs) (b:=b.evs)
   repeat (first|refine W.gob rfl ?_|refine WL.nil ?_|refine WL.bt rfl rfl rfl (by omega) ?_|refine WL.bf rfl rfl rfl (by omega) ?_|refine WL.e1 rfl ?_|refine WL.opno rfl rfl rfl rfl rfl rfl rfl ?_|refine WL.len rfl rfl (by first|exact List.length_map _|exact List.length_replicate|rfl) ?_|refine WL.ixs rfl rfl (by first|omega|(simp;done)|(simp;omega)) ?_|refine W.condT rfl ?_|refine W.condF rfl ?_)
   refine (?_:WL _ _ _ _ _ _)
   dsimp only [St.put,Nat.reduceAdd]
   refine WL.ldO rfl rfl (Int.toNat_natCast a.evs.length) rfl (by rw [Int.toNat_natCast];exact hRi) (by show 0 < 1;omega) ?_
   repeat refine WL.e1 rfl ?_
   refine (?_:WL _ _ _ _ _ _)
   dsimp only [St.put,Nat.reduceAdd]
   refine WL.mm rfl rfl (show _=csA a.evs b.evs a.evs.length b.evs.length by first|(split<;>omega)|omega) ?_
   repeat refine WL.ixs rfl rfl (by first|omega|(simp;done)|(simp;omega)) ?_
   refine (?_:WL _ _ _ _ _ _)
   dsimp only [St.put,Nat.reduceAdd]
   refine WL.sto rfl rfl rfl rfl (by rw [Int.toNat_natCast];exact hK0) (by show 0+1≤1;omega) ?_
   rw [Int.toNat_natCast]
   repeat (first|refine W.gob rfl ?_|refine WL.nil ?_|refine WL.e1 rfl ?_|refine WL.ar rfl rfl (by unfold I64;omega) ?_)
   dsimp only [St.put,Nat.reduceAdd]
   refine ⟨(b.evs.length:Int) - 1,⟨by omega,by omega⟩,by omega,?_⟩
   rw [ek2]
   exact (Tr.ren (fun q=>q) (by repeat (first|exact trivial|refine ⟨⟨?_,?_⟩,?_⟩|rfl)) (by repeat (first|exact trivial|refine ⟨⟨?_,?_,?_⟩,?_⟩|rfl|exact congrArg (fun q=>some (AO.row _ _ q)) hset)) rfl)
end Go.Proofs.YtgelfflighgajaaGreatDoor
namespace Go.Proofs.YtgelfflighgajaaGreatDoor
open Go.RowKit
theorem rCopyO_FS (p:Pce) (hO:PcOk p):Cto truB 0 Tryz.prog 17 [ePce p] [] 0 (.ag [.ls 3 (p.cs.map eCrs),.ls 1 (p.st.map eInt),.sl 0])
  [(0,.row 36 6 (p.evs.map eEv)),(1,.box 28 [.ls 3 (p.cs.map eCrs),.ls 1 (p.st.map eInt),.sl 0])] 2:=by
 have hn3:=hO.n3
 refine Cto.intro truS Tryz.func17 rfl Tryz.ntmps17 (Nat.le_of_ble_eq_true rfl) rfl fun w0 F0 fp pg hB=>?_
 dsimp only [number,Nat.reduceAdd]
 repeat refine W.go rfl ?_
 refine (?_:WL _ _ _ _ _ _)
 dsimp only [St.put,Nat.reduceAdd]
 refine WL.vl rfl (WV.call rfl (callF Tryz.func53 rfl rfl) rfl rfl (insCopy_FS p.cs p.st hO.n1 hO.n2)) ?_
 repeat (first|refine W.go rfl ?_|refine WL.ev rfl ?_)
 refine (?_:W _ _ _ _ _)
 dsimp only [St.put,Nat.reduceAdd]
 refine W.tr (Tr.nilBox (k:=2) (j:=2) 36 6 rfl rfl rfl rfl) ?_
 refine W.loop (fun k:Nat=>k≤p.evs.length) (fun k=>⟨[(1,.pt 0 0 0),(2,.pt 1 0 0),(3,.pt 2 0 0),(4,.sc (.int .i64 k))],[(0,.box 28 [.ls 3 (p.cs.map eCrs),.ls 1 (p.st.map eInt),.ls 6 (p.evs.map eEv)]),(1,.box 28 [.sc (.slice none 0 0),.sc (.slice none 0 0),.sc (.slice none 0 0)]),(2,.box 28 [.ls 3 (p.cs.map eCrs),.ls 1 (p.st.map eInt),.sl 3]),(3,.row 36 6 ((p.evs.take k).map eEv))],4⟩) (fun k=>p.evs.length - k) 0 (by omega) (Tr.ren id (by repeat (first|exact trivial|refine ⟨⟨?_,?_⟩,?_⟩|rfl)) (by repeat (first|exact trivial|refine ⟨⟨?_,?_,?_⟩,?_⟩|rfl)) rfl) fun k hk=>?_
 by_cases hk2:k < p.evs.length
 ·have h20:=hO.n4 k hk2
  repeat (first|refine W.gob rfl ?_|refine WL.nil ?_|refine WL.bt rfl rfl rfl (by omega) ?_|refine WL.e1 rfl ?_|refine WL.len rfl rfl (by first|exact List.length_map _|exact List.length_replicate|rfl) ?_|refine WL.idx rfl rfl (by omega) (by first|exact map_at (by omega)|exact map_atZ (by omega) (by omega)) ?_|refine WL.app rfl rfl rfl (by first|omega|(simp;done)|(simp;omega)) ?_|refine W.condT rfl ?_)
  refine (?_:WL _ _ _ _ _ _)
  dsimp only [St.put,Nat.reduceAdd]
  refine WL.tr (Tr.freeze 6 rfl) ?_
  repeat (first|refine W.go rfl ?_|refine WL.ev rfl ?_|refine WL.ar rfl rfl (by unfold I64;omega) ?_|refine WL.app rfl rfl rfl (by first|omega|(simp;done)|(simp;omega)) ?_)
  dsimp only [St.put,Nat.reduceAdd]
  exact ⟨k+1,by omega,by omega,(Tr.ren (fun q=>bif Nat.beq q 3 then 8 else q) (by repeat (first|exact trivial|refine ⟨⟨?_,?_⟩,?_⟩|rfl)) (by repeat (first|exact trivial|refine ⟨⟨?_,?_,?_⟩,?_⟩|rfl|exact congrArg (fun q=>some (AO.row _ _ q)) (take_map_succ hk2))) rfl)⟩
 ·obtain rfl:k=p.evs.length:=by omega
  rw [List.take_length]
  repeat (first|refine W.gob rfl ?_|refine WL.nil ?_|refine WL.bf rfl rfl rfl (by omega) ?_|refine WL.e1 rfl ?_|refine WL.len rfl rfl (by first|exact List.length_map _|exact List.length_replicate|rfl) ?_|refine W.condF rfl ?_)
  refine (?_:W _ _ _ _ _)
  dsimp only [St.put,Nat.reduceAdd]
  refine W.tr (σ':=⟨[(2,.pt 1 0 0)],[(0,.row 36 6 (p.evs.map eEv)),(1,.box 28 [.ls 3 (p.cs.map eCrs),.ls 1 (p.st.map eInt),.sl 0])],2⟩) (Tr.ren (fun q=>bif Nat.beq q 0 then 3 else q) (by repeat (first|exact trivial|refine ⟨⟨?_,?_⟩,?_⟩|rfl)) (by repeat (first|exact trivial|refine ⟨⟨?_,?_,?_⟩,?_⟩|rfl|exact congrArg (fun q=>some (AO.row _ _ q)) (by first|rfl|(simp;done)|(simp [eInt];done)|(simp [eLk];done)))) rfl) ?_
  exact W.ret (finM rfl rfl rfl rfl rfl)
theorem plK_len {evs:List Ev} {k:Nat} (h:k≤evs.length):(plN evs k++evs.drop k).length=evs.length:=by rw [List.length_append,plN_length h,List.length_drop];omega
theorem plK_at {evs:List Ev} {k:Nat} (h:k<evs.length):((plN evs k++evs.drop k).map eEv)[k]?=some (eEv evs[k]):=by
 have e:(plN evs k++evs.drop k)[k]?=some evs[k]:=by
  rw [List.getElem?_append_right (by rw [plN_length (by omega)];exact Nat.le_refl _),plN_length (by omega),Nat.sub_self,List.getElem?_drop]
  simp [h]
 rw [List.getElem?_map,e];rfl
theorem plK_set {evs:List Ev} {k:Nat} (h:k<evs.length):((plN evs k++evs.drop k).map eEv).set k (putL 1 (eSig (sgF evs (k+1))) (eEv evs[k]))=(plN evs (k+1)++evs.drop (k+1)).map eEv:=by
 have e:putL 1 (eSig (sgF evs (k+1))) (eEv evs[k])=eEv (sgW evs[k] (sgF evs (k+1))):=rfl
 rw [e,← List.map_set,plN_at h]
 congr 1
 have hl:(plN evs k).length=k:=plN_length (by omega)
 rw [List.set_append_right _ _ (by omega),hl,Nat.sub_self,List.drop_eq_getElem_cons h,List.set_cons_zero,List.append_assoc];rfl
theorem sgL_at {evs:List Ev} {k n:Nat} (h:k<n):((sgL evs n).map eSig)[k]?=some (eSig (sgF evs (k+1))):=by
 unfold sgL
 rw [List.getElem?_map,List.getElem?_map,List.getElem?_range h];rfl
theorem rPlain_FS (p:Pce) (hO:PcOk p):Ctr Tryz.prog 30 [ePce p] (.tu [ePce (plP p),.sc (.int .i64 (pceE p))]):=by
 have hC:=rCheck_FS p hO
 have hn3:=hO.n3
 by_cases h0:pceE p=0
 rotate_left
 ·have e1:plP p=noP:=if_neg h0
  rw [e1]
  obtain ⟨E,hE⟩:∃ E,pceE p=E:=⟨_,rfl⟩
  rw [hE] at hC h0 ⊢
  refine Ctr.intro Tryz.func30 rfl Tryz.ntmps30 (Nat.le_of_ble_eq_true rfl) (bd_all rfl) fun w0 F0=>?_;dsimp only [St.init,number,Nat.reduceAdd]
  repeat refine W.go rfl ?_
  refine (?_:WL _ _ _ _ _ _)
  dsimp only [St.put,Nat.reduceAdd]
  refine WL.vl rfl (WV.call rfl (callF Tryz.func28 rfl rfl) rfl rfl hC) ?_
  repeat (first|refine W.gob rfl ?_|refine WL.nil ?_|refine WL.nt rfl rfl rfl (by omega) ?_|refine WL.e1 rfl ?_|refine W.condT rfl ?_)
  refine (?_:W _ _ _ _ _)
  dsimp only [St.put,Nat.reduceAdd]
  refine W.tr (Tr.nilC 1 0 3 rfl rfl rfl) ?_
  refine W.tr (Tr.nilC 1 1 1 rfl rfl rfl) ?_
  refine W.tr (Tr.nilC 1 2 6 rfl rfl rfl) ?_
  exact W.ret (finN rfl rfl rfl rfl)
 have e1:plP p=⟨p.cs,p.st,plN p.evs p.evs.length⟩:=if_pos h0
 have hF:=rForces_FS p hO
 have hsl:=sgL_length p.evs p.evs.length
 rw [e1,h0]
 rw [h0] at hC
 obtain ⟨SL,hSL⟩:∃ z,(sgL p.evs p.evs.length).map eSig=z:=⟨_,rfl⟩
 have hSLl:SL.length=p.evs.length:=by rw [← hSL,List.length_map,hsl]
 rw [hSL] at hF
 refine Ctr.intro Tryz.func30 rfl Tryz.ntmps30 (Nat.le_of_ble_eq_true rfl) (bd_all rfl) fun w0 F0=>?_;dsimp only [St.init,number,Nat.reduceAdd]
 repeat refine W.go rfl ?_
 refine (?_:WL _ _ _ _ _ _)
 dsimp only [St.put,Nat.reduceAdd]
 refine WL.vl rfl (WV.call rfl (callF Tryz.func28 rfl rfl) rfl rfl hC) ?_
 repeat (first|refine W.gob rfl ?_|refine WL.nil ?_|refine WL.nf rfl rfl rfl (by omega) ?_|refine WL.e1 rfl ?_|refine W.condF rfl ?_)
 refine (?_:WL _ _ _ _ _ _)
 dsimp only [St.put,Nat.reduceAdd]
 refine WL.cto (truH _) [] rfl rfl (callF Tryz.func17 rfl rfl) (rCopyO_FS p hO) rfl rfl rfl trivial rfl rfl rfl rfl ?_
 repeat (first|refine W.go rfl ?_|refine WL.ev rfl ?_)
 refine (?_:WL _ _ _ _ _ _)
 dsimp only [St.put,Nat.reduceAdd]
 refine WL.vl rfl (WV.call rfl (callF Tryz.func68 rfl rfl) rfl rfl hF) ?_
 repeat (first|refine W.go rfl ?_|refine WL.ev rfl ?_)
 refine (?_:W _ _ _ _ _)
 dsimp only [St.put,Nat.reduceAdd]
 refine W.loop (fun k:Nat=>k≤p.evs.length) (fun k=>⟨[(2,.pt 1 0 0),(5,.pt 2 0 0),(6,.ls 3 SL),(7,.sc (.int .i64 k))],[(1,.box 28 [.sc (.slice none 0 0),.sc (.slice none 0 0),.sc (.slice none 0 0)]),(2,.box 28 [.ls 3 (p.cs.map eCrs),.ls 1 (p.st.map eInt),.sl 3]),(3,.row 36 6 ((plN p.evs k++p.evs.drop k).map eEv))],4⟩) (fun k=>p.evs.length - k) 0 (by omega) (Tr.ren (fun q=>bif Nat.beq q 2 then 4 else bif Nat.beq q 3 then 2 else q) (by repeat (first|exact trivial|refine ⟨⟨?_,?_⟩,?_⟩|rfl)) (by repeat (first|exact trivial|refine ⟨⟨?_,?_,?_⟩,?_⟩|rfl|exact congrArg (fun q=>some (AO.row _ _ q)) (by simp [plN]))) rfl) fun k hk=>?_
 have hkl:=plK_len hk
 by_cases hlt:k < p.evs.length
 ·have hat:=plK_at hlt
  have hset:=plK_set hlt
  have hsg:=sgL_at (evs:=p.evs) hlt
  rw [hSL] at hsg
  obtain ⟨R,hR⟩:∃ z,plN p.evs k++p.evs.drop k=z:=⟨_,rfl⟩
  rw [hR] at hkl hat hset ⊢
  repeat (first|refine W.gob rfl ?_|refine WL.nil ?_|refine WL.bt rfl rfl rfl (by omega) ?_|refine WL.e1 rfl ?_|refine WL.len rfl rfl (by first|exact List.length_map _|exact List.length_replicate|rfl) ?_|refine W.condT rfl ?_)
  refine (?_:W _ _ _ _ _)
  dsimp only [St.put,Nat.reduceAdd]
  refine W.dkT 9 (by kernel_rfl) (by kernel_rfl) (by kernel_rfl) (by kernel_rfl) ?_
  repeat refine DK.st rfl ?_
  refine DK.idx rfl rfl (by omega) (r:=eSig (sgF p.evs (k+1))) (by rw [Int.toNat_natCast];exact hsg) ?_
  repeat (first|refine DK.st rfl ?_|refine DK.ixs rfl rfl (by first|omega|(simp;done)|(simp;omega)) ?_|refine DK.nil ?_)
  refine ⟨rfl,?_⟩
  rw [Int.toNat_natCast]
  refine WL.sto rfl rfl rfl rfl hat (by show 1+3≤6;omega) ?_
  repeat (first|refine W.go rfl ?_|refine WL.nil ?_|refine WL.ev rfl ?_|refine WL.ar rfl rfl (by unfold I64;omega) ?_)
  dsimp only [St.put,Nat.reduceAdd]
  exact ⟨k+1,by omega,by omega,(Tr.ren (fun q=>q) (by repeat (first|exact trivial|refine ⟨⟨?_,?_⟩,?_⟩|rfl)) (by repeat (first|exact trivial|refine ⟨⟨?_,?_,?_⟩,?_⟩|rfl|exact congrArg (fun q=>some (AO.row _ _ q)) hset)) rfl)⟩
 ·obtain rfl:k=p.evs.length:=by omega
  rw [List.drop_length,List.append_nil]
  repeat (first|refine W.gob rfl ?_|refine WL.nil ?_|refine WL.bf rfl rfl rfl (by omega) ?_|refine WL.e1 rfl ?_|refine WL.len rfl rfl (by first|exact List.length_map _|exact List.length_replicate|rfl) ?_|refine W.condF rfl ?_)
  refine (?_:W _ _ _ _ _)
  dsimp only [St.put,Nat.reduceAdd]
  refine W.tr (Tr.freeze 3 rfl) ?_
  exact W.ret (finN rfl rfl rfl rfl)
end Go.Proofs.YtgelfflighgajaaGreatDoor
