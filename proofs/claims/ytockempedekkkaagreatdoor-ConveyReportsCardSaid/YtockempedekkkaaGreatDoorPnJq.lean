/- Plain of the program: each sign written. -/
import Derived.Test.YtockempedekkkaaGreatDoorFSJq
import Derived.Test.YtockempedekkkaaGreatDoorEGJq
set_option maxHeartbeats 8000000
set_option maxRecDepth 100000
set_option linter.unusedVariables false
set_option linter.unusedSimpArgs false
namespace Go.Proofs.YtockempedekkkaaGreatDoor
open Go.RowKit
theorem eqs_sign (x:Int) (a b:Bool) (y:Int) (c d:Bool) (w:World):(Op.equalIn 10000 39 (.agg #[.int .i64 x,.bool a,.bool b]) (.agg #[.int .i64 y,.bool c,.bool d])).run Tryz.prog w=.ok (decide (x=y∧a=c∧b=d)) w:=by
 rw [run_equalIn_agg w 9999 _ _ _ zqk zqk]
 refine Eq.trans (congrArg (fun fs=>Sem.run _ (Op.eqFields 9999 _ _ fs) w) (rfl:(Tryz.prog.fieldsOf 39).toList=[_,_,_])) ?_
 by_cases h1:x=y
 ·subst h1
  cases a<;>cases b<;>cases c<;>cases d<;>simp [go_sem]
 ·simp [go_sem,h1]
theorem clnStp_FS (l:List Stp) (h:l.length≤100000):Ctr Tryz.prog 93 [.ls 5 (l.map eStp)] (.ls 5 (l.map eStp)):=by
 refine zqe Tryz.func93 Tryz.ntmps93 fun w0 F0=>?_;dsimp only [St.init,number,Nat.reduceAdd]
 repeat (first|refine W.go rfl ?_|refine WL.nil ?_|refine WL.ev rfl ?_|refine WL.app rfl rfl rfl zqs ?_|refine W.condT rfl ?_|refine W.condF rfl ?_)
 (first|refine (?_:W _ _ _ _ _)|refine (?_:WL _ _ _ _ _ _)|skip)
 try dsimp only [St.put,Nat.reduceAdd]
 refine WL.nlq rfl rfl fun b hb=>?_
 cases b with
 | true =>
  have e:=hb rfl
  repeat (first|refine W.go rfl ?_|refine WL.nil ?_|refine WL.ev rfl ?_|refine WL.app rfl rfl rfl zqs ?_|refine W.condT rfl ?_|refine W.condF rfl ?_)
  (first|refine (?_:W _ _ _ _ _)|refine (?_:WL _ _ _ _ _ _)|skip)
  try dsimp only [St.put,Nat.reduceAdd]
  refine W.tr (Tr.nilR (t:=2) 5 rfl) ?_
  rw [e]
  exact W.ret zqr
 | false =>
  repeat (first|refine W.go rfl ?_|refine WL.nil ?_|refine WL.ev rfl ?_|refine WL.app rfl rfl rfl zqs ?_|refine W.condT rfl ?_|refine W.condF rfl ?_)
  (first|refine (?_:W _ _ _ _ _)|refine (?_:WL _ _ _ _ _ _)|skip)
  try dsimp only [St.put,Nat.reduceAdd]
  refine W.tr (Tr.freeze 1 rfl) ?_
  exact W.ret zqr
theorem clnCrs_FS (l:List (Int×Int×Bool)) (h:l.length≤100000):Ctr Tryz.prog 91 [.ls 3 (l.map eCrs)] (.ls 3 (l.map eCrs)):=by
 refine zqe Tryz.func91 Tryz.ntmps91 fun w0 F0=>?_;dsimp only [St.init,number,Nat.reduceAdd]
 repeat (first|refine W.go rfl ?_|refine WL.nil ?_|refine WL.ev rfl ?_|refine WL.app rfl rfl rfl zqs ?_|refine W.condT rfl ?_|refine W.condF rfl ?_)
 (first|refine (?_:W _ _ _ _ _)|refine (?_:WL _ _ _ _ _ _)|skip)
 try dsimp only [St.put,Nat.reduceAdd]
 refine WL.nlq rfl rfl fun b hb=>?_
 cases b with
 | true =>
  have e:=hb rfl
  repeat (first|refine W.go rfl ?_|refine WL.nil ?_|refine WL.ev rfl ?_|refine WL.app rfl rfl rfl zqs ?_|refine W.condT rfl ?_|refine W.condF rfl ?_)
  (first|refine (?_:W _ _ _ _ _)|refine (?_:WL _ _ _ _ _ _)|skip)
  try dsimp only [St.put,Nat.reduceAdd]
  refine W.tr (Tr.nilR (t:=2) 3 rfl) ?_
  rw [e]
  exact W.ret zqr
 | false =>
  repeat (first|refine W.go rfl ?_|refine WL.nil ?_|refine WL.ev rfl ?_|refine WL.app rfl rfl rfl zqs ?_|refine W.condT rfl ?_|refine W.condF rfl ?_)
  (first|refine (?_:W _ _ _ _ _)|refine (?_:WL _ _ _ _ _ _)|skip)
  try dsimp only [St.put,Nat.reduceAdd]
  refine W.tr (Tr.freeze 1 rfl) ?_
  exact W.ret zqr
theorem clnInt_FS (l:List Int) (h:l.length≤100000):Ctr Tryz.prog 92 [.ls 1 (l.map eInt)] (.ls 1 (l.map eInt)):=by
 refine zqe Tryz.func92 Tryz.ntmps92 fun w0 F0=>?_;dsimp only [St.init,number,Nat.reduceAdd]
 repeat (first|refine W.go rfl ?_|refine WL.nil ?_|refine WL.ev rfl ?_|refine WL.app rfl rfl rfl zqs ?_|refine W.condT rfl ?_|refine W.condF rfl ?_)
 (first|refine (?_:W _ _ _ _ _)|refine (?_:WL _ _ _ _ _ _)|skip)
 try dsimp only [St.put,Nat.reduceAdd]
 refine WL.nlq rfl rfl fun b hb=>?_
 cases b with
 | true =>
  have e:=hb rfl
  repeat (first|refine W.go rfl ?_|refine WL.nil ?_|refine WL.ev rfl ?_|refine WL.app rfl rfl rfl zqs ?_|refine W.condT rfl ?_|refine W.condF rfl ?_)
  (first|refine (?_:W _ _ _ _ _)|refine (?_:WL _ _ _ _ _ _)|skip)
  try dsimp only [St.put,Nat.reduceAdd]
  refine W.tr (Tr.nilR (t:=2) 1 rfl) ?_
  rw [e]
  exact W.ret zqr
 | false =>
  repeat (first|refine W.go rfl ?_|refine WL.nil ?_|refine WL.ev rfl ?_|refine WL.app rfl rfl rfl zqs ?_|refine W.condT rfl ?_|refine W.condF rfl ?_)
  (first|refine (?_:W _ _ _ _ _)|refine (?_:WL _ _ _ _ _ _)|skip)
  try dsimp only [St.put,Nat.reduceAdd]
  refine W.tr (Tr.freeze 1 rfl) ?_
  exact W.ret zqr
theorem pCopied_FS (e:Ev) (h:e.stops.length≤100000):Ctr Tryz.prog 64 [.ag (eEv e)] (.ag (eEv e)):=by
 refine zqe Tryz.func64 Tryz.ntmps64 fun w0 F0=>?_;dsimp only [St.init,number,Nat.reduceAdd]
 repeat (first|refine W.go rfl ?_|refine WL.ev rfl ?_)
 (first|refine (?_:W _ _ _ _ _)|refine (?_:WL _ _ _ _ _ _)|skip)
 try dsimp only [St.put,Nat.reduceAdd]
 refine WL.vl rfl (WV.call rfl (callF Tryz.func93 rfl rfl) rfl rfl (clnStp_FS e.stops h)) ?_
 repeat (first|refine W.go rfl ?_|refine WL.ev rfl ?_)
 (first|refine (?_:W _ _ _ _ _)|refine (?_:WL _ _ _ _ _ _)|skip)
 try dsimp only [St.put,Nat.reduceAdd]
 exact W.ret (fin_cell rfl rfl rfl rfl rfl rfl rfl rfl)
def nxS(s:Int×Bool×Bool)(e:Ev):Int×Bool×Bool:=if e.val=0∧e.dot=false∧e.three=false then s else(e.val,e.dot,e.three)
theorem plain1_FS (e:Ev) (s:Int×Bool×Bool) :
  Cto truB 0 Tryz.prog 60 [.ag (eEv e),.pt 0 0 0] [(0,.box 39 (eSig s))] 1 (.ag (eEv (sgW e (nxS s e)))) [(0,.box 39 (eSig (nxS s e))),(1,.box 44 (eEv (sgW e (nxS s e))))] 2:=by
 refine Cto.intro truS Tryz.func60 rfl Tryz.ntmps60 (Nat.le_of_ble_eq_true rfl) rfl fun w0 F0 fp pg hB=>?_
 dsimp only [number,Nat.reduceAdd]
 obtain ⟨n,hn⟩:∃ n,nxS s e=n:=⟨_,rfl⟩
 have hn0:=hn
 unfold nxS at hn0
 rw [hn]
 repeat (first|refine W.go rfl ?_|refine WL.nil ?_)
 (first|refine (?_:W _ _ _ _ _)|refine (?_:WL _ _ _ _ _ _)|skip)
 try dsimp only [St.put,Nat.reduceAdd]
 refine WL.vl rfl (WV.ane rfl rfl rfl rfl rfl zqk (fun w=>eqs_sign _ _ _ _ _ _ w)) ?_
 repeat (first|refine W.go rfl ?_|refine WL.nil ?_)
 (first|refine (?_:W _ _ _ _ _)|refine (?_:WL _ _ _ _ _ _)|skip)
 try dsimp only [St.put,Nat.reduceAdd]
 (refine W.cond rfl (fun hif=>?_) (fun hif=>?_)<;>(try simp only [decide_eq_true_eq,decide_eq_false_iff_not,Int.not_lt,Int.not_le,Bool.not_eq_true',Bool.not_eq_false'] at hif))
 ·rw [if_neg (by simpa using hif)] at hn0
  subst hn0
  repeat (first|refine W.go rfl ?_|refine WL.nil ?_)
  (first|refine (?_:W _ _ _ _ _)|refine (?_:WL _ _ _ _ _ _)|skip)
  try dsimp only [St.put,Nat.reduceAdd]
  refine W.tr (σ':=⟨[(3,.pt 1 0 0)],[(0,.box 39 (eSig (e.val,e.dot,e.three))),(1,.box 44 (eEv (sgW e (e.val,e.dot,e.three))))],2⟩) (zqu (fun q=>bif Nat.beq q 1 then 2 else q) (by repeat (first|exact trivial|refine ⟨⟨?_,?_,?_⟩,?_⟩|rfl|exact congrArg (fun q=>some (AO.row _ _ q)) (by first|rfl|(simp;done)|(simp [eInt];done)|(simp [eLk];done)))) rfl) ?_
  exact W.ret (finM rfl rfl rfl rfl rfl)
 ·rw [if_pos (by simpa using hif)] at hn0
  subst hn0
  repeat (first|refine W.go rfl ?_|refine WL.nil ?_)
  (first|refine (?_:W _ _ _ _ _)|refine (?_:WL _ _ _ _ _ _)|skip)
  try dsimp only [St.put,Nat.reduceAdd]
  refine W.tr (σ':=⟨[(3,.pt 1 0 0)],[(0,.box 39 (eSig s)),(1,.box 44 (eEv (sgW e s)))],2⟩) (zqu (fun q=>bif Nat.beq q 1 then 2 else q) (by repeat (first|exact trivial|refine ⟨⟨?_,?_,?_⟩,?_⟩|rfl|exact congrArg (fun q=>some (AO.row _ _ q)) (by first|rfl|(simp;done)|(simp [eInt];done)|(simp [eLk];done)))) rfl) ?_
  exact W.ret (finM rfl rfl rfl rfl rfl)
theorem rewr1_FS (e:Ev) (s:Int×Bool×Bool) (h:e.stops.length≤100000) :
  Cto truB 0 Tryz.prog 90 [.ag (eEv e),.pt 1 0 0] [(0,.box 39 (eSig s)),(1,.box 123 [.fn 60 [.pt 0 0 0]])] 2 (.ag (eEv (sgW e (nxS s e))))
   [(0,.box 39 (eSig (nxS s e))),(1,.box 123 [.fn 60 [.pt 0 0 0]]),(2,.box 44 (eEv (sgW e (nxS s e))))] 3:=by
 refine Cto.intro truS Tryz.func90 rfl Tryz.ntmps90 (Nat.le_of_ble_eq_true rfl) rfl fun w0 F0 fp pg hB=>?_
 dsimp only [number,Nat.reduceAdd]
 repeat (first|refine W.go rfl ?_)
 (first|refine (?_:W _ _ _ _ _)|refine (?_:WL _ _ _ _ _ _)|skip)
 try dsimp only [St.put,Nat.reduceAdd]
 refine W.of_wa zqk ?_
 refine WA.ds [false,false,false,true,true] [1,2] zqk zqk ⟨rfl,rfl,trivial⟩ ?_
 refine DSK.st rfl rfl ?_
 refine DSK.st rfl rfl ?_
 refine DSK.v0 rfl (WV.call rfl (callF Tryz.func64 rfl rfl) rfl rfl (pCopied_FS e h)) ?_
 refine DSK.ct (truH _) [0] rfl rfl (callF Tryz.func60 rfl rfl) (plain1_FS e s) rfl rfl rfl ⟨⟨rfl,rfl,rfl⟩,trivial⟩ rfl rfl rfl rfl ⟨rfl,rfl,trivial⟩ ?_
 refine DSK.sto rfl rfl rfl rfl rfl rfl rfl rfl rfl rfl rfl rfl rfl rfl ⟨rfl,rfl,trivial⟩ ?_
 refine DSK.nil ?_
 repeat (first|refine W.go rfl ?_)
 (first|refine (?_:W _ _ _ _ _)|refine (?_:WL _ _ _ _ _ _)|skip)
 try dsimp only [St.put,Nat.reduceAdd]
 refine W.tr (σ':=⟨[(3,.pt 2 0 0)],[(0,.box 39 (eSig (nxS s e))),(1,.box 123 [.fn 60 [.pt 0 0 0]]),(2,.box 44 (eEv (sgW e (nxS s e))))],3⟩) (zqu (fun q=>bif Nat.beq q 2 then 3 else q) (by repeat (first|exact trivial|refine ⟨⟨?_,?_,?_⟩,?_⟩|rfl|exact congrArg (fun q=>some (AO.row _ _ q)) (by first|rfl|(simp;done)|(simp [eInt];done)|(simp [eLk];done)))) rfl) ?_
 exact W.ret (finM rfl rfl rfl rfl rfl)
def nxK (evs:List Ev):Nat→Int×Bool×Bool
 | 0=>(0,false,false)
 | k+1=>match evs[k]? with
  | some e=>nxS (nxK evs k) e
  | none=>nxK evs k
theorem nxK_at {evs:List Ev} {k:Nat} (h:k<evs.length):nxK evs (k+1)=nxS (nxK evs k) evs[k]:=by
 show (match evs[k]? with|some e=>_|none=>_)=_
 rw [List.getElem?_eq_getElem h]
theorem nxK_eq {evs:List Ev} (hz:∀ k (h:k<evs.length),evs[k].val=0→evs[k].dot=false∧evs[k].three=false):∀ k,k≤evs.length→nxK evs k=sgF evs k
 | 0,_=>rfl
 | k+1,h=>by
  have hk:k<evs.length:=by omega
  rw [nxK_at hk,sgF_at hk,nxK_eq hz k (by omega)]
  unfold nxS
  by_cases hv:evs[k].val=0
  ·rw [if_pos hv,if_pos ⟨hv,hz k hk hv⟩]
  ·rw [if_neg hv,if_neg (fun h=>hv h.1)]
theorem mapped_FS (evs:List Ev) (hn:evs.length≤1000) (h20:∀ k (h:k < evs.length),evs[k].stops.length≤20) (hz:∀ k (h:k < evs.length),evs[k].val=0→evs[k].dot=false∧evs[k].three=false) :
  Cto truB 0 Tryz.prog 63 [.ls 6 (evs.map eEv),.fn 90 [.pt 1 0 0]] [(0,.box 39 (eSig (0,false,false))),(1,.box 123 [.fn 60 [.pt 0 0 0]])] 2 (.ls 6 ((plN evs evs.length).map eEv))
   [(0,.box 39 (eSig (sgF evs evs.length))),(1,.box 123 [.fn 60 [.pt 0 0 0]])] 2:=by
 have hK:=nxK_eq hz
 refine Cto.intro truS Tryz.func63 rfl Tryz.ntmps63 (Nat.le_of_ble_eq_true rfl) rfl fun w0 F0 fp pg hB=>?_
 dsimp only [number,Nat.reduceAdd]
 repeat (first|refine W.go rfl ?_|refine WL.nil ?_|refine WL.ev rfl ?_|refine WL.ar rfl rfl (by unfold I64;omega) ?_|refine WL.len rfl rfl zql ?_|refine WL.idx rfl rfl zqo zqm ?_|refine WL.app rfl rfl rfl zqs ?_|refine W.condT rfl ?_|refine W.condF rfl ?_)
 (first|refine (?_:W _ _ _ _ _)|refine (?_:WL _ _ _ _ _ _)|skip)
 try dsimp only [St.put,Nat.reduceAdd]
 first|refine W.tr (Tr.nil (t:=5) 44 6 rfl rfl) ?_|refine WL.tr (Tr.nil (t:=5) 44 6 rfl rfl) ?_
 dsimp only [St.put,St.new,St.upd,Nat.reduceAdd]
 repeat (first|refine W.go rfl ?_|refine WL.nil ?_|refine WL.ev rfl ?_|refine WL.ar rfl rfl (by unfold I64;omega) ?_|refine WL.len rfl rfl zql ?_|refine WL.idx rfl rfl zqo zqm ?_|refine WL.app rfl rfl rfl zqs ?_|refine W.condT rfl ?_|refine W.condF rfl ?_)
 (first|refine (?_:W _ _ _ _ _)|refine (?_:WL _ _ _ _ _ _)|skip)
 try dsimp only [St.put,Nat.reduceAdd]
 refine W.loop (fun k:Nat=>k≤evs.length) (fun k=>⟨[(1,.fn 90 [.pt 1 0 0]),(5,.sl 2),(8,.ls 6 (evs.map eEv)),(9,.sc (.int .i64 evs.length)),(10,.sc (.int .i64 k))],[(0,.box 39 (eSig (sgF evs k))),(1,.box 123 [.fn 60 [.pt 0 0 0]]),(2,.row 44 6 ((plN evs k).map eEv))],3⟩) (fun k=>evs.length - k) 0 zqo (zqt id) fun k hk=>?_
 have hl:=plN_length hk
 by_cases hlt:k < evs.length
 ·have hC:=rewr1_FS evs[k] (sgF evs k) (by have:=h20 k hlt;omega)
  have hnx:nxS (sgF evs k) evs[k]=sgF evs (k+1):=by rw [← hK k hk,← hK (k+1) (by omega),nxK_at hlt]
  have hrow:(plN evs k).map eEv++[eEv (sgW evs[k] (sgF evs (k+1)))]=(plN evs (k+1)).map eEv:=by rw [plN_at hlt];simp
  rw [hnx] at hC
  obtain ⟨PL,hPL⟩:∃ z,plN evs k=z:=⟨_,rfl⟩
  rw [hPL] at hl hrow ⊢
  obtain ⟨S1,hS1⟩:∃ z,sgF evs (k+1)=z:=⟨_,rfl⟩
  rw [hS1] at hC hrow
  obtain ⟨S0,hS0⟩:∃ z,sgF evs k=z:=⟨_,rfl⟩
  rw [hS0] at hC ⊢
  repeat (first|refine W.gob rfl ?_|refine WL.nil ?_|refine WL.bt rfl rfl rfl zqo ?_|refine WL.bf rfl rfl rfl zqo ?_|refine WL.e1 rfl ?_|refine WL.ar rfl rfl (by unfold I64;omega) ?_|refine WL.len rfl rfl zql ?_|refine WL.idx rfl rfl zqo zqm ?_|refine WL.app rfl rfl rfl zqs ?_|refine W.condT rfl ?_|refine W.condF rfl ?_)
  (first|refine (?_:W _ _ _ _ _)|refine (?_:WL _ _ _ _ _ _)|skip)
  try dsimp only [St.put,Nat.reduceAdd]
  refine WL.cto (truH _) [0,1] rfl rfl (callF Tryz.func90 rfl rfl) hC rfl rfl rfl ⟨⟨rfl,rfl,rfl⟩,⟨rfl,rfl,rfl⟩,trivial⟩ rfl rfl rfl rfl ?_
  repeat (first|refine W.go rfl ?_|refine WL.nil ?_|refine WL.ev rfl ?_|refine WL.ar rfl rfl (by unfold I64;omega) ?_|refine WL.len rfl rfl zql ?_|refine WL.idx rfl rfl zqo zqm ?_|refine WL.app rfl rfl rfl zqs ?_|refine W.condT rfl ?_|refine W.condF rfl ?_)
  (first|refine (?_:W _ _ _ _ _)|refine (?_:WL _ _ _ _ _ _)|skip)
  try dsimp only [St.put,Nat.reduceAdd]
  refine ⟨k+1,by omega,by omega,?_⟩
  rw [hS1]
  exact (zqu (fun q=>bif Nat.beq q 2 then 6 else q) (by repeat (first|exact trivial|refine ⟨⟨?_,?_,?_⟩,?_⟩|rfl|exact congrArg (fun q=>some (AO.row _ _ q)) hrow)) rfl)
 ·obtain rfl:k=evs.length:=by omega
  repeat (first|refine W.gob rfl ?_|refine WL.nil ?_|refine WL.bt rfl rfl rfl zqo ?_|refine WL.bf rfl rfl rfl zqo ?_|refine WL.e1 rfl ?_|refine WL.ar rfl rfl (by unfold I64;omega) ?_|refine WL.len rfl rfl zql ?_|refine WL.idx rfl rfl zqo zqm ?_|refine WL.app rfl rfl rfl zqs ?_|refine W.condT rfl ?_|refine W.condF rfl ?_)
  (first|refine (?_:W _ _ _ _ _)|refine (?_:WL _ _ _ _ _ _)|skip)
  try dsimp only [St.put,Nat.reduceAdd]
  refine W.tr (Tr.freeze 2 rfl) ?_
  refine W.tr (σ':=⟨[(4,.ls 6 ((plN evs evs.length).map eEv))],[(0,.box 39 (eSig (sgF evs evs.length))),(1,.box 123 [.fn 60 [.pt 0 0 0]])],2⟩) (zqt id) ?_
  exact W.ret (finM rfl rfl rfl rfl rfl)
theorem copiedIns_FS (cs:List (Int×Int×Bool)) (st:List Int) (h1:cs.length≤64) (h2:st.length≤64):Ctr Tryz.prog 62 [.ag (eIns cs st)] (.ag (eIns cs st)):=by
 refine zqe Tryz.func62 Tryz.ntmps62 fun w0 F0=>?_;dsimp only [St.init,number,Nat.reduceAdd]
 repeat (first|refine W.go rfl ?_)
 (first|refine (?_:W _ _ _ _ _)|refine (?_:WL _ _ _ _ _ _)|skip)
 try dsimp only [St.put,Nat.reduceAdd]
 refine W.of_wa zqk ?_
 refine WA.ds [false,false,false,false,false,false,false,true] [0] zqk zqk ⟨rfl,trivial⟩ ?_
 refine DSK.st rfl rfl ?_
 refine DSK.st rfl rfl ?_
 refine DSK.v0 rfl (WV.call rfl (callF Tryz.func91 rfl rfl) rfl rfl (clnCrs_FS cs zqo)) ?_
 refine DSK.st rfl rfl ?_
 refine DSK.st rfl rfl ?_
 refine DSK.v0 rfl (WV.call rfl (callF Tryz.func92 rfl rfl) rfl rfl (clnInt_FS st zqo)) ?_
 refine DSK.st rfl rfl ?_
 refine DSK.sto rfl rfl rfl rfl rfl rfl rfl rfl rfl rfl rfl rfl rfl rfl ⟨rfl,trivial⟩ ?_
 refine DSK.nil ?_
 repeat (first|refine W.go rfl ?_)
 (first|refine (?_:W _ _ _ _ _)|refine (?_:WL _ _ _ _ _ _)|skip)
 try dsimp only [St.put,Nat.reduceAdd]
 exact W.ret (fin_cell rfl rfl rfl rfl rfl rfl rfl rfl)
theorem rewritten_FS (p:Pce) (hO:PcOk p) :
  Cto truB 0 Tryz.prog 59 [ePce p,.fn 60 [.pt 0 0 0]] [(0,.box 39 (eSig (0,false,false)))] 1 (.tu [ePce (plP p),.sc (.int .i64 (pceE p))])
   [(0,.box 39 (eSig (if pceE p=0 then sgF p.evs p.evs.length else (0,false,false)))),(1,.box 47 (ePce (plP p)).cells)] 2:=by
 have hC:=pCheck_FS p hO
 by_cases h0:pceE p=0
 rotate_left
 ·have e1:plP p=noP:=if_neg h0
  rw [e1,if_neg h0]
  obtain ⟨E,hE⟩:∃ E,pceE p=E:=⟨_,rfl⟩
  rw [hE] at hC h0 ⊢
  refine Cto.intro truS Tryz.func59 rfl Tryz.ntmps59 (Nat.le_of_ble_eq_true rfl) rfl fun w0 F0 fp pg hB=>?_
  dsimp only [number,Nat.reduceAdd]
  repeat (first|refine W.go rfl ?_|refine WL.nil ?_|refine WL.ev rfl ?_|refine W.condT rfl ?_|refine W.condF rfl ?_)
  (first|refine (?_:W _ _ _ _ _)|refine (?_:WL _ _ _ _ _ _)|skip)
  try dsimp only [St.put,Nat.reduceAdd]
  refine WL.vl rfl (zqc Tryz.func26 hC) ?_
  repeat (first|refine W.gob rfl ?_|refine WL.nil ?_|refine WL.nt rfl rfl rfl zqo ?_|refine WL.nf rfl rfl rfl zqo ?_|refine WL.e1 rfl ?_|refine W.condT rfl ?_|refine W.condF rfl ?_)
  (first|refine (?_:W _ _ _ _ _)|refine (?_:WL _ _ _ _ _ _)|skip)
  try dsimp only [St.put,Nat.reduceAdd]
  refine W.tr (Tr.nilC 3 0 3 rfl rfl rfl) ?_
  refine W.tr (Tr.nilC 3 1 1 rfl rfl rfl) ?_
  refine W.tr (Tr.nilC 3 2 6 rfl rfl rfl) ?_
  refine W.tr (σ':=⟨[(4,.pt 1 0 0),(5,.sc (.int .i64 E))],[(0,.box 39 (eSig (0,false,false))),(1,.box 47 (ePce noP).cells)],2⟩) (zqu (fun q=>bif Nat.beq q 1 then 3 else q) (by repeat (first|exact trivial|refine ⟨⟨?_,?_,?_⟩,?_⟩|rfl|exact congrArg (fun q=>some (AO.row _ _ q)) (by first|rfl|(simp;done)|(simp [eInt];done)|(simp [eLk];done)))) rfl) ?_
  exact W.ret (finM rfl rfl rfl rfl rfl)
 have e1:plP p=⟨p.cs,p.st,plN p.evs p.evs.length⟩:=if_pos h0
 have hz:∀ k (h:k < p.evs.length),p.evs[k].val=0→p.evs[k].dot=false∧p.evs[k].three=false:=fun k h hv=>by
  have hok:=(evOk_of h0 h).sg
  unfold sgOk at hok
  rw [hv] at hok
  simpa using hok
 have hn3:=hO.n3
 have hM:=mapped_FS p.evs zqo hO.n4 hz
 have hI:=copiedIns_FS p.cs p.st hO.n1 hO.n2
 rw [e1,if_pos h0,h0]
 rw [h0] at hC
 refine Cto.intro truS Tryz.func59 rfl Tryz.ntmps59 (Nat.le_of_ble_eq_true rfl) rfl fun w0 F0 fp pg hB=>?_
 dsimp only [number,Nat.reduceAdd]
 repeat (first|refine W.go rfl ?_|refine WL.nil ?_|refine WL.ev rfl ?_|refine W.condT rfl ?_|refine W.condF rfl ?_)
 (first|refine (?_:W _ _ _ _ _)|refine (?_:WL _ _ _ _ _ _)|skip)
 try dsimp only [St.put,Nat.reduceAdd]
 refine WL.vl rfl (zqc Tryz.func26 hC) ?_
 repeat (first|refine W.gob rfl ?_|refine WL.nil ?_|refine WL.nt rfl rfl rfl zqo ?_|refine WL.nf rfl rfl rfl zqo ?_|refine WL.e1 rfl ?_|refine W.condT rfl ?_|refine W.condF rfl ?_)
 (first|refine (?_:W _ _ _ _ _)|refine (?_:WL _ _ _ _ _ _)|skip)
 try dsimp only [St.put,Nat.reduceAdd]
 refine WL.vl rfl (zqc Tryz.func62 hI) ?_
 repeat (first|refine W.go rfl ?_|refine WL.nil ?_|refine WL.ev rfl ?_|refine W.condT rfl ?_|refine W.condF rfl ?_)
 (first|refine (?_:W _ _ _ _ _)|refine (?_:WL _ _ _ _ _ _)|skip)
 try dsimp only [St.put,Nat.reduceAdd]
 refine WL.vl rfl (WV.mkf rfl rfl) ?_
 refine WL.cto (truH _) [0,2] rfl rfl (callF Tryz.func63 rfl rfl) hM rfl rfl rfl ⟨⟨rfl,rfl,rfl⟩,⟨rfl,rfl,rfl⟩,trivial⟩ rfl rfl rfl rfl ?_
 repeat (first|refine W.go rfl ?_|refine WL.nil ?_|refine WL.ev rfl ?_|refine W.condT rfl ?_|refine W.condF rfl ?_)
 (first|refine (?_:W _ _ _ _ _)|refine (?_:WL _ _ _ _ _ _)|skip)
 try dsimp only [St.put,Nat.reduceAdd]
 refine W.tr (σ':=⟨[(4,.pt 1 0 0),(5,.sc (.int .i64 0))],[(0,.box 39 (eSig (sgF p.evs p.evs.length))),(1,.box 47 (ePce ⟨p.cs,p.st,plN p.evs p.evs.length⟩).cells)],2⟩) (zqu (fun q=>bif Nat.beq q 1 then 3 else q) (by repeat (first|exact trivial|refine ⟨⟨?_,?_,?_⟩,?_⟩|rfl|exact congrArg (fun q=>some (AO.row _ _ q)) (by first|rfl|(simp;done)|(simp [eInt];done)|(simp [eLk];done)))) rfl) ?_
 exact W.ret (finM rfl rfl rfl rfl rfl)
theorem pPlain_FS (p:Pce) (hO:PcOk p):Ctr Tryz.prog 29 [ePce p] (.tu [ePce (plP p),.sc (.int .i64 (pceE p))]):=by
 have hR:=rewritten_FS p hO
 refine zqe Tryz.func29 Tryz.ntmps29 fun w0 F0=>?_;dsimp only [St.init,number,Nat.reduceAdd]
 repeat (first|refine W.go rfl ?_|refine WL.ev rfl ?_)
 (first|refine (?_:W _ _ _ _ _)|refine (?_:WL _ _ _ _ _ _)|skip)
 try dsimp only [St.put,Nat.reduceAdd]
 refine WL.vl rfl (WV.mkf rfl rfl) ?_
 refine WL.cto (truH _) [2] rfl rfl (callF Tryz.func59 rfl rfl) hR rfl rfl rfl ⟨⟨rfl,rfl,rfl⟩,trivial⟩ rfl rfl rfl rfl ?_
 repeat (first|refine W.go rfl ?_|refine WL.ev rfl ?_)
 (first|refine (?_:W _ _ _ _ _)|refine (?_:WL _ _ _ _ _ _)|skip)
 try dsimp only [St.put,Nat.reduceAdd]
 exact W.ret (finN rfl rfl rfl rfl)
end Go.Proofs.YtockempedekkkaaGreatDoor
