/- Whether two events are equal in all fields: program and reference. -/
import Derived.Test.YtgelfflighgajaaGreatDoorVaPOq
import Derived.Test.YtgelfflighgajaaGreatDoorCoAOq
set_option maxHeartbeats 8000000
set_option maxRecDepth 100000
set_option linter.unusedVariables false
set_option linter.unusedSimpArgs false
namespace Go.Proofs.YtgelfflighgajaaGreatDoor
section
open Go.RowKit
theorem eqs_sign (x:Int) (a b:Bool) (y:Int) (c d:Bool) (w:World):(Op.equalIn 10000 33 (.agg #[.int .i64 x,.bool a,.bool b]) (.agg #[.int .i64 y,.bool c,.bool d])).run Tryz.prog w=.ok (decide (x=y∧a=c∧b=d)) w:=by
 rw [run_equalIn_agg w 9999 _ _ _ zqk zqk]
 refine Eq.trans (congrArg (fun fs=>Sem.run _ (Op.eqFields 9999 _ _ fs) w) (rfl:(Tryz.prog.fieldsOf 33).toList=[_,_,_])) ?_
 by_cases h1:x=y
 ·subst h1
  cases a<;>cases b<;>cases c<;>cases d<;>simp [go_sem]
 ·simp [go_sem,h1]
theorem clnStp_FS (l:List Stp) (h:l.length≤100000):Ctr Tryz.prog 51 [.ls 5 (l.map eStp)] (.ls 5 (l.map eStp)):=by
 refine zqe Tryz.func51 Tryz.ntmps51 fun w0 F0=>?_;dsimp only [St.init,number,Nat.reduceAdd]
 repeat refine W.go rfl ?_
 refine (?_:WL _ _ _ _ _ _)
 refine WL.nlq rfl rfl fun b hb=>?_
 cases b with
 | true =>
  have e:=hb rfl
  repeat (first|refine W.go rfl ?_|refine WL.nil ?_|refine W.condT rfl ?_)
  refine (?_:W _ _ _ _ _)
  refine W.tr (Tr.nilR (t:=2) 5 rfl) ?_
  rw [e]
  exact W.ret zqr
 | false =>
  repeat (first|refine W.go rfl ?_|refine WL.nil ?_|refine WL.ev rfl ?_|refine WL.app rfl rfl rfl zqs ?_|refine W.condF rfl ?_)
  refine (?_:W _ _ _ _ _)
  refine W.tr (Tr.freeze 1 rfl) ?_
  exact W.ret zqr
theorem clnCrs_FS (l:List (Int×Int×Bool)) (h:l.length≤100000):Ctr Tryz.prog 204 [.ls 3 (l.map eCrs)] (.ls 3 (l.map eCrs)):=by
 refine zqe Tryz.func204 Tryz.ntmps204 fun w0 F0=>?_;dsimp only [St.init,number,Nat.reduceAdd]
 repeat refine W.go rfl ?_
 refine (?_:WL _ _ _ _ _ _)
 refine WL.nlq rfl rfl fun b hb=>?_
 cases b with
 | true =>
  have e:=hb rfl
  repeat (first|refine W.go rfl ?_|refine WL.nil ?_|refine W.condT rfl ?_)
  refine (?_:W _ _ _ _ _)
  refine W.tr (Tr.nilR (t:=2) 3 rfl) ?_
  rw [e]
  exact W.ret zqr
 | false =>
  repeat (first|refine W.go rfl ?_|refine WL.nil ?_|refine WL.ev rfl ?_|refine WL.app rfl rfl rfl zqs ?_|refine W.condF rfl ?_)
  refine (?_:W _ _ _ _ _)
  refine W.tr (Tr.freeze 1 rfl) ?_
  exact W.ret zqr
theorem clnInt_FS (l:List Int) (h:l.length≤100000):Ctr Tryz.prog 205 [.ls 1 (l.map eInt)] (.ls 1 (l.map eInt)):=by
 refine zqe Tryz.func205 Tryz.ntmps205 fun w0 F0=>?_;dsimp only [St.init,number,Nat.reduceAdd]
 repeat refine W.go rfl ?_
 refine (?_:WL _ _ _ _ _ _)
 refine WL.nlq rfl rfl fun b hb=>?_
 cases b with
 | true =>
  have e:=hb rfl
  repeat (first|refine W.go rfl ?_|refine WL.nil ?_|refine W.condT rfl ?_)
  refine (?_:W _ _ _ _ _)
  refine W.tr (Tr.nilR (t:=2) 1 rfl) ?_
  rw [e]
  exact W.ret zqr
 | false =>
  repeat (first|refine W.go rfl ?_|refine WL.nil ?_|refine WL.ev rfl ?_|refine WL.app rfl rfl rfl zqs ?_|refine W.condF rfl ?_)
  refine (?_:W _ _ _ _ _)
  refine W.tr (Tr.freeze 1 rfl) ?_
  exact W.ret zqr
theorem pCopied_FS (e:Ev) (h:e.stops.length≤100000):Ctr Tryz.prog 154 [.ag (eEv e)] (.ag (eEv e)):=by
 refine zqe Tryz.func154 Tryz.ntmps154 fun w0 F0=>?_;dsimp only [St.init,number,Nat.reduceAdd]
 repeat refine W.go rfl ?_
 refine (?_:WL _ _ _ _ _ _)
 refine WL.vl rfl (WV.call rfl (callF Tryz.func51 rfl rfl) rfl rfl (clnStp_FS e.stops h)) ?_
 repeat (first|refine W.go rfl ?_|refine WL.ev rfl ?_)
 refine (?_:W _ _ _ _ _)
 exact W.ret (fin_cell rfl rfl rfl rfl rfl rfl rfl rfl)
def nxS(s:Int×Bool×Bool)(e:Ev):Int×Bool×Bool:=if e.val=0∧e.dot=false∧e.three=false then s else(e.val,e.dot,e.three)
theorem plain1_FS (e:Ev) (s:Int×Bool×Bool) :
  Cto truB 0 Tryz.prog 88 [.ag (eEv e),.pt 0 0 0] [(0,.box 33 (eSig s))] 1 (.ag (eEv (sgW e (nxS s e)))) [(0,.box 33 (eSig (nxS s e))),(1,.box 36 (eEv (sgW e (nxS s e))))] 2:=by
 refine Cto.intro truS Tryz.func88 rfl Tryz.ntmps88 (Nat.le_of_ble_eq_true rfl) rfl fun w0 F0 fp pg hB=>?_
 dsimp only [number,Nat.reduceAdd]
 obtain ⟨n,hn⟩:∃ n,nxS s e=n:=⟨_,rfl⟩
 have hn0:=hn
 unfold nxS at hn0
 rw [hn]
 repeat refine W.go rfl ?_
 refine (?_:WL _ _ _ _ _ _)
 refine WL.vl rfl (WV.ane rfl rfl rfl rfl rfl zqk (fun w=>eqs_sign _ _ _ _ _ _ w)) ?_
 repeat refine WL.nil ?_
 refine (?_:W _ _ _ _ _)
 (refine W.cond rfl (fun hif=>?_) (fun hif=>?_)<;>(try simp only [decide_eq_true_eq,decide_eq_false_iff_not,Int.not_lt,Int.not_le,Bool.not_eq_true',Bool.not_eq_false'] at hif))
 ·rw [if_neg (by simpa using hif)] at hn0
  subst hn0
  repeat refine W.go rfl ?_
  refine (?_:W _ _ _ _ _)
  refine W.tr (σ':=⟨[(3,.pt 1 0 0)],[(0,.box 33 (eSig (e.val,e.dot,e.three))),(1,.box 36 (eEv (sgW e (e.val,e.dot,e.three))))],2⟩) (zqu (fun q=>bif Nat.beq q 1 then 2 else q) (by repeat (first|exact trivial|refine ⟨⟨?_,?_,?_⟩,?_⟩|rfl|exact congrArg (fun q=>some (AO.row _ _ q)) (by first|rfl|(simp;done)|(simp [eInt];done)|(simp [eLk];done)))) rfl) ?_
  exact W.ret (finM rfl rfl rfl rfl rfl)
 ·rw [if_pos (by simpa using hif)] at hn0
  subst hn0
  repeat refine W.go rfl ?_
  refine (?_:W _ _ _ _ _)
  refine W.tr (σ':=⟨[(3,.pt 1 0 0)],[(0,.box 33 (eSig s)),(1,.box 36 (eEv (sgW e s)))],2⟩) (zqu (fun q=>bif Nat.beq q 1 then 2 else q) (by repeat (first|exact trivial|refine ⟨⟨?_,?_,?_⟩,?_⟩|rfl|exact congrArg (fun q=>some (AO.row _ _ q)) (by first|rfl|(simp;done)|(simp [eInt];done)|(simp [eLk];done)))) rfl) ?_
  exact W.ret (finM rfl rfl rfl rfl rfl)
theorem rewr1_FS (e:Ev) (s:Int×Bool×Bool) (h:e.stops.length≤100000) :
  Cto truB 0 Tryz.prog 153 [.ag (eEv e),.pt 1 0 0] [(0,.box 33 (eSig s)),(1,.box 157 [.fn 88 [.pt 0 0 0]])] 2 (.ag (eEv (sgW e (nxS s e))))
   [(0,.box 33 (eSig (nxS s e))),(1,.box 157 [.fn 88 [.pt 0 0 0]]),(2,.box 36 (eEv (sgW e (nxS s e))))] 3:=by
 refine Cto.intro truS Tryz.func153 rfl Tryz.ntmps153 (Nat.le_of_ble_eq_true rfl) rfl fun w0 F0 fp pg hB=>?_
 dsimp only [number,Nat.reduceAdd]
 repeat refine W.go rfl ?_
 refine (?_:W _ _ _ _ _)
 refine W.of_wa zqk ?_
 refine WA.ds [false,false,false,true,true] [1,2] zqk zqk ⟨rfl,rfl,trivial⟩ ?_
 refine DSK.st rfl rfl ?_
 refine DSK.st rfl rfl ?_
 refine DSK.v0 rfl (WV.call rfl (callF Tryz.func154 rfl rfl) rfl rfl (pCopied_FS e h)) ?_
 refine DSK.ct (truH _) [0] rfl rfl (callF Tryz.func88 rfl rfl) (plain1_FS e s) rfl rfl rfl ⟨⟨rfl,rfl,rfl⟩,trivial⟩ rfl rfl rfl rfl ⟨rfl,rfl,trivial⟩ ?_
 refine DSK.sto rfl rfl rfl rfl rfl rfl rfl rfl rfl rfl rfl rfl rfl rfl ⟨rfl,rfl,trivial⟩ ?_
 refine DSK.nil ?_
 refine (?_:W _ _ _ _ _)
 refine W.tr (σ':=⟨[(3,.pt 2 0 0)],[(0,.box 33 (eSig (nxS s e))),(1,.box 157 [.fn 88 [.pt 0 0 0]]),(2,.box 36 (eEv (sgW e (nxS s e))))],3⟩) (zqu (fun q=>bif Nat.beq q 2 then 3 else q) (by repeat (first|exact trivial|refine ⟨⟨?_,?_,?_⟩,?_⟩|rfl|exact congrArg (fun q=>some (AO.row _ _ q)) (by first|rfl|(simp;done)|(simp [eInt];done)|(simp [eLk];done)))) rfl) ?_
 exact W.ret (finM rfl rfl rfl rfl rfl)
def nxK (evs:List Ev):Nat→Int×Bool×Bool
 | 0=>(0,false,false)
 | k+1=>match evs[k]? with
  | some e=>nxS (nxK evs k) e
  | none=>nxK evs k
theorem nxK_at {evs:List Ev} {k:Nat} (h:k<evs.length):nxK evs (k+1)=nxS (nxK evs k) evs[k]:=by
 show (match evs[k]? with|some e=>_|none=>_)=_
 rw [List.getElem?_eq_getElem h]
theorem nxK_eq {evs:List Ev} (hz:∀ k (h:k<evs.length),evs[k].val=0→evs[k].dot=false∧evs[k].three=false):∀ k,k≤evs.length→nxK evs k=sgF evs k
 | 0,_=>rfl
 | k+1,h=>by
  have hk:k<evs.length:=by omega
  rw [nxK_at hk,sgF_at hk,nxK_eq hz k (by omega)]
  unfold nxS
  by_cases hv:evs[k].val=0
  ·rw [if_pos hv,if_pos ⟨hv,hz k hk hv⟩]
  ·rw [if_neg hv,if_neg (fun h=>hv h.1)]
theorem mapped_FS (evs:List Ev) (hn:evs.length≤1000) (h20:∀ k (h:k < evs.length),evs[k].stops.length≤20) (hz:∀ k (h:k < evs.length),evs[k].val=0→evs[k].dot=false∧evs[k].three=false) :
  Cto truB 0 Tryz.prog 152 [.ls 6 (evs.map eEv),.fn 153 [.pt 1 0 0]] [(0,.box 33 (eSig (0,false,false))),(1,.box 157 [.fn 88 [.pt 0 0 0]])] 2 (.ls 6 ((plN evs evs.length).map eEv))
   [(0,.box 33 (eSig (sgF evs evs.length))),(1,.box 157 [.fn 88 [.pt 0 0 0]])] 2:=by
 have hK:=nxK_eq hz
 refine Cto.intro truS Tryz.func152 rfl Tryz.ntmps152 (Nat.le_of_ble_eq_true rfl) rfl fun w0 F0 fp pg hB=>?_
 dsimp only [number,Nat.reduceAdd]
 repeat (first|refine W.go rfl ?_|refine WL.ev rfl ?_|refine WL.len rfl rfl zql ?_)
 refine (?_:W _ _ _ _ _)
 first|refine W.tr (Tr.nil (t:=5) 36 6 rfl rfl) ?_|refine WL.tr (Tr.nil (t:=5) 36 6 rfl rfl) ?_
 dsimp only [St.put,St.new,St.upd,Nat.reduceAdd]
 refine (?_:W _ _ _ _ _)
 refine W.loop (fun k:Nat=>k≤evs.length) (fun k=>⟨[(1,.fn 153 [.pt 1 0 0]),(5,.sl 2),(8,.ls 6 (evs.map eEv)),(9,.sc (.int .i64 evs.length)),(10,.sc (.int .i64 k))],[(0,.box 33 (eSig (sgF evs k))),(1,.box 157 [.fn 88 [.pt 0 0 0]]),(2,.row 36 6 ((plN evs k).map eEv))],3⟩) (fun k=>evs.length - k) 0 zqo (zqt id) fun k hk=>?_
 have hl:=plN_length hk
 by_cases hlt:k < evs.length
 ·have hC:=rewr1_FS evs[k] (sgF evs k) (by have:=h20 k hlt;omega)
  have hnx:nxS (sgF evs k) evs[k]=sgF evs (k+1):=by rw [← hK k hk,← hK (k+1) (by omega),nxK_at hlt]
  have hrow:(plN evs k).map eEv++[eEv (sgW evs[k] (sgF evs (k+1)))]=(plN evs (k+1)).map eEv:=by rw [plN_at hlt];simp
  rw [hnx] at hC
  obtain ⟨PL,hPL⟩:∃ z,plN evs k=z:=⟨_,rfl⟩
  rw [hPL] at hl hrow ⊢
  obtain ⟨S1,hS1⟩:∃ z,sgF evs (k+1)=z:=⟨_,rfl⟩
  rw [hS1] at hC hrow
  obtain ⟨S0,hS0⟩:∃ z,sgF evs k=z:=⟨_,rfl⟩
  rw [hS0] at hC ⊢
  repeat (first|refine W.gob rfl ?_|refine WL.nil ?_|refine WL.bt rfl rfl rfl zqo ?_|refine WL.e1 rfl ?_|refine WL.idx rfl rfl zqo zqm ?_|refine W.condT rfl ?_)
  refine (?_:WL _ _ _ _ _ _)
  refine WL.cto (truH _) [0,1] rfl rfl (callF Tryz.func153 rfl rfl) hC rfl rfl rfl ⟨⟨rfl,rfl,rfl⟩,⟨rfl,rfl,rfl⟩,trivial⟩ rfl rfl rfl rfl ?_
  repeat (first|refine W.go rfl ?_|refine WL.ev rfl ?_|refine WL.ar rfl rfl (by unfold I64;omega) ?_|refine WL.app rfl rfl rfl zqs ?_)
  refine ⟨k+1,by omega,by omega,?_⟩
  rw [hS1]
  exact (zqu (fun q=>bif Nat.beq q 2 then 6 else q) (by repeat (first|exact trivial|refine ⟨⟨?_,?_,?_⟩,?_⟩|rfl|exact congrArg (fun q=>some (AO.row _ _ q)) hrow)) rfl)
 ·obtain rfl:k=evs.length:=by omega
  repeat (first|refine W.gob rfl ?_|refine WL.nil ?_|refine WL.bf rfl rfl rfl zqo ?_|refine WL.e1 rfl ?_|refine W.condF rfl ?_)
  refine (?_:W _ _ _ _ _)
  refine W.tr (Tr.freeze 2 rfl) ?_
  refine W.tr (σ':=⟨[(4,.ls 6 ((plN evs evs.length).map eEv))],[(0,.box 33 (eSig (sgF evs evs.length))),(1,.box 157 [.fn 88 [.pt 0 0 0]])],2⟩) (zqt id) ?_
  exact W.ret (finM rfl rfl rfl rfl rfl)
theorem copiedIns_FS (cs:List (Int×Int×Bool)) (st:List Int) (h1:cs.length≤64) (h2:st.length≤64):Ctr Tryz.prog 151 [.ag (eIns cs st)] (.ag (eIns cs st)):=by
 refine zqe Tryz.func151 Tryz.ntmps151 fun w0 F0=>?_;dsimp only [St.init,number,Nat.reduceAdd]
 repeat refine W.go rfl ?_
 refine (?_:W _ _ _ _ _)
 refine W.of_wa zqk ?_
 refine WA.ds [false,false,false,false,false,false,false,true] [0] zqk zqk ⟨rfl,trivial⟩ ?_
 refine DSK.st rfl rfl ?_
 refine DSK.st rfl rfl ?_
 refine DSK.v0 rfl (WV.call rfl (callF Tryz.func204 rfl rfl) rfl rfl (clnCrs_FS cs zqo)) ?_
 refine DSK.st rfl rfl ?_
 refine DSK.st rfl rfl ?_
 refine DSK.v0 rfl (WV.call rfl (callF Tryz.func205 rfl rfl) rfl rfl (clnInt_FS st zqo)) ?_
 refine DSK.st rfl rfl ?_
 refine DSK.sto rfl rfl rfl rfl rfl rfl rfl rfl rfl rfl rfl rfl rfl rfl ⟨rfl,trivial⟩ ?_
 refine DSK.nil ?_
 refine (?_:W _ _ _ _ _)
 exact W.ret (fin_cell rfl rfl rfl rfl rfl rfl rfl rfl)
theorem rewritten_FS (p:Pce) (hO:PcOk p) :
  Cto truB 0 Tryz.prog 87 [ePce p,.fn 88 [.pt 0 0 0]] [(0,.box 33 (eSig (0,false,false)))] 1 (.tu [ePce (plP p),.sc (.int .i64 (pceE p))])
   [(0,.box 33 (eSig (if pceE p=0 then sgF p.evs p.evs.length else (0,false,false)))),(1,.box 28 (ePce (plP p)).cells)] 2:=by
 have hC:=pCheck_FS p hO
 by_cases h0:pceE p=0
 rotate_left
 ·have e1:plP p=noP:=if_neg h0
  rw [e1,if_neg h0]
  obtain ⟨E,hE⟩:∃ E,pceE p=E:=⟨_,rfl⟩
  rw [hE] at hC h0 ⊢
  refine Cto.intro truS Tryz.func87 rfl Tryz.ntmps87 (Nat.le_of_ble_eq_true rfl) rfl fun w0 F0 fp pg hB=>?_
  dsimp only [number,Nat.reduceAdd]
  repeat refine W.go rfl ?_
  refine (?_:WL _ _ _ _ _ _)
  refine WL.vl rfl (zqc Tryz.func52 hC) ?_
  repeat (first|refine W.gob rfl ?_|refine WL.nil ?_|refine WL.nt rfl rfl rfl zqo ?_|refine WL.e1 rfl ?_|refine W.condT rfl ?_)
  refine (?_:W _ _ _ _ _)
  refine W.tr (Tr.nilC 3 0 3 rfl rfl rfl) ?_
  refine W.tr (Tr.nilC 3 1 1 rfl rfl rfl) ?_
  refine W.tr (Tr.nilC 3 2 6 rfl rfl rfl) ?_
  refine W.tr (σ':=⟨[(4,.pt 1 0 0),(5,.sc (.int .i64 E))],[(0,.box 33 (eSig (0,false,false))),(1,.box 28 (ePce noP).cells)],2⟩) (zqu (fun q=>bif Nat.beq q 1 then 3 else q) (by repeat (first|exact trivial|refine ⟨⟨?_,?_,?_⟩,?_⟩|rfl|exact congrArg (fun q=>some (AO.row _ _ q)) (by first|rfl|(simp;done)|(simp [eInt];done)|(simp [eLk];done)))) rfl) ?_
  exact W.ret (finM rfl rfl rfl rfl rfl)
 have e1:plP p=⟨p.cs,p.st,plN p.evs p.evs.length⟩:=if_pos h0
 have hz:∀ k (h:k < p.evs.length),p.evs[k].val=0→p.evs[k].dot=false∧p.evs[k].three=false:=fun k h hv=>by
  have hok:=(evOk_of h0 h).sg
  unfold sgOk at hok
  rw [hv] at hok
  simpa using hok
 have hn3:=hO.n3
 have hM:=mapped_FS p.evs zqo hO.n4 hz
 have hI:=copiedIns_FS p.cs p.st hO.n1 hO.n2
 rw [e1,if_pos h0,h0]
 rw [h0] at hC
 refine Cto.intro truS Tryz.func87 rfl Tryz.ntmps87 (Nat.le_of_ble_eq_true rfl) rfl fun w0 F0 fp pg hB=>?_
 dsimp only [number,Nat.reduceAdd]
 repeat refine W.go rfl ?_
 refine (?_:WL _ _ _ _ _ _)
 refine WL.vl rfl (zqc Tryz.func52 hC) ?_
 repeat (first|refine W.gob rfl ?_|refine WL.nil ?_|refine WL.nf rfl rfl rfl zqo ?_|refine WL.e1 rfl ?_|refine W.condF rfl ?_)
 refine (?_:WL _ _ _ _ _ _)
 refine WL.vl rfl (zqc Tryz.func151 hI) ?_
 repeat (first|refine W.go rfl ?_|refine WL.ev rfl ?_)
 refine (?_:WL _ _ _ _ _ _)
 refine WL.vl rfl (WV.mkf rfl rfl) ?_
 refine WL.cto (truH _) [0,2] rfl rfl (callF Tryz.func152 rfl rfl) hM rfl rfl rfl ⟨⟨rfl,rfl,rfl⟩,⟨rfl,rfl,rfl⟩,trivial⟩ rfl rfl rfl rfl ?_
 repeat (first|refine W.go rfl ?_|refine WL.ev rfl ?_)
 refine (?_:W _ _ _ _ _)
 refine W.tr (σ':=⟨[(4,.pt 1 0 0),(5,.sc (.int .i64 0))],[(0,.box 33 (eSig (sgF p.evs p.evs.length))),(1,.box 28 (ePce ⟨p.cs,p.st,plN p.evs p.evs.length⟩).cells)],2⟩) (zqu (fun q=>bif Nat.beq q 1 then 3 else q) (by repeat (first|exact trivial|refine ⟨⟨?_,?_,?_⟩,?_⟩|rfl|exact congrArg (fun q=>some (AO.row _ _ q)) (by first|rfl|(simp;done)|(simp [eInt];done)|(simp [eLk];done)))) rfl) ?_
 exact W.ret (finM rfl rfl rfl rfl rfl)
theorem pPlain_FS (p:Pce) (hO:PcOk p):Ctr Tryz.prog 40 [ePce p] (.tu [ePce (plP p),.sc (.int .i64 (pceE p))]):=by
 have hR:=rewritten_FS p hO
 refine zqe Tryz.func40 Tryz.ntmps40 fun w0 F0=>?_;dsimp only [St.init,number,Nat.reduceAdd]
 repeat refine W.go rfl ?_
 refine (?_:WL _ _ _ _ _ _)
 refine WL.vl rfl (WV.mkf rfl rfl) ?_
 refine WL.cto (truH _) [2] rfl rfl (callF Tryz.func87 rfl rfl) hR rfl rfl rfl ⟨⟨rfl,rfl,rfl⟩,trivial⟩ rfl rfl rfl rfl ?_
 repeat refine WL.ev rfl ?_
 refine (?_:W _ _ _ _ _)
 exact W.ret (finN rfl rfl rfl rfl)
end
section
open Go.RowKit
theorem eqs_stp (a b c d e a' b' c' d' e':Int) (w:World):(Op.equalIn 10000 100 (.agg #[.int .i64 a,.int .i64 b,.int .i64 c,.int .i64 d,.int .i64 e]) (.agg #[.int .i64 a',.int .i64 b',.int .i64 c',.int .i64 d',.int .i64 e'])).run Tryz.prog w=.ok (decide ((a,b,c,d,e)=(a',b',c',d',e'))) w:=by
 rw [run_equalIn_agg w 9999 _ _ _ zqk zqk]
 refine Eq.trans (congrArg (fun fs=>Sem.run _ (Op.eqFields 9999 _ _ fs) w) (rfl:(Tryz.prog.fieldsOf 100).toList=[_,_,_,_,_])) ?_
 by_cases h1:a=a'
 ·subst h1
  by_cases h2:b=b'
  ·subst h2
   by_cases h3:c=c'
   ·subst h3
    by_cases h4:d=d'
    ·subst h4
     by_cases h5:e=e'
     ·subst h5;simp [go_sem]
     ·simp [go_sem,h5]
    ·simp [go_sem,h4]
   ·simp [go_sem,h3]
  ·simp [go_sem,h2]
 ·simp [go_sem,h1]
theorem ext_len' {α:Type} {l m:List α} (h1:l.length=m.length)(h2:∀ k(h:k<l.length),l[k]=m[k]'(by omega)):l=m:=List.ext_getElem h1 fun i a b=>h2 i a
theorem ne_at' {α:Type} {l m:List α} {k:Nat} (h1:k<l.length)(h2:k<m.length)(h:¬ l[k]=m[k]):¬ l=m:=fun e=>by subst e;exact h rfl
theorem eqStp_FS (l m:List Stp) (h1:l.length≤1000) (h2:m.length≤1000):Ctr Tryz.prog 92 [.ls 5 (l.map eStp),.ls 5 (m.map eStp)] (.sc (.bool (decide (l=m)))):=by
 by_cases hl:l.length=m.length
 rotate_left
 ·have e:decide (l=m)=false:=decide_eq_false fun h=>hl (by rw [h])
  rw [e]
  refine zqe Tryz.func92 Tryz.ntmps92 fun w0 F0=>?_;dsimp only [St.init,number,Nat.reduceAdd]
  repeat (first|refine W.gob rfl ?_|refine WL.nil ?_|refine WL.nt rfl rfl rfl zqo ?_|refine WL.e1 rfl ?_|refine WL.len rfl rfl zql ?_|refine W.condT rfl ?_)
  refine (?_:W _ _ _ _ _)
  exact W.ret zqr
 refine zqe Tryz.func92 Tryz.ntmps92 fun w0 F0=>?_;dsimp only [St.init,number,Nat.reduceAdd]
 repeat (first|refine W.gob rfl ?_|refine WL.nil ?_|refine WL.nf rfl rfl rfl zqo ?_|refine WL.e1 rfl ?_|refine WL.len rfl rfl zql ?_|refine W.condF rfl ?_)
 refine (?_:W _ _ _ _ _)
 refine W.loop (fun k:Nat=>k≤l.length∧∀ i (hi:i < k) (h:i < l.length),l[i]=m[i]' zqo) (fun k=>⟨[(0,.ls 5 (l.map eStp)),(1,.ls 5 (m.map eStp)),(12,.sc (.int .i64 l.length)),(13,.sc (.int .i64 k))],[],0⟩) (fun k=>l.length - k) 0 ⟨by omega,fun i hi=>by omega⟩ (zqt id) fun k hk=>?_
 obtain ⟨hk,hgood⟩:=hk
 by_cases hlt:k < l.length
 ·have hlt2:k < m.length:=by omega
  by_cases he:l[k]=m[k]
  ·repeat (first|refine W.gob rfl ?_|refine WL.nil ?_|refine WL.bt rfl rfl rfl zqo ?_|refine WL.e1 rfl ?_|refine W.condT rfl ?_)
   refine (?_:W _ _ _ _ _)
   refine W.drawK zqk zqk ?_
   repeat (first|refine DK.st rfl ?_|refine DK.idx rfl rfl zqo zqm ?_)
   refine DK.vl rfl (WV.ane rfl rfl rfl rfl rfl zqk (fun w=>eqs_stp _ _ _ _ _ _ _ _ _ _ w)) ?_
   repeat refine DK.nil ?_
   have hd:decide ((l[k].1,l[k].2.1,l[k].2.2.1,l[k].2.2.2.1,l[k].2.2.2.2)=(m[k].1,m[k].2.1,m[k].2.2.1,m[k].2.2.2.1,m[k].2.2.2.2))=true:=decide_eq_true he
   rw [hd]
   repeat (first|refine W.go rfl ?_|refine WL.ev rfl ?_|refine WL.ar rfl rfl (by unfold I64;omega) ?_|refine W.condF rfl ?_)
   exact ⟨k+1,⟨by omega,fun i hi h=>by
    by_cases e:i=k
    ·subst e;exact he
    ·exact hgood i zqo h⟩,by omega,(zqt id)⟩
  ·have e:decide (l=m)=false:=decide_eq_false (ne_at' hlt hlt2 he)
   rw [e]
   repeat (first|refine W.gob rfl ?_|refine WL.nil ?_|refine WL.bt rfl rfl rfl zqo ?_|refine WL.e1 rfl ?_|refine W.condT rfl ?_)
   refine (?_:W _ _ _ _ _)
   refine W.drawK zqk zqk ?_
   repeat (first|refine DK.st rfl ?_|refine DK.idx rfl rfl zqo zqm ?_)
   refine DK.vl rfl (WV.ane rfl rfl rfl rfl rfl zqk (fun w=>eqs_stp _ _ _ _ _ _ _ _ _ _ w)) ?_
   repeat refine DK.nil ?_
   have hd:decide ((l[k].1,l[k].2.1,l[k].2.2.1,l[k].2.2.2.1,l[k].2.2.2.2)=(m[k].1,m[k].2.1,m[k].2.2.1,m[k].2.2.2.1,m[k].2.2.2.2))=false:=decide_eq_false he
   rw [hd]
   repeat (first|refine W.go rfl ?_|refine W.condT rfl ?_)
   refine (?_:W _ _ _ _ _)
   exact W.ret zqr
 have hlm:l=m:=ext_len' hl fun q hq=>hgood q zqo hq
 have e:decide (l=m)=true:=decide_eq_true hlm
 rw [e]
 repeat (first|refine W.gob rfl ?_|refine WL.nil ?_|refine WL.bf rfl rfl rfl zqo ?_|refine WL.e1 rfl ?_|refine W.condF rfl ?_)
 refine (?_:W _ _ _ _ _)
 exact W.ret zqr
def evEq (e f:Ev):Bool:=decide (e.bar=f.bar∧(e.val=f.val∧e.dot=f.dot∧e.three=f.three)∧e.tie=f.tie∧e.stops=f.stops)
theorem pEqual_FS (e f:Ev) (he:e.stops.length≤20) (hf:f.stops.length≤20):Ctr Tryz.prog 79 [.ag (eEv e),.ag (eEv f)] (.sc (.bool (evEq e f))):=by
 have hS:=eqStp_FS e.stops f.stops zqo zqo
 refine zqe Tryz.func79 Tryz.ntmps79 fun w0 F0=>?_;dsimp only [St.init,number,Nat.reduceAdd]
 repeat refine W.go rfl ?_
 refine (?_:WL _ _ _ _ _ _)
 refine WL.partG rfl rfl rfl rfl (fun hp=>?_) (fun hp=>?_)
 rotate_left
 ·have hn:evEq e f=false:=decide_eq_false fun h=>by simp [h.1] at hp
  rw [hn]
  repeat (first|refine WL.ev rfl ?_|refine WL.opno rfl rfl rfl rfl rfl rfl rfl ?_)
  refine (?_:W _ _ _ _ _)
  exact W.ret zqr
 have g1:e.bar=f.bar:=by simpa using hp
 repeat (first|refine WL.ev rfl ?_|refine WL.gyes rfl rfl rfl rfl ?_)
 refine (?_:WL _ _ _ _ _ _)
 refine WL.vl rfl (WV.aeq rfl rfl rfl rfl rfl zqk (fun w=>eqs_sign _ _ _ _ _ _ w)) ?_
 repeat refine WL.ev rfl ?_
 refine (?_:WL _ _ _ _ _ _)
 refine WL.partG rfl rfl rfl rfl (fun hp=>?_) (fun hp=>?_)
 rotate_left
 ·have hn:evEq e f=false:=decide_eq_false fun h=>by simp [h.2.1] at hp
  rw [hn]
  repeat (first|refine WL.ev rfl ?_|refine WL.opno rfl rfl rfl rfl rfl rfl rfl ?_)
  refine (?_:W _ _ _ _ _)
  exact W.ret zqr
 have g2:e.val=f.val∧e.dot=f.dot∧e.three=f.three:=by simpa using hp
 repeat (first|refine WL.ev rfl ?_|refine WL.gyes rfl rfl rfl rfl ?_)
 refine (?_:WL _ _ _ _ _ _)
 refine WL.partG rfl rfl rfl rfl (fun hp=>?_) (fun hp=>?_)
 rotate_left
 ·have hn:evEq e f=false:=decide_eq_false fun h=>by simp [h.2.2.1] at hp
  rw [hn]
  repeat (first|refine WL.ev rfl ?_|refine WL.opno rfl rfl rfl rfl rfl rfl rfl ?_)
  refine (?_:W _ _ _ _ _)
  exact W.ret zqr
 have g3:e.tie=f.tie:=by simpa using hp
 repeat (first|refine WL.ev rfl ?_|refine WL.gyes rfl rfl rfl rfl ?_)
 refine (?_:WL _ _ _ _ _ _)
 refine WL.vl rfl (zqc Tryz.func92 hS) ?_
 repeat refine WL.ev rfl ?_
 refine (?_:W _ _ _ _ _)
 refine W.ret (fin1 rfl rfl (sc_bool ?_) rfl)
 unfold evEq
 rw [decide_eq_decide]
 exact ⟨fun h=>⟨g1,g2,g3,h⟩,fun h=>h.2.2.2⟩
theorem rEqual_FS (e f:Ev) (he:e.stops.length≤20) (hf:f.stops.length≤20):Ctr Tryz.prog 55 [.ag (eEv e),.ag (eEv f)] (.sc (.bool (evEq e f))):=by
 refine zqe Tryz.func55 Tryz.ntmps55 fun w0 F0=>?_;dsimp only [St.init,number,Nat.reduceAdd]
 repeat refine W.go rfl ?_
 refine (?_:WL _ _ _ _ _ _)
 refine WL.partG rfl rfl rfl rfl (fun hp=>?_) (fun hp=>?_)
 ·have hn:evEq e f=false:=decide_eq_false fun h=>by simp [h.1] at hp
  rw [hn]
  repeat (first|refine W.go rfl ?_|refine WL.ev rfl ?_|refine WL.opno rfl rfl rfl rfl rfl rfl rfl ?_|refine W.condT rfl ?_)
  refine (?_:W _ _ _ _ _)
  exact W.ret zqr
 have g1:e.bar=f.bar:=by simpa using hp
 repeat (first|refine WL.ev rfl ?_|refine WL.gyes rfl rfl rfl rfl ?_)
 refine (?_:WL _ _ _ _ _ _)
 refine WL.vl rfl (WV.ane rfl rfl rfl rfl rfl zqk (fun w=>eqs_sign _ _ _ _ _ _ w)) ?_
 repeat refine WL.ev rfl ?_
 refine (?_:WL _ _ _ _ _ _)
 refine WL.partG rfl rfl rfl rfl (fun hp=>?_) (fun hp=>?_)
 ·have hn:evEq e f=false:=decide_eq_false fun h=>by simp [h.2.1] at hp
  rw [hn]
  repeat (first|refine W.go rfl ?_|refine WL.ev rfl ?_|refine WL.opno rfl rfl rfl rfl rfl rfl rfl ?_|refine W.condT rfl ?_)
  refine (?_:W _ _ _ _ _)
  exact W.ret zqr
 have g2:e.val=f.val∧e.dot=f.dot∧e.three=f.three:=by simpa using hp
 repeat (first|refine WL.ev rfl ?_|refine WL.gyes rfl rfl rfl rfl ?_)
 refine (?_:WL _ _ _ _ _ _)
 refine WL.partG rfl rfl rfl rfl (fun hp=>?_) (fun hp=>?_)
 ·have hn:evEq e f=false:=decide_eq_false fun h=>by simp [h.2.2.1] at hp
  rw [hn]
  repeat (first|refine W.go rfl ?_|refine WL.ev rfl ?_|refine WL.opno rfl rfl rfl rfl rfl rfl rfl ?_|refine W.condT rfl ?_)
  refine (?_:W _ _ _ _ _)
  exact W.ret zqr
 have g3:e.tie=f.tie:=by simpa using hp
 by_cases hl:e.stops.length=f.stops.length
 rotate_left
 ·have hn:evEq e f=false:=decide_eq_false fun h=>hl (by rw [h.2.2.2])
  rw [hn]
  repeat (first|refine W.gob rfl ?_|refine WL.nil ?_|refine WL.nt rfl rfl rfl zqo ?_|refine WL.e1 rfl ?_|refine WL.gyes rfl rfl rfl rfl ?_|refine WL.len rfl rfl zql ?_|refine W.condT rfl ?_)
  refine (?_:W _ _ _ _ _)
  exact W.ret zqr
 repeat (first|refine W.gob rfl ?_|refine WL.nil ?_|refine WL.nf rfl rfl rfl zqo ?_|refine WL.e1 rfl ?_|refine WL.gyes rfl rfl rfl rfl ?_|refine WL.len rfl rfl zql ?_|refine W.condF rfl ?_)
 refine (?_:W _ _ _ _ _)
 refine W.loop (fun k:Nat=>k≤e.stops.length∧∀ i (hi:i < k) (h:i < e.stops.length),e.stops[i]=f.stops[i]' zqo) (fun k=>⟨[(2,.pt 0 0 0),(3,.pt 1 0 0),(5,.sc (.int .i64 k))],[(0,.box 36 (eEv e)),(1,.box 36 (eEv f))],2⟩) (fun k=>e.stops.length - k) 0 ⟨by omega,fun i hi=>by omega⟩ (zqt id) fun k hk=>?_
 obtain ⟨hk,hgood⟩:=hk
 by_cases hlt:k < e.stops.length
 ·have hlt2:k < f.stops.length:=by omega
  by_cases hee:e.stops[k]=f.stops[k]
  ·repeat (first|refine W.gob rfl ?_|refine WL.nil ?_|refine WL.bt rfl rfl rfl zqo ?_|refine WL.e1 rfl ?_|refine WL.len rfl rfl zql ?_|refine W.condT rfl ?_)
   refine (?_:W _ _ _ _ _)
   refine W.drawK zqk zqk ?_
   repeat (first|refine DK.st rfl ?_|refine DK.idx rfl rfl zqo zqm ?_)
   refine DK.vl rfl (WV.ane rfl rfl rfl rfl rfl zqk (fun w=>eqs_stp _ _ _ _ _ _ _ _ _ _ w)) ?_
   repeat refine DK.nil ?_
   have hd:decide ((e.stops[k].1,e.stops[k].2.1,e.stops[k].2.2.1,e.stops[k].2.2.2.1,e.stops[k].2.2.2.2)=(f.stops[k].1,f.stops[k].2.1,f.stops[k].2.2.1,f.stops[k].2.2.2.1,f.stops[k].2.2.2.2))=true:=decide_eq_true hee
   rw [hd]
   repeat (first|refine W.go rfl ?_|refine WL.ev rfl ?_|refine WL.ar rfl rfl (by unfold I64;omega) ?_|refine W.condF rfl ?_)
   exact ⟨k+1,⟨by omega,fun i hi h=>by
    by_cases e:i=k
    ·subst e;exact hee
    ·exact hgood i zqo h⟩,by omega,(zqt id)⟩
  ·have hn:evEq e f=false:=decide_eq_false fun h=>ne_at' hlt hlt2 hee h.2.2.2
   rw [hn]
   repeat (first|refine W.gob rfl ?_|refine WL.nil ?_|refine WL.bt rfl rfl rfl zqo ?_|refine WL.e1 rfl ?_|refine WL.len rfl rfl zql ?_|refine W.condT rfl ?_)
   refine (?_:W _ _ _ _ _)
   refine W.drawK zqk zqk ?_
   repeat (first|refine DK.st rfl ?_|refine DK.idx rfl rfl zqo zqm ?_)
   refine DK.vl rfl (WV.ane rfl rfl rfl rfl rfl zqk (fun w=>eqs_stp _ _ _ _ _ _ _ _ _ _ w)) ?_
   repeat refine DK.nil ?_
   have hd:decide ((e.stops[k].1,e.stops[k].2.1,e.stops[k].2.2.1,e.stops[k].2.2.2.1,e.stops[k].2.2.2.2)=(f.stops[k].1,f.stops[k].2.1,f.stops[k].2.2.1,f.stops[k].2.2.2.1,f.stops[k].2.2.2.2))=false:=decide_eq_false hee
   rw [hd]
   repeat (first|refine W.go rfl ?_|refine W.condT rfl ?_)
   refine (?_:W _ _ _ _ _)
   exact W.ret zqr
 have hlm:e.stops=f.stops:=ext_len' hl fun q hq=>hgood q zqo hq
 have hn:evEq e f=true:=decide_eq_true ⟨g1,g2,g3,hlm⟩
 rw [hn]
 repeat (first|refine W.gob rfl ?_|refine WL.nil ?_|refine WL.bf rfl rfl rfl zqo ?_|refine WL.e1 rfl ?_|refine WL.len rfl rfl zql ?_|refine W.condF rfl ?_)
 refine (?_:W _ _ _ _ _)
 exact W.ret zqr
end
end Go.Proofs.YtgelfflighgajaaGreatDoor
