/- Plain of the program: each sign written. -/
import Derived.Test.YtaeelcfjkhfpkaaGreatYRSq
import Derived.Test.YtaeelcfjkhfpkaaGreatG1Sq
set_option maxHeartbeats 8000000
set_option maxRecDepth 100000
set_option linter.unusedVariables false
set_option linter.unusedSimpArgs false
namespace Go.Proofs.YtaeelcfjkhfpkaaGreat
section
open Go.RowKit
def ixB {α:Type} (t:α→Bool)(l:List α):Int:=if l.any t=true then((l.findIdx t:Nat):Int)else -1
theorem ixB_at {α:Type} {t:α→Bool} {l:List α} {k:Nat} (hk:k<l.length) (h1:t l[k]=true) (h2:∀ i (hi:i<k),t (l[i]'(by omega))=false):ixB t l=k:=by
 have hh:l.any t=true:=List.any_eq_true.2 ⟨l[k],List.getElem_mem hk,h1⟩
 unfold ixB
 rw [if_pos hh,(List.findIdx_eq hk).2 ⟨h1,h2⟩]
theorem ixB_no {α:Type} {t:α→Bool} {l:List α} (h:∀ i(hi:i<l.length),t l[i]=false):ixB t l=-1:=by
 have hh:l.any t=false:=by
  rw [List.any_eq_false]
  intro x hx
  obtain⟨i,hi,rfl⟩:=List.getElem_of_mem hx
  simp [h i hi]
 unfold ixB
 rw [hh];rfl
theorem ixB_has {α:Type} (t:α→Bool)(l:List α):decide (0≤ixB t l)=l.any t:=by
 unfold ixB
 cases h:l.any t with
 | true=>rw [if_pos rfl];exact decide_eq_true (by omega)
 | false=>rw [if_neg (by simp)];rfl
theorem has1_FS (x:Lck) (w:Int):Ctr Tryz.prog 98 [.ag (eLk x),.pr [.sc (.int .i64 w)]] (.sc (.bool (x.2.2 == w))):=by
 refine zqe Tryz.func98 Tryz.ntmps98 fun w0 F0=>?_;dsimp only [St.init,number,Nat.reduceAdd]
 repeat refine W.go rfl ?_
 refine (?_:W _ _ _ _ _)
 refine W.ret (fin1 rfl rfl (sc_bool ?_) rfl)
 rfl
theorem idxL_FS (l:List Lck) (w:Int) (hl:l.length≤100000):Ctr Tryz.prog 129 [.ls 3 (l.map eLk),.fn 98 [.pr [.sc (.int .i64 w)]]] (.sc (.int .i64 (ixB (fun x:Lck=>x.2.2 == w) l))):=by
 refine zqe Tryz.func129 Tryz.ntmps129 fun w0 F0=>?_;dsimp only [St.init,number,Nat.reduceAdd]
 repeat (first|refine W.go rfl ?_|refine WL.ev rfl ?_|refine WL.len rfl rfl zql ?_)
 refine (?_:W _ _ _ _ _)
 refine W.loop (fun k:Nat=>k≤l.length∧∀ i (hi:i < k) (h:i < l.length),(l[i].2.2 == w)=false) (fun k=>⟨[(0,.ls 3 (l.map eLk)),(1,.fn 98 [.pr [.sc (.int .i64 w)]]),(7,.sc (.int .i64 l.length)),(8,.sc (.int .i64 k))],[],0⟩) (fun k=>l.length - k) 0 ⟨by omega,fun i hi=>by omega⟩ (zqt id) fun k hk=>?_
 obtain ⟨hk,hno⟩:=hk
 by_cases hlt:k < l.length
 ·repeat (first|refine W.gob rfl ?_|refine WL.nil ?_|refine WL.bt rfl rfl rfl zqo ?_|refine WL.e1 rfl ?_|refine WL.idx rfl rfl zqo zqm ?_|refine W.condT rfl ?_)
  refine (?_:WL _ _ _ _ _ _)
  refine WL.vl rfl (WV.callV (truH _) rfl (callF Tryz.func98 rfl rfl) rfl rfl rfl rfl rfl (has1_FS l[k] w).g) ?_
  cases he:l[k].2.2 == w with
  | true =>
   rw [ixB_at (t:=fun x:Lck=>x.2.2 == w) hlt he fun i hi=>hno i hi (by omega)]
   repeat (first|refine W.gob rfl ?_|refine WL.nil ?_|refine WL.e1 rfl ?_|refine W.condT rfl ?_)
   refine (?_:W _ _ _ _ _)
   exact W.ret zqr
  | false =>
   repeat (first|refine W.gob rfl ?_|refine WL.nil ?_|refine WL.e1 rfl ?_|refine WL.ar rfl rfl (by unfold I64;omega) ?_|refine W.condF rfl ?_)
   exact ⟨k+1,⟨by omega,fun i hi h=>by
    by_cases e:i=k
    ·subst e;exact he
    ·exact hno i zqo h⟩,by omega,(zqt id)⟩
 ·rw [ixB_no (t:=fun x:Lck=>x.2.2 == w) fun i hi=>hno i (by omega) hi]
  repeat (first|refine W.gob rfl ?_|refine WL.nil ?_|refine WL.bf rfl rfl rfl zqo ?_|refine WL.e1 rfl ?_|refine W.condF rfl ?_)
  refine (?_:W _ _ _ _ _)
  exact W.ret zqr
theorem contL_FS (l:List Lck) (w:Int) (hl:l.length≤100000):Ctr Tryz.prog 97 [.ls 3 (l.map eLk),.fn 98 [.pr [.sc (.int .i64 w)]]] (.sc (.bool (hasW l w))):=by
 have hI:=idxL_FS l w hl
 have hh:decide (0≤ixB (fun x:Lck=>x.2.2 == w) l)=hasW l w:=ixB_has _ l
 obtain ⟨z,hz⟩:∃ z,ixB (fun x:Lck=>x.2.2 == w) l=z:=⟨_,rfl⟩
 rw [hz] at hI hh
 refine zqe Tryz.func97 Tryz.ntmps97 fun w0 F0=>?_;dsimp only [St.init,number,Nat.reduceAdd]
 repeat refine W.go rfl ?_
 refine (?_:WL _ _ _ _ _ _)
 refine WL.vl rfl (zqc Tryz.func129 hI) ?_
 repeat refine WL.ev rfl ?_
 refine (?_:W _ _ _ _ _)
 refine W.ret (fin1 rfl rfl (sc_bool ?_) rfl)
 rw [← hh]
theorem yHas_FS (l:List Lck) (w:Int) (hl:l.length≤100000):Ctr Tryz.prog 47 [.ls 3 (l.map eLk),.sc (.int .i64 w)] (.sc (.bool (hasW l w))):=by
 have hC:=contL_FS l w hl
 refine zqe Tryz.func47 Tryz.ntmps47 fun w0 F0=>?_;dsimp only [St.init,number,Nat.reduceAdd]
 repeat refine W.go rfl ?_
 refine (?_:WL _ _ _ _ _ _)
 refine WL.vl rfl (WV.mkf rfl rfl) ?_
 refine WL.vl rfl (WV.lendV (truH _) rfl (callF Tryz.func97 rfl rfl) rfl rfl rfl rfl rfl rfl truST hC.g) ?_
 repeat refine WL.ev rfl ?_
 refine (?_:W _ _ _ _ _)
 exact W.ret zqr
end
section
open Go.RowKit
theorem asc_ge {l:List Stp} (ha:l.Pairwise fun x y=>x.1<y.1) (h1:∀ x∈l,1≤x.1):∀ k (h:k<l.length),(k:Int)+1≤l[k].1
 | 0,h=>by have:=h1 _ (List.getElem_mem h);omega
 | k+1,h=>by
  have:=asc_ge ha h1 k zqo
  have h2:=List.pairwise_iff_getElem.1 ha k (k+1) (by omega) h (by omega)
  omega
theorem asc14 {l:List Stp} (ha:l.Pairwise fun x y=>x.1<y.1) (hb:∀ x∈l,1≤x.1∧x.1≤14):l.length≤14:=by
 rcases Nat.eq_zero_or_pos l.length with h|h
 ·omega
 ·have h1:=asc_ge ha (fun x hx=>(hb x hx).1) (l.length-1) zqo
  have h2:=(hb _ (List.getElem_mem (show l.length-1<l.length by omega))).2
  omega
def evK(evs:List Ev) (n:Nat) (K:List Stp):List Ev:=evs.set n { (evs.getD n ⟨false,0,false,false,false,[]⟩)with stops:=K }
theorem evK_at {evs:List Ev} {n:Nat} (h:n<evs.length)(K:List Stp):evK evs n K=evs.set n { evs[n]with stops:=K }:=by
 unfold evK
 rw [List.getD_eq_getElem?_getD,List.getElem?_eq_getElem h];rfl
theorem evK_len(evs:List Ev)(n:Nat)(K:List Stp):(evK evs n K).length=evs.length:=by unfold evK;rw [List.length_set]
theorem evK_crs {evs:List Ev} {n:Nat} (h:n<evs.length) {K:List Stp} (hK:K.map (fun x=>x.1)=evs[n].stops.map fun x=>x.1):(evK evs n K).map crsE'=evs.map crsE':=by
 rw [evK_at h,List.map_set]
 have e:crsE' { evs[n]with stops:=K }=crsE' evs[n]:=by
  have hl:K.length=evs[n].stops.length:=by have:=congrArg List.length hK;simpa using this
  unfold crsE' restB
  show (_,_)=(_,_)
  rw [hK,hl]
 rw [e]
 apply List.ext_getElem (by rw [List.length_set])
 intro i h1 h2
 rw [List.getElem_set]
 split
 ·rename_i hi;subst hi;rw [List.getElem_map]
 ·rfl
theorem evK_20 {evs:List Ev} {n:Nat} (h:n<evs.length) {K:List Stp} (hK:K.length≤20)(h20:∀ e∈evs,e.stops.length≤20):∀ e∈evK evs n K,e.stops.length≤20:=by
 intro e he
 rw [evK_at h]at he
 rcases List.mem_or_eq_of_mem_set he with he|rfl
 ·exact h20 e he
 ·exact hK
theorem evK_rowsO {evs:List Ev} {n:Nat} (h:n<evs.length)(K:List Stp):(evs.map eEvO).set n ((eEvO evs[n]).set 5 (.ow 48 5 (K.map eStp)))=(evK evs n K).map eEvO:=by
 rw [evK_at h,List.map_set];rfl
theorem evK_rows {evs:List Ev} {n:Nat} (h:n<evs.length)(K:List Stp):(evs.map eEv).set n ((eEv evs[n]).set 5 (.ls 5 (K.map eStp)))=(evK evs n K).map eEv:=by
 rw [evK_at h,List.map_set];rfl
theorem evK_lent {evs:List Ev} {n:Nat} (h:n<evs.length)(K:List Stp):((evs.map eEvO).map fun r=>r.map (AV.fz 1)).set n (((eEvO evs[n]).map (AV.fz 1)).set 5 (.ls 5 (K.map eStp)))=(evK evs n K).map eEv:=by
 rw [eEvO_rows,eEvO_fz];exact evK_rows h K
theorem evO_at {evs:List Ev} {n:Nat} (h:n<evs.length):(evs.map eEvO)[n]?=some (eEvO evs[n]):=by rw [List.getElem?_map,List.getElem?_eq_getElem h];rfl
theorem stpK_row {K:List Stp} {j:Nat} {x:Stp} (h:K[j]?=some x):(K.map eStp)[j]?=some (eStp x):=by rw [List.getElem?_map,h];rfl
theorem stpK_put {K:List Stp} {j:Nat} (x:Stp)(h:Int):(K.map eStp).set j (putL 4 [.sc (.int .i64 h)] (eStp x))=(K.set j (stH x h)).map eStp:=by rw [List.map_set];rfl
theorem set_crs {K:List Stp} {j:Nat} {x:Stp} (h:K[j]?=some x)(z:Int):(K.set j (stH x z)).map (fun x=>x.1)=K.map fun x=>x.1:=by
 rw [List.map_set]
 have hj:j<K.length:=(List.getElem?_eq_some_iff.1 h).1
 have e:(stH x z).1=(K.map fun x=>x.1)[j]'(by rw [List.length_map];exact hj):=by
  rw [List.getElem_map]
  rw [List.getElem?_eq_getElem hj]at h
  rw [Option.some.inj h];rfl
 rw [e,List.set_getElem_self]
theorem fnK_crs (H:Nat→Stp→Int)(n j:Nat)(l:List Stp):(fnK H n j l).map (fun x=>x.1)=l.map fun x=>x.1:=by
 unfold fnK
 rw [List.map_append,List.map_map,show ((fun x:Stp=>x.1) ∘ fun y=>stH y (H n y))=fun x:Stp=>x.1 from rfl,← List.map_append,List.take_append_drop]
theorem fnN_0at {H:Nat→Stp→Int} {evs:List Ev} {n:Nat} (h:n<evs.length):(fnN H evs n 0)[n]'(by rw [fnN_len];exact h)=evs[n]:=by
 simp only [fnN,List.getElem_mapIdx]
 simp
theorem evK_done {H:Nat→Stp→Int} {evs:List Ev} {n:Nat} (h:n<evs.length):evK (fnN H evs n 0) n (fnK H n evs[n].stops.length evs[n].stops)=fnN H evs (n+1) 0:=by
 rw [evK_at (by rw [fnN_len];exact h)]
 apply List.ext_getElem (by rw [List.length_set,fnN_len,fnN_len])
 intro i h1 h2
 have hi:i<evs.length:=by rw [fnN_len] at h2;exact h2
 rw [List.getElem_set]
 simp only [fnN,List.getElem_mapIdx]
 by_cases e:n=i
 ·subst e
  simp [fnE,fnK]
 ·rw [if_neg e]
  by_cases e2:i<n
  ·rw [if_pos e2,if_pos (by omega)]
  ·rw [if_neg e2,if_neg (fun h=>e h.symm),if_neg (by omega)]
   by_cases e3:i=n+1
   ·subst e3;simp
   ·rw [if_neg e3]
theorem fnN_20 {H:Nat→Stp→Int} {evs:List Ev} (h20:∀ e∈evs,e.stops.length≤20)(n k:Nat):∀ e∈fnN H evs n k,e.stops.length≤20:=by
 intro e he
 obtain⟨i,hi,rfl⟩:=List.getElem_of_mem he
 have hi':i<evs.length:=by rw [fnN_len]at hi;exact hi
 rw [fnN_stops hi']
 exact h20 _ (List.getElem_mem hi')
end
section
open Go.RowKit
theorem eqs_sign (x:Int) (a b:Bool) (y:Int) (c d:Bool) (w:World):(Op.equalIn 10000 42 (.agg #[.int .i64 x,.bool a,.bool b]) (.agg #[.int .i64 y,.bool c,.bool d])).run Tryz.prog w=.ok (decide (x=y∧a=c∧b=d)) w:=by
 rw [run_equalIn_agg w 9999 _ _ _ zqk zqk]
 refine Eq.trans (congrArg (fun fs=>Sem.run _ (Op.eqFields 9999 _ _ fs) w) (rfl:(Tryz.prog.fieldsOf 42).toList=[_,_,_])) ?_
 by_cases h1:x=y
 ·subst h1
  cases a<;>cases b<;>cases c<;>cases d<;>simp [go_sem]
 ·simp [go_sem,h1]
theorem clnStp_FS (l:List Stp) (h:l.length≤100000):Ctr Tryz.prog 133 [.ls 5 (l.map eStp)] (.ls 5 (l.map eStp)):=by
 refine zqe Tryz.func133 Tryz.ntmps133 fun w0 F0=>?_;dsimp only [St.init,number,Nat.reduceAdd]
 repeat refine W.go rfl ?_
 refine (?_:WL _ _ _ _ _ _)
 refine WL.nlq rfl rfl fun b hb=>?_
 cases b with
 | true =>
  have e:=hb rfl
  repeat (first|refine W.go rfl ?_|refine WL.nil ?_|refine W.condT rfl ?_)
  refine (?_:W _ _ _ _ _)
  refine W.tr (Tr.nilR (t:=2) 5 rfl) ?_
  rw [e]
  exact W.ret zqr
 | false =>
  repeat (first|refine W.go rfl ?_|refine WL.nil ?_|refine WL.ev rfl ?_|refine WL.app rfl rfl rfl zqs ?_|refine W.condF rfl ?_)
  refine (?_:W _ _ _ _ _)
  refine W.tr (Tr.freeze 1 rfl) ?_
  exact W.ret zqr
theorem clnCrs_FS (l:List (Int×Int×Bool)) (h:l.length≤100000):Ctr Tryz.prog 131 [.ls 3 (l.map eCrs)] (.ls 3 (l.map eCrs)):=by
 refine zqe Tryz.func131 Tryz.ntmps131 fun w0 F0=>?_;dsimp only [St.init,number,Nat.reduceAdd]
 repeat refine W.go rfl ?_
 refine (?_:WL _ _ _ _ _ _)
 refine WL.nlq rfl rfl fun b hb=>?_
 cases b with
 | true =>
  have e:=hb rfl
  repeat (first|refine W.go rfl ?_|refine WL.nil ?_|refine W.condT rfl ?_)
  refine (?_:W _ _ _ _ _)
  refine W.tr (Tr.nilR (t:=2) 3 rfl) ?_
  rw [e]
  exact W.ret zqr
 | false =>
  repeat (first|refine W.go rfl ?_|refine WL.nil ?_|refine WL.ev rfl ?_|refine WL.app rfl rfl rfl zqs ?_|refine W.condF rfl ?_)
  refine (?_:W _ _ _ _ _)
  refine W.tr (Tr.freeze 1 rfl) ?_
  exact W.ret zqr
theorem clnInt_FS (l:List Int) (h:l.length≤100000):Ctr Tryz.prog 132 [.ls 1 (l.map eInt)] (.ls 1 (l.map eInt)):=by
 refine zqe Tryz.func132 Tryz.ntmps132 fun w0 F0=>?_;dsimp only [St.init,number,Nat.reduceAdd]
 repeat refine W.go rfl ?_
 refine (?_:WL _ _ _ _ _ _)
 refine WL.nlq rfl rfl fun b hb=>?_
 cases b with
 | true =>
  have e:=hb rfl
  repeat (first|refine W.go rfl ?_|refine WL.nil ?_|refine W.condT rfl ?_)
  refine (?_:W _ _ _ _ _)
  refine W.tr (Tr.nilR (t:=2) 1 rfl) ?_
  rw [e]
  exact W.ret zqr
 | false =>
  repeat (first|refine W.go rfl ?_|refine WL.nil ?_|refine WL.ev rfl ?_|refine WL.app rfl rfl rfl zqs ?_|refine W.condF rfl ?_)
  refine (?_:W _ _ _ _ _)
  refine W.tr (Tr.freeze 1 rfl) ?_
  exact W.ret zqr
theorem pCopied_FS (e:Ev) (h:e.stops.length≤100000):Ctr Tryz.prog 103 [.ag (eEv e)] (.ag (eEv e)):=by
 refine zqe Tryz.func103 Tryz.ntmps103 fun w0 F0=>?_;dsimp only [St.init,number,Nat.reduceAdd]
 repeat refine W.go rfl ?_
 refine (?_:WL _ _ _ _ _ _)
 refine WL.vl rfl (WV.call rfl (callF Tryz.func133 rfl rfl) rfl rfl (clnStp_FS e.stops h)) ?_
 repeat (first|refine W.go rfl ?_|refine WL.ev rfl ?_)
 refine (?_:W _ _ _ _ _)
 exact W.ret (fin_cell rfl rfl rfl rfl rfl rfl rfl rfl)
def nxS(s:Int×Bool×Bool)(e:Ev):Int×Bool×Bool:=if e.val=0∧e.dot=false∧e.three=false then s else(e.val,e.dot,e.three)
theorem plain1_FS (e:Ev) (s:Int×Bool×Bool) :
  Cto truB 0 Tryz.prog 100 [.ag (eEv e),.pt 0 0 0] [(0,.box 42 (eSig s))] 1 (.ag (eEv (sgW e (nxS s e)))) [(0,.box 42 (eSig (nxS s e))),(1,.box 45 (eEv (sgW e (nxS s e))))] 2:=by
 refine Cto.intro truS Tryz.func100 rfl Tryz.ntmps100 (Nat.le_of_ble_eq_true rfl) rfl fun w0 F0 fp pg hB=>?_
 dsimp only [number,Nat.reduceAdd]
 obtain ⟨n,hn⟩:∃ n,nxS s e=n:=⟨_,rfl⟩
 have hn0:=hn
 unfold nxS at hn0
 rw [hn]
 repeat refine W.go rfl ?_
 refine (?_:WL _ _ _ _ _ _)
 refine WL.vl rfl (WV.ane rfl rfl rfl rfl rfl zqk (fun w=>eqs_sign _ _ _ _ _ _ w)) ?_
 repeat refine WL.nil ?_
 refine (?_:W _ _ _ _ _)
 (refine W.cond rfl (fun hif=>?_) (fun hif=>?_)<;>(try simp only [decide_eq_true_eq,decide_eq_false_iff_not,Int.not_lt,Int.not_le,Bool.not_eq_true',Bool.not_eq_false'] at hif))
 ·rw [if_neg (by simpa using hif)] at hn0
  subst hn0
  repeat refine W.go rfl ?_
  refine (?_:W _ _ _ _ _)
  refine W.tr (σ':=⟨[(3,.pt 1 0 0)],[(0,.box 42 (eSig (e.val,e.dot,e.three))),(1,.box 45 (eEv (sgW e (e.val,e.dot,e.three))))],2⟩) (zqu (fun q=>bif Nat.beq q 1 then 2 else q) (by repeat (first|exact trivial|refine ⟨⟨?_,?_,?_⟩,?_⟩|rfl|exact congrArg (fun q=>some (AO.row _ _ q)) (by first|rfl|(simp;done)|(simp [eInt];done)|(simp [eLk];done)))) rfl) ?_
  exact W.ret (finM rfl rfl rfl rfl rfl)
 ·rw [if_pos (by simpa using hif)] at hn0
  subst hn0
  repeat refine W.go rfl ?_
  refine (?_:W _ _ _ _ _)
  refine W.tr (σ':=⟨[(3,.pt 1 0 0)],[(0,.box 42 (eSig s)),(1,.box 45 (eEv (sgW e s)))],2⟩) (zqu (fun q=>bif Nat.beq q 1 then 2 else q) (by repeat (first|exact trivial|refine ⟨⟨?_,?_,?_⟩,?_⟩|rfl|exact congrArg (fun q=>some (AO.row _ _ q)) (by first|rfl|(simp;done)|(simp [eInt];done)|(simp [eLk];done)))) rfl) ?_
  exact W.ret (finM rfl rfl rfl rfl rfl)
theorem rewr1_FS (e:Ev) (s:Int×Bool×Bool) (h:e.stops.length≤100000) :
  Cto truB 0 Tryz.prog 130 [.ag (eEv e),.pt 1 0 0] [(0,.box 42 (eSig s)),(1,.box 141 [.fn 100 [.pt 0 0 0]])] 2 (.ag (eEv (sgW e (nxS s e))))
   [(0,.box 42 (eSig (nxS s e))),(1,.box 141 [.fn 100 [.pt 0 0 0]]),(2,.box 45 (eEv (sgW e (nxS s e))))] 3:=by
 refine Cto.intro truS Tryz.func130 rfl Tryz.ntmps130 (Nat.le_of_ble_eq_true rfl) rfl fun w0 F0 fp pg hB=>?_
 dsimp only [number,Nat.reduceAdd]
 repeat refine W.go rfl ?_
 refine (?_:W _ _ _ _ _)
 refine W.of_wa zqk ?_
 refine WA.ds [false,false,false,true,true] [1,2] zqk zqk ⟨rfl,rfl,trivial⟩ ?_
 refine DSK.st rfl rfl ?_
 refine DSK.st rfl rfl ?_
 refine DSK.v0 rfl (WV.call rfl (callF Tryz.func103 rfl rfl) rfl rfl (pCopied_FS e h)) ?_
 refine DSK.ct (truH _) [0] rfl rfl (callF Tryz.func100 rfl rfl) (plain1_FS e s) rfl rfl rfl ⟨⟨rfl,rfl,rfl⟩,trivial⟩ rfl rfl rfl rfl ⟨rfl,rfl,trivial⟩ ?_
 refine DSK.sto rfl rfl rfl rfl rfl rfl rfl rfl rfl rfl rfl rfl rfl rfl ⟨rfl,rfl,trivial⟩ ?_
 refine DSK.nil ?_
 refine (?_:W _ _ _ _ _)
 refine W.tr (σ':=⟨[(3,.pt 2 0 0)],[(0,.box 42 (eSig (nxS s e))),(1,.box 141 [.fn 100 [.pt 0 0 0]]),(2,.box 45 (eEv (sgW e (nxS s e))))],3⟩) (zqu (fun q=>bif Nat.beq q 2 then 3 else q) (by repeat (first|exact trivial|refine ⟨⟨?_,?_,?_⟩,?_⟩|rfl|exact congrArg (fun q=>some (AO.row _ _ q)) (by first|rfl|(simp;done)|(simp [eInt];done)|(simp [eLk];done)))) rfl) ?_
 exact W.ret (finM rfl rfl rfl rfl rfl)
def nxK (evs:List Ev):Nat→Int×Bool×Bool
 | 0=>(0,false,false)
 | k+1=>match evs[k]? with
  | some e=>nxS (nxK evs k) e
  | none=>nxK evs k
theorem nxK_at {evs:List Ev} {k:Nat} (h:k<evs.length):nxK evs (k+1)=nxS (nxK evs k) evs[k]:=by
 show (match evs[k]? with|some e=>_|none=>_)=_
 rw [List.getElem?_eq_getElem h]
theorem nxK_eq {evs:List Ev} (hz:∀ k (h:k<evs.length),evs[k].val=0→evs[k].dot=false∧evs[k].three=false):∀ k,k≤evs.length→nxK evs k=sgF evs k
 | 0,_=>rfl
 | k+1,h=>by
  have hk:k<evs.length:=by omega
  rw [nxK_at hk,sgF_at hk,nxK_eq hz k (by omega)]
  unfold nxS
  by_cases hv:evs[k].val=0
  ·rw [if_pos hv,if_pos ⟨hv,hz k hk hv⟩]
  ·rw [if_neg hv,if_neg (fun h=>hv h.1)]
theorem mapped_FS (evs:List Ev) (hn:evs.length≤1000) (h20:∀ k (h:k < evs.length),evs[k].stops.length≤20) (hz:∀ k (h:k < evs.length),evs[k].val=0→evs[k].dot=false∧evs[k].three=false) :
  Cto truB 0 Tryz.prog 102 [.ls 6 (evs.map eEv),.fn 130 [.pt 1 0 0]] [(0,.box 42 (eSig (0,false,false))),(1,.box 141 [.fn 100 [.pt 0 0 0]])] 2 (.ls 6 ((plN evs evs.length).map eEv))
   [(0,.box 42 (eSig (sgF evs evs.length))),(1,.box 141 [.fn 100 [.pt 0 0 0]])] 2:=by
 have hK:=nxK_eq hz
 refine Cto.intro truS Tryz.func102 rfl Tryz.ntmps102 (Nat.le_of_ble_eq_true rfl) rfl fun w0 F0 fp pg hB=>?_
 dsimp only [number,Nat.reduceAdd]
 repeat (first|refine W.go rfl ?_|refine WL.ev rfl ?_|refine WL.len rfl rfl zql ?_)
 refine (?_:W _ _ _ _ _)
 first|refine W.tr (Tr.nil (t:=5) 45 6 rfl rfl) ?_|refine WL.tr (Tr.nil (t:=5) 45 6 rfl rfl) ?_
 dsimp only [St.put,St.new,St.upd,Nat.reduceAdd]
 refine (?_:W _ _ _ _ _)
 refine W.loop (fun k:Nat=>k≤evs.length) (fun k=>⟨[(1,.fn 130 [.pt 1 0 0]),(5,.sl 2),(8,.ls 6 (evs.map eEv)),(9,.sc (.int .i64 evs.length)),(10,.sc (.int .i64 k))],[(0,.box 42 (eSig (sgF evs k))),(1,.box 141 [.fn 100 [.pt 0 0 0]]),(2,.row 45 6 ((plN evs k).map eEv))],3⟩) (fun k=>evs.length - k) 0 zqo (zqt id) fun k hk=>?_
 have hl:=plN_length hk
 by_cases hlt:k < evs.length
 ·have hC:=rewr1_FS evs[k] (sgF evs k) (by have:=h20 k hlt;omega)
  have hnx:nxS (sgF evs k) evs[k]=sgF evs (k+1):=by rw [← hK k hk,← hK (k+1) (by omega),nxK_at hlt]
  have hrow:(plN evs k).map eEv++[eEv (sgW evs[k] (sgF evs (k+1)))]=(plN evs (k+1)).map eEv:=by rw [plN_at hlt];simp
  rw [hnx] at hC
  obtain ⟨PL,hPL⟩:∃ z,plN evs k=z:=⟨_,rfl⟩
  rw [hPL] at hl hrow ⊢
  obtain ⟨S1,hS1⟩:∃ z,sgF evs (k+1)=z:=⟨_,rfl⟩
  rw [hS1] at hC hrow
  obtain ⟨S0,hS0⟩:∃ z,sgF evs k=z:=⟨_,rfl⟩
  rw [hS0] at hC ⊢
  repeat (first|refine W.gob rfl ?_|refine WL.nil ?_|refine WL.bt rfl rfl rfl zqo ?_|refine WL.e1 rfl ?_|refine WL.idx rfl rfl zqo zqm ?_|refine W.condT rfl ?_)
  refine (?_:WL _ _ _ _ _ _)
  refine WL.cto (truH _) [0,1] rfl rfl (callF Tryz.func130 rfl rfl) hC rfl rfl rfl ⟨⟨rfl,rfl,rfl⟩,⟨rfl,rfl,rfl⟩,trivial⟩ rfl rfl rfl rfl ?_
  repeat (first|refine W.go rfl ?_|refine WL.ev rfl ?_|refine WL.ar rfl rfl (by unfold I64;omega) ?_|refine WL.app rfl rfl rfl zqs ?_)
  refine ⟨k+1,by omega,by omega,?_⟩
  rw [hS1]
  exact (zqu (fun q=>bif Nat.beq q 2 then 6 else q) (by repeat (first|exact trivial|refine ⟨⟨?_,?_,?_⟩,?_⟩|rfl|exact congrArg (fun q=>some (AO.row _ _ q)) hrow)) rfl)
 ·obtain rfl:k=evs.length:=by omega
  repeat (first|refine W.gob rfl ?_|refine WL.nil ?_|refine WL.bf rfl rfl rfl zqo ?_|refine WL.e1 rfl ?_|refine W.condF rfl ?_)
  refine (?_:W _ _ _ _ _)
  refine W.tr (Tr.freeze 2 rfl) ?_
  refine W.tr (σ':=⟨[(4,.ls 6 ((plN evs evs.length).map eEv))],[(0,.box 42 (eSig (sgF evs evs.length))),(1,.box 141 [.fn 100 [.pt 0 0 0]])],2⟩) (zqt id) ?_
  exact W.ret (finM rfl rfl rfl rfl rfl)
theorem copiedIns_FS (cs:List (Int×Int×Bool)) (st:List Int) (h1:cs.length≤64) (h2:st.length≤64):Ctr Tryz.prog 101 [.ag (eIns cs st)] (.ag (eIns cs st)):=by
 refine zqe Tryz.func101 Tryz.ntmps101 fun w0 F0=>?_;dsimp only [St.init,number,Nat.reduceAdd]
 repeat refine W.go rfl ?_
 refine (?_:W _ _ _ _ _)
 refine W.of_wa zqk ?_
 refine WA.ds [false,false,false,false,false,false,false,true] [0] zqk zqk ⟨rfl,trivial⟩ ?_
 refine DSK.st rfl rfl ?_
 refine DSK.st rfl rfl ?_
 refine DSK.v0 rfl (WV.call rfl (callF Tryz.func131 rfl rfl) rfl rfl (clnCrs_FS cs zqo)) ?_
 refine DSK.st rfl rfl ?_
 refine DSK.st rfl rfl ?_
 refine DSK.v0 rfl (WV.call rfl (callF Tryz.func132 rfl rfl) rfl rfl (clnInt_FS st zqo)) ?_
 refine DSK.st rfl rfl ?_
 refine DSK.sto rfl rfl rfl rfl rfl rfl rfl rfl rfl rfl rfl rfl rfl rfl ⟨rfl,trivial⟩ ?_
 refine DSK.nil ?_
 refine (?_:W _ _ _ _ _)
 exact W.ret (fin_cell rfl rfl rfl rfl rfl rfl rfl rfl)
theorem rewritten_FS (p:Pce) (hO:PcOk p) :
  Cto truB 0 Tryz.prog 99 [ePce p,.fn 100 [.pt 0 0 0]] [(0,.box 42 (eSig (0,false,false)))] 1 (.tu [ePce (plP p),.sc (.int .i64 (pceE p))])
   [(0,.box 42 (eSig (if pceE p=0 then sgF p.evs p.evs.length else (0,false,false)))),(1,.box 29 (ePce (plP p)).cells)] 2:=by
 have hC:=pCheck_FS p hO
 by_cases h0:pceE p=0
 rotate_left
 ·have e1:plP p=noP:=if_neg h0
  rw [e1,if_neg h0]
  obtain ⟨E,hE⟩:∃ E,pceE p=E:=⟨_,rfl⟩
  rw [hE] at hC h0 ⊢
  refine Cto.intro truS Tryz.func99 rfl Tryz.ntmps99 (Nat.le_of_ble_eq_true rfl) rfl fun w0 F0 fp pg hB=>?_
  dsimp only [number,Nat.reduceAdd]
  repeat refine W.go rfl ?_
  refine (?_:WL _ _ _ _ _ _)
  refine WL.vl rfl (zqc Tryz.func45 hC) ?_
  repeat (first|refine W.gob rfl ?_|refine WL.nil ?_|refine WL.nt rfl rfl rfl zqo ?_|refine WL.e1 rfl ?_|refine W.condT rfl ?_)
  refine (?_:W _ _ _ _ _)
  refine W.tr (Tr.nilC 3 0 3 rfl rfl rfl) ?_
  refine W.tr (Tr.nilC 3 1 1 rfl rfl rfl) ?_
  refine W.tr (Tr.nilC 3 2 6 rfl rfl rfl) ?_
  refine W.tr (σ':=⟨[(4,.pt 1 0 0),(5,.sc (.int .i64 E))],[(0,.box 42 (eSig (0,false,false))),(1,.box 29 (ePce noP).cells)],2⟩) (zqu (fun q=>bif Nat.beq q 1 then 3 else q) (by repeat (first|exact trivial|refine ⟨⟨?_,?_,?_⟩,?_⟩|rfl|exact congrArg (fun q=>some (AO.row _ _ q)) (by first|rfl|(simp;done)|(simp [eInt];done)|(simp [eLk];done)))) rfl) ?_
  exact W.ret (finM rfl rfl rfl rfl rfl)
 have e1:plP p=⟨p.cs,p.st,plN p.evs p.evs.length⟩:=if_pos h0
 have hz:∀ k (h:k < p.evs.length),p.evs[k].val=0→p.evs[k].dot=false∧p.evs[k].three=false:=fun k h hv=>by
  have hok:=(evOk_of h0 h).sg
  unfold sgOk at hok
  rw [hv] at hok
  simpa using hok
 have hn3:=hO.n3
 have hM:=mapped_FS p.evs zqo hO.n4 hz
 have hI:=copiedIns_FS p.cs p.st hO.n1 hO.n2
 rw [e1,if_pos h0,h0]
 rw [h0] at hC
 refine Cto.intro truS Tryz.func99 rfl Tryz.ntmps99 (Nat.le_of_ble_eq_true rfl) rfl fun w0 F0 fp pg hB=>?_
 dsimp only [number,Nat.reduceAdd]
 repeat refine W.go rfl ?_
 refine (?_:WL _ _ _ _ _ _)
 refine WL.vl rfl (zqc Tryz.func45 hC) ?_
 repeat (first|refine W.gob rfl ?_|refine WL.nil ?_|refine WL.nf rfl rfl rfl zqo ?_|refine WL.e1 rfl ?_|refine W.condF rfl ?_)
 refine (?_:WL _ _ _ _ _ _)
 refine WL.vl rfl (zqc Tryz.func101 hI) ?_
 repeat (first|refine W.go rfl ?_|refine WL.ev rfl ?_)
 refine (?_:WL _ _ _ _ _ _)
 refine WL.vl rfl (WV.mkf rfl rfl) ?_
 refine WL.cto (truH _) [0,2] rfl rfl (callF Tryz.func102 rfl rfl) hM rfl rfl rfl ⟨⟨rfl,rfl,rfl⟩,⟨rfl,rfl,rfl⟩,trivial⟩ rfl rfl rfl rfl ?_
 repeat (first|refine W.go rfl ?_|refine WL.ev rfl ?_)
 refine (?_:W _ _ _ _ _)
 refine W.tr (σ':=⟨[(4,.pt 1 0 0),(5,.sc (.int .i64 0))],[(0,.box 42 (eSig (sgF p.evs p.evs.length))),(1,.box 29 (ePce ⟨p.cs,p.st,plN p.evs p.evs.length⟩).cells)],2⟩) (zqu (fun q=>bif Nat.beq q 1 then 3 else q) (by repeat (first|exact trivial|refine ⟨⟨?_,?_,?_⟩,?_⟩|rfl|exact congrArg (fun q=>some (AO.row _ _ q)) (by first|rfl|(simp;done)|(simp [eInt];done)|(simp [eLk];done)))) rfl) ?_
 exact W.ret (finM rfl rfl rfl rfl rfl)
theorem pPlain_FS (p:Pce) (hO:PcOk p):Ctr Tryz.prog 48 [ePce p] (.tu [ePce (plP p),.sc (.int .i64 (pceE p))]):=by
 have hR:=rewritten_FS p hO
 refine zqe Tryz.func48 Tryz.ntmps48 fun w0 F0=>?_;dsimp only [St.init,number,Nat.reduceAdd]
 repeat refine W.go rfl ?_
 refine (?_:WL _ _ _ _ _ _)
 refine WL.vl rfl (WV.mkf rfl rfl) ?_
 refine WL.cto (truH _) [2] rfl rfl (callF Tryz.func99 rfl rfl) hR rfl rfl rfl ⟨⟨rfl,rfl,rfl⟩,trivial⟩ rfl rfl rfl rfl ?_
 repeat refine WL.ev rfl ?_
 refine (?_:W _ _ _ _ _)
 exact W.ret (finN rfl rfl rfl rfl)
end
end Go.Proofs.YtaeelcfjkhfpkaaGreat
