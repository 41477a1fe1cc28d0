/- Frets moved; Slide and Release of the program. (RWN.) -/
import Derived.Test.YtaeelcfjkhfpkaaGreatU9Pq
set_option maxHeartbeats 8000000
set_option maxRecDepth 100000
set_option linter.unusedVariables false
set_option linter.unusedSimpArgs false
namespace Go.Proofs.YtaeelcfjkhfpkaaGreat
section
open Go.RowKit
theorem z42i {z:Int} (h:I64 z:=by unfold I64;omega):I64 z:=h
theorem uClnStp (l:List Stp) (h:l.length≤100000):Cto truB 0 Tryz.prog 133 [.ls 5 (l.map eStp)] [] 0 (.sl 0) [(0,.row 48 5 (l.map eStp))] 1:=by
 refine Cto.intro truS Tryz.func133 rfl Tryz.ntmps133 (Nat.le_of_ble_eq_true rfl) rfl fun w0 F0 fp pg hB=>?_
 dsimp only [number,Nat.reduceAdd]
 repeat (first|refine W.go rfl ?_|refine WL.nil ?_|refine WL.ev rfl ?_|refine WL.app rfl rfl rfl zqs ?_|refine W.condT rfl ?_|refine W.condF rfl ?_)
 (first|refine (?_:W _ _ _ _ _)|refine (?_:WL _ _ _ _ _ _)|skip)
 try dsimp only [St.put,Nat.reduceAdd]
 refine WL.nlq rfl rfl fun b hb=>?_
 cases b with
 | true =>
  have e:=hb rfl
  repeat (first|refine W.go rfl ?_|refine WL.nil ?_|refine WL.ev rfl ?_|refine WL.app rfl rfl rfl zqs ?_|refine W.condT rfl ?_|refine W.condF rfl ?_)
  (first|refine (?_:W _ _ _ _ _)|refine (?_:WL _ _ _ _ _ _)|skip)
  try dsimp only [St.put,Nat.reduceAdd]
  refine W.tr (Tr.nil (t:=2) 48 5 rfl rfl) ?_
  rw [e]
  refine W.tr (σ':=⟨[(2,.sl 0)],[(0,.row 48 5 [])],1⟩) (zqt id) ?_
  exact W.ret (finM rfl rfl rfl rfl rfl)
 | false =>
  repeat (first|refine W.go rfl ?_|refine WL.nil ?_|refine WL.ev rfl ?_|refine WL.app rfl rfl rfl zqs ?_|refine W.condT rfl ?_|refine W.condF rfl ?_)
  (first|refine (?_:W _ _ _ _ _)|refine (?_:WL _ _ _ _ _ _)|skip)
  try dsimp only [St.put,Nat.reduceAdd]
  refine W.tr (σ':=⟨[(2,.sl 0)],[(0,.row 48 5 (l.map eStp))],1⟩) (zqu (fun q=>bif Nat.beq q 0 then 1 else q) (by repeat (first|exact trivial|refine ⟨⟨?_,?_,?_⟩,?_⟩|rfl|exact congrArg (fun q=>some (AO.row _ _ q)) (by first|rfl|(simp;done)|(simp [eInt];done)|(simp [eLk];done)))) rfl) ?_
  exact W.ret (finM rfl rfl rfl rfl rfl)
theorem uCopied (e:Ev) (h:e.stops.length≤100000):Cto truB 0 Tryz.prog 103 [.ag (eEv e)] [] 0 (.ag [.sc (.bool e.bar),.sc (.int .i64 e.val),.sc (.bool e.dot),.sc (.bool e.three),.sc (.bool e.tie),.sl 0])
  [(0,.row 48 5 (e.stops.map eStp)),(1,.box 45 [.sc (.bool e.bar),.sc (.int .i64 e.val),.sc (.bool e.dot),.sc (.bool e.three),.sc (.bool e.tie),.sl 0])] 2:=by
 have hc:=uClnStp e.stops h
 show Cto truB 0 Tryz.prog 103 [.ag [.sc (.bool e.bar),.sc (.int .i64 e.val),.sc (.bool e.dot),.sc (.bool e.three),.sc (.bool e.tie),.ls 5 (e.stops.map eStp)]] [] 0 _ _ 2
 refine Cto.intro truS Tryz.func103 rfl Tryz.ntmps103 (Nat.le_of_ble_eq_true rfl) rfl fun w0 F0 fp pg hB=>?_
 dsimp only [number,Nat.reduceAdd]
 repeat (first|refine W.go rfl ?_|refine WL.ev rfl ?_)
 (first|refine (?_:W _ _ _ _ _)|refine (?_:WL _ _ _ _ _ _)|skip)
 try dsimp only [St.put,Nat.reduceAdd]
 refine WL.cto (truH _) [] rfl rfl (callF Tryz.func133 rfl rfl) hc rfl rfl rfl trivial rfl rfl rfl rfl ?_
 repeat (first|refine W.go rfl ?_|refine WL.ev rfl ?_)
 (first|refine (?_:W _ _ _ _ _)|refine (?_:WL _ _ _ _ _ _)|skip)
 try dsimp only [St.put,Nat.reduceAdd]
 refine W.tr (σ':=⟨[(2,.pt 1 0 0)],[(0,.row 48 5 (e.stops.map eStp)),(1,.box 45 [.sc (.bool e.bar),.sc (.int .i64 e.val),.sc (.bool e.dot),.sc (.bool e.three),.sc (.bool e.tie),.sl 0])],2⟩) (zqu (fun q=>bif Nat.beq q 0 then 2 else q) (by repeat (first|exact trivial|refine ⟨⟨?_,?_,?_⟩,?_⟩|rfl|exact congrArg (fun q=>some (AO.row _ _ q)) (by first|rfl|(simp;done)|(simp [eInt];done)|(simp [eLk];done)))) rfl) ?_
 exact W.ret (finM rfl rfl rfl rfl rfl)
theorem uMapC (evs:List Ev) (hn:evs.length≤1000) (h20:∀ e∈evs,e.stops.length≤20) :
  Cto truB 0 Tryz.prog 102 [.ls 6 (evs.map eEv),.sc (.func (.func 103) #[] #[])] [] 0 (.sl 0) [(0,.rwn 45 6 (evs.map eEvO))] 1:=by
 refine Cto.intro truS Tryz.func102 rfl Tryz.ntmps102 (Nat.le_of_ble_eq_true rfl) rfl fun w0 F0 fp pg hB=>?_
 dsimp only [number,Nat.reduceAdd]
 repeat (first|refine W.go rfl ?_|refine WL.nil ?_|refine WL.ev rfl ?_|refine WL.ar rfl rfl z42i ?_|refine WL.len rfl rfl zql ?_|refine WL.idx rfl rfl zqo zqm ?_|refine W.condT rfl ?_|refine W.condF rfl ?_)
 (first|refine (?_:W _ _ _ _ _)|refine (?_:WL _ _ _ _ _ _)|skip)
 try dsimp only [St.put,Nat.reduceAdd]
 refine W.tr (Tr.nil (t:=5) 45 6 rfl rfl) ?_
 dsimp only [St.put,St.new,St.upd,Nat.reduceAdd]
 refine W.tr (Tr.widen 0 rfl) ?_
 dsimp only [St.upd]
 repeat (first|refine W.go rfl ?_|refine WL.nil ?_|refine WL.ev rfl ?_|refine WL.ar rfl rfl z42i ?_|refine WL.len rfl rfl zql ?_|refine WL.idx rfl rfl zqo zqm ?_|refine W.condT rfl ?_|refine W.condF rfl ?_)
 (first|refine (?_:W _ _ _ _ _)|refine (?_:WL _ _ _ _ _ _)|skip)
 try dsimp only [St.put,Nat.reduceAdd]
 refine W.loop (fun k:Nat=>k≤evs.length) (fun k=>⟨[(1,.sc (.func (.func 103) #[] #[])),(5,.sl 0),(8,.ls 6 (evs.map eEv)),(9,.sc (.int .i64 evs.length)),(10,.sc (.int .i64 k))],[(0,.rwn 45 6 ((evs.take k).map eEvO))],1⟩) (fun k=>evs.length - k) 0 (by omega) (zqt id) fun k hk=>?_
 by_cases hlt:k < evs.length
 ·have hC:=uCopied evs[k] (by have:=h20 _ (List.getElem_mem hlt);omega)
  have hrow:(evs.take k).map eEvO++[eEvO evs[k]]=(evs.take (k+1)).map eEvO:=by rw [List.take_succ_eq_append_getElem hlt,List.map_append];rfl
  have hl:((evs.take k).map eEvO).length=k:=by rw [List.length_map,List.length_take];omega
  obtain ⟨R,hR⟩:∃ z,(evs.take k).map eEvO=z:=⟨_,rfl⟩
  rw [hR] at hrow hl ⊢
  repeat (first|refine W.gob rfl ?_|refine WL.nil ?_|refine WL.bt rfl rfl rfl zqo ?_|refine WL.bf rfl rfl rfl zqo ?_|refine WL.e1 rfl ?_|refine WL.ar rfl rfl z42i ?_|refine WL.len rfl rfl zql ?_|refine WL.idx rfl rfl zqo zqm ?_|refine W.condT rfl ?_|refine W.condF rfl ?_)
  (first|refine (?_:W _ _ _ _ _)|refine (?_:WL _ _ _ _ _ _)|skip)
  try dsimp only [St.put,Nat.reduceAdd]
  refine WL.cto (truH _) [] rfl rfl (callF Tryz.func103 rfl rfl) hC rfl rfl rfl trivial rfl rfl rfl rfl ?_
  repeat (first|refine W.go rfl ?_|refine WL.nil ?_|refine WL.ev rfl ?_|refine WL.ar rfl rfl z42i ?_|refine WL.len rfl rfl zql ?_|refine WL.idx rfl rfl zqo zqm ?_|refine W.condT rfl ?_|refine W.condF rfl ?_)
  (first|refine (?_:W _ _ _ _ _)|refine (?_:WL _ _ _ _ _ _)|skip)
  try dsimp only [St.put,Nat.reduceAdd]
  refine WL.bdO 5 rfl rfl rfl rfl ?_
  refine WL.tr (Tr.close_ 4 rfl rfl rfl rfl (by show 5 < 6;omega) rfl) ?_
  dsimp only [St.upd,St.drop,rem,cond,Nat.beq]
  refine WL.apM rfl rfl rfl rfl (by show R.length+1≤1000000000;omega) ?_
  repeat (first|refine W.go rfl ?_|refine WL.nil ?_|refine WL.ev rfl ?_|refine WL.ar rfl rfl z42i ?_|refine WL.len rfl rfl zql ?_|refine WL.idx rfl rfl zqo zqm ?_|refine W.condT rfl ?_|refine W.condF rfl ?_)
  (first|refine (?_:W _ _ _ _ _)|refine (?_:WL _ _ _ _ _ _)|skip)
  try dsimp only [St.put,Nat.reduceAdd]
  refine ⟨k+1,by omega,by omega,?_⟩
  exact (zqu (fun q=>bif Nat.beq q 0 then 5 else q) (by repeat (first|exact trivial|refine ⟨⟨?_,?_,?_⟩,?_⟩|rfl|exact congrArg (fun q=>some (AO.row _ _ q)) hrow|exact congrArg (fun q=>some (AO.rwn _ _ q)) hrow)) rfl)
 ·obtain rfl:k=evs.length:=by omega
  rw [List.take_length]
  repeat (first|refine W.gob rfl ?_|refine WL.nil ?_|refine WL.bt rfl rfl rfl zqo ?_|refine WL.bf rfl rfl rfl zqo ?_|refine WL.e1 rfl ?_|refine WL.ar rfl rfl z42i ?_|refine WL.len rfl rfl zql ?_|refine WL.idx rfl rfl zqo zqm ?_|refine W.condT rfl ?_|refine W.condF rfl ?_)
  (first|refine (?_:W _ _ _ _ _)|refine (?_:WL _ _ _ _ _ _)|skip)
  try dsimp only [St.put,Nat.reduceAdd]
  refine W.tr (σ':=⟨[(4,.sl 0)],[(0,.rwn 45 6 (evs.map eEvO))],1⟩) (zqt id) ?_
  exact W.ret (finM rfl rfl rfl rfl rfl)
theorem uAppend (p:Pce) (hO:PcOk p) (h0:pceE p=0):Cto truB 0 Tryz.prog 49 [ePce p,.ag [.ls 3 (p.cs.map eCrs),.ls 1 (p.st.map eInt),.ls 6 []]] [] 0 (.tu [.ag [.ls 3 (p.cs.map eCrs),.ls 1 (p.st.map eInt),.sl 0],.sc (.int .i64 0)])
  [(0,.rwn 45 6 (p.evs.map eEvO)),(1,.box 29 [.ls 3 (p.cs.map eCrs),.ls 1 (p.st.map eInt),.sl 0])] 2:=by
 have hC:=pCheck_FS p hO
 rw [h0] at hC
 have hE0:pceE ⟨p.cs,p.st,[]⟩=0:=by
  unfold pceE
  rw [if_neg (by simpa using (pceE_zero h0).1),if_neg (by show ¬ 400 < 0;omega)];rfl
 have hC2:=pCheck_FS ⟨p.cs,p.st,[]⟩ ⟨hO.n1,hO.n2,Nat.zero_le _,fun k hk=>by cases hk⟩
 rw [hE0] at hC2
 have hC2:Ctr Tryz.prog 45 [.ag [.ls 3 (p.cs.map eCrs),.ls 1 (p.st.map eInt),.ls 6 []]] (.sc (.int .i64 0)):=hC2
 have hC:Ctr Tryz.prog 45 [.ag [.ls 3 (p.cs.map eCrs),.ls 1 (p.st.map eInt),.ls 6 (p.evs.map eEv)]] (.sc (.int .i64 0)):=hC
 have hS:=pSameI_FS p.cs p.st p.cs p.st hO.n1 hO.n2 hO.n1 hO.n2
 rw [sameI_self] at hS
 have hS:Ctr Tryz.prog 81 [.ag [.ls 3 (p.cs.map eCrs),.ls 1 (p.st.map eInt)],.ag [.ls 3 (p.cs.map eCrs),.ls 1 (p.st.map eInt)]] (.sc (.bool true)):=hS
 have hI:=copiedIns_FS p.cs p.st hO.n1 hO.n2
 have hI:Ctr Tryz.prog 101 [.ag [.ls 3 (p.cs.map eCrs),.ls 1 (p.st.map eInt)]] (.ag [.ls 3 (p.cs.map eCrs),.ls 1 (p.st.map eInt)]):=hI
 obtain ⟨_,h400,_⟩:=pceE_zero h0
 have hM:=uMapC p.evs zqo fun e he=>by
  obtain ⟨i,hi,rfl⟩:=List.getElem_of_mem he
  exact hO.n4 i hi
 have hEl:(p.evs.map eEv).length=p.evs.length:=List.length_map _
 have hOl:(p.evs.map eEvO).length=p.evs.length:=List.length_map _
 have hnil:([]:List (List AV)).length=0:=rfl
 show Cto truB 0 Tryz.prog 49 [.ag [.ls 3 (p.cs.map eCrs),.ls 1 (p.st.map eInt),.ls 6 (p.evs.map eEv)],.ag [.ls 3 (p.cs.map eCrs),.ls 1 (p.st.map eInt),.ls 6 []]] [] 0 _ _ 2
 obtain ⟨EV,hEV⟩:∃ z,p.evs.map eEv=z:=⟨_,rfl⟩
 obtain ⟨EO,hEO⟩:∃ z,p.evs.map eEvO=z:=⟨_,rfl⟩
 rw [hEV] at hC hM hEl ⊢
 rw [hEO] at hM hOl ⊢
 refine Cto.intro truS Tryz.func49 rfl Tryz.ntmps49 (Nat.le_of_ble_eq_true rfl) rfl fun w0 F0 fp pg hB=>?_
 dsimp only [number,Nat.reduceAdd]
 repeat (first|refine W.go rfl ?_|refine WL.nil ?_|refine WL.ar rfl rfl z42i ?_|refine WL.len rfl rfl zql ?_|refine W.condF rfl ?_)
 (first|refine (?_:W _ _ _ _ _)|refine (?_:WL _ _ _ _ _ _)|skip)
 try dsimp only [St.put,Nat.reduceAdd]
 refine WL.vl rfl (zqc Tryz.func45 hC) ?_
 repeat (first|refine W.gob rfl ?_|refine WL.nil ?_|refine WL.bf rfl rfl rfl zqo ?_|refine WL.nf rfl rfl rfl zqo ?_|refine WL.e1 rfl ?_|refine WL.ar rfl rfl z42i ?_|refine WL.len rfl rfl zql ?_|refine W.condF rfl ?_)
 (first|refine (?_:W _ _ _ _ _)|refine (?_:WL _ _ _ _ _ _)|skip)
 try dsimp only [St.put,Nat.reduceAdd]
 refine WL.vl rfl (zqc Tryz.func45 hC2) ?_
 repeat (first|refine W.gob rfl ?_|refine WL.nil ?_|refine WL.bf rfl rfl rfl zqo ?_|refine WL.nf rfl rfl rfl zqo ?_|refine WL.e1 rfl ?_|refine WL.ar rfl rfl z42i ?_|refine WL.len rfl rfl zql ?_|refine W.condF rfl ?_)
 (first|refine (?_:W _ _ _ _ _)|refine (?_:WL _ _ _ _ _ _)|skip)
 try dsimp only [St.put,Nat.reduceAdd]
 refine WL.vl rfl (zqc Tryz.func81 hS) ?_
 repeat (first|refine W.gob rfl ?_|refine WL.nil ?_|refine WL.bf rfl rfl rfl zqo ?_|refine WL.nf rfl rfl rfl zqo ?_|refine WL.e1 rfl ?_|refine WL.ar rfl rfl z42i ?_|refine WL.len rfl rfl zql ?_|refine W.condF rfl ?_)
 (first|refine (?_:W _ _ _ _ _)|refine (?_:WL _ _ _ _ _ _)|skip)
 try dsimp only [St.put,Nat.reduceAdd]
 refine W.of_wa zqk ?_
 refine WA.dt [false,false,false,false,false,true,false,false,false,true,true,true,false] [0,1] [0,1] 11 zqk zqk zqk ⟨rfl,rfl,trivial⟩ ⟨rfl,rfl,trivial⟩ ?_
 refine DTK.st rfl zqk rfl ?_
 refine DTK.st rfl zqk rfl ?_
 refine DTK.v0 rfl (zqc Tryz.func101 hI) ?_
 refine DTK.st rfl zqk rfl ?_
 refine DTK.st rfl zqk rfl ?_
 refine DTK.ct (truH _) [] rfl rfl (callF Tryz.func102 rfl rfl) hM rfl rfl rfl trivial rfl rfl rfl rfl ⟨rfl,rfl,trivial⟩ (fun _=>⟨rfl,rfl,trivial⟩) ?_
 refine DTK.st rfl zqk rfl ?_
 refine DTK.st rfl zqk rfl ?_
 refine DTK.v0 rfl (zqc Tryz.func102 mapC_0) ?_
 refine DTK.apW rfl rfl (by show EO.length+0≤1000000000;omega) ⟨rfl,rfl,trivial⟩ (fun _=>⟨rfl,rfl,trivial⟩) ?_
 refine yDTK_bs rfl rfl rfl rfl rfl rfl ⟨rfl,rfl,trivial⟩ (fun _=>⟨rfl,rfl,trivial⟩) ?_
 refine DTK.sto rfl rfl rfl rfl rfl rfl rfl rfl rfl rfl rfl rfl rfl rfl ⟨rfl,rfl,trivial⟩ (fun h=>by cases h) ?_
 refine DTK.v0 rfl (stepV_of rfl rfl) ?_
 refine DTK.nil ?_
 repeat (first|refine W.go rfl ?_|refine WL.nil ?_|refine WL.ar rfl rfl z42i ?_|refine WL.len rfl rfl zql ?_|refine W.condF rfl ?_)
 (first|refine (?_:W _ _ _ _ _)|refine (?_:WL _ _ _ _ _ _)|skip)
 try dsimp only [St.put,Nat.reduceAdd]
 rw [List.append_nil]
 refine W.tr (σ':=⟨[(4,.pt 1 0 0),(5,.sc (.int .i64 0))],[(0,.rwn 45 6 EO),(1,.box 29 [.ls 3 (p.cs.map eCrs),.ls 1 (p.st.map eInt),.sl 0])],2⟩) (zqt (fun q=>bif Nat.beq q 0 then 4 else bif Nat.beq q 1 then 2 else q)) ?_
 exact W.ret (finM rfl rfl rfl rfl rfl)
end
section
open Go.RowKit
theorem uTrans0 (cs:List (Int×Int×Bool)) (st:List Int) (hI0:insE cs st=0):Ctr Tryz.prog 122 [.ag [.ls 3 (cs.map eCrs),.ls 1 (st.map eInt)],.sc (.int .i64 0)] (.tu [.ag [.ls 3 (cs.map eCrs),.ls 1 (st.map eInt)],.sc (.int .i64 0)]):=by
 have hI:Ctr Tryz.prog 93 [.ag [.ls 3 (cs.map eCrs),.ls 1 (st.map eInt)]] (.sc (.int .i64 (insE cs st))):=yInsCheck_FS cs st
 rw [hI0] at hI
 obtain ⟨l1,l2,l3,l4,l5⟩:=insE_len hI0
 have hcl:=clone_FS cs st zqo zqo
 have hcp:=yCrsE_p l5
 have hRt:Ctr Tryz.prog 123 [.ag [.ls 3 (cs.map eCrs),.ls 1 (st.map eInt)]] (.tu [.ag [.ls 3 (cs.map eCrs),.ls 1 (st.map eInt)],.sc (.int .i64 0)]):=by
  refine zqe Tryz.func123 Tryz.ntmps123 fun w0 F0=>?_;dsimp only [St.init,number,Nat.reduceAdd]
  repeat (first|refine WL.vl rfl (WV.nch rfl rfl) ?_|refine W.gob rfl ?_|refine WL.nil ?_|refine WL.bt rfl rfl rfl zqo ?_|refine WL.bf rfl rfl rfl zqo ?_|refine WL.nf rfl rfl rfl zqo ?_|refine WL.e1 rfl ?_|refine WL.gyes rfl rfl rfl rfl ?_|refine WL.ar rfl rfl z42i ?_|refine WL.len rfl rfl rfl ?_|refine WL.ixs rfl rfl zqs ?_|refine W.condT rfl ?_|refine W.condF rfl ?_)
  (first|refine (?_:W _ _ _ _ _)|refine (?_:WL _ _ _ _ _ _)|skip)
  try dsimp only [St.put,Nat.reduceAdd]
  refine WL.vl rfl (zqc Tryz.func93 hI) ?_
  repeat (first|refine WL.vl rfl (WV.nch rfl rfl) ?_|refine W.gob rfl ?_|refine WL.nil ?_|refine WL.bt rfl rfl rfl zqo ?_|refine WL.bf rfl rfl rfl zqo ?_|refine WL.nf rfl rfl rfl zqo ?_|refine WL.e1 rfl ?_|refine WL.gyes rfl rfl rfl rfl ?_|refine WL.ar rfl rfl z42i ?_|refine WL.len rfl rfl rfl ?_|refine WL.ixs rfl rfl zqs ?_|refine W.condT rfl ?_|refine W.condF rfl ?_)
  (first|refine (?_:W _ _ _ _ _)|refine (?_:WL _ _ _ _ _ _)|skip)
  try dsimp only [St.put,Nat.reduceAdd]
  exact W.ret (finN rfl rfl rfl rfl)
 have hCl:(cs.map eCrs).length=cs.length:=List.length_map _
 have hrow:∀ k (h:k < cs.length),(cs.map eCrs)[k]?=some [.sc (.int .i64 cs[k].1),.sc (.int .i64 cs[k].2.1),.sc (.bool cs[k].2.2)]:=fun k h=>by
  rw [List.getElem?_map,List.getElem?_eq_getElem h];rfl
 obtain ⟨CS,hCS⟩:∃ z,cs.map eCrs=z:=⟨_,rfl⟩
 rw [hCS] at hI hcl hRt hCl ⊢
 simp only [hCS] at hrow
 clear hCS
 refine zqe Tryz.func122 Tryz.ntmps122 fun w0 F0=>?_;dsimp only [St.init,number,Nat.reduceAdd]
 repeat (first|refine WL.vl rfl (WV.nch rfl rfl) ?_|refine W.gob rfl ?_|refine WL.nil ?_|refine WL.bt rfl rfl rfl zqo ?_|refine WL.bf rfl rfl rfl zqo ?_|refine WL.nf rfl rfl rfl zqo ?_|refine WL.e1 rfl ?_|refine WL.gyes rfl rfl rfl rfl ?_|refine WL.ar rfl rfl z42i ?_|refine WL.len rfl rfl rfl ?_|refine WL.ixs rfl rfl zqs ?_|refine W.condT rfl ?_|refine W.condF rfl ?_)
 (first|refine (?_:W _ _ _ _ _)|refine (?_:WL _ _ _ _ _ _)|skip)
 try dsimp only [St.put,Nat.reduceAdd]
 refine WL.vl rfl (zqc Tryz.func93 hI) ?_
 repeat (first|refine WL.vl rfl (WV.nch rfl rfl) ?_|refine W.gob rfl ?_|refine WL.nil ?_|refine WL.bt rfl rfl rfl zqo ?_|refine WL.bf rfl rfl rfl zqo ?_|refine WL.nf rfl rfl rfl zqo ?_|refine WL.e1 rfl ?_|refine WL.gyes rfl rfl rfl rfl ?_|refine WL.ar rfl rfl z42i ?_|refine WL.len rfl rfl rfl ?_|refine WL.ixs rfl rfl zqs ?_|refine W.condT rfl ?_|refine W.condF rfl ?_)
 (first|refine (?_:W _ _ _ _ _)|refine (?_:WL _ _ _ _ _ _)|skip)
 try dsimp only [St.put,Nat.reduceAdd]
 refine WL.cto (truH _) [] rfl rfl (callF Tryz.func117 rfl rfl) hcl rfl rfl rfl trivial rfl rfl rfl rfl ?_
 repeat (first|refine WL.vl rfl (WV.nch rfl rfl) ?_|refine W.gob rfl ?_|refine WL.nil ?_|refine WL.bt rfl rfl rfl zqo ?_|refine WL.bf rfl rfl rfl zqo ?_|refine WL.nf rfl rfl rfl zqo ?_|refine WL.e1 rfl ?_|refine WL.gyes rfl rfl rfl rfl ?_|refine WL.ar rfl rfl z42i ?_|refine WL.len rfl rfl rfl ?_|refine WL.ixs rfl rfl zqs ?_|refine W.condT rfl ?_|refine W.condF rfl ?_)
 (first|refine (?_:W _ _ _ _ _)|refine (?_:WL _ _ _ _ _ _)|skip)
 try dsimp only [St.put,Nat.reduceAdd]
 refine W.loop (fun k:Nat=>k≤cs.length) (fun k=>⟨[(1,.sc (.int .i64 0)),(4,.pt 1 0 0),(7,.pt 3 0 0),(26,.sc (.int .i64 cs.length)),(27,.sc (.int .i64 k))],[(1,.box 26 [.sc (.slice none 0 0),.sc (.slice none 0 0)]),(2,.row 70 3 CS),(3,.box 26 [.sl 2,.ls 1 (st.map eInt)])],4⟩) (fun k=>cs.length - k) 0 (by omega) (by rw [← hCl];exact (zqt (fun q=>bif Nat.beq q 3 then 4 else q))) fun k hk=>?_
 by_cases hlt:k < cs.length
 ·have hr:=hrow k hlt
  have hp:=hcp k hlt
  obtain ⟨X,hX⟩:∃ z,cs[k]=z:=⟨_,rfl⟩
  rw [hX] at hr hp
  have hset:CS.set k (putL 0 [.sc (.int .i64 (X.1+0))] [.sc (.int .i64 X.1),.sc (.int .i64 X.2.1),.sc (.bool X.2.2)])=CS:=by
   rw [show X.1+0=X.1 by omega]
   obtain ⟨hl,e⟩:=List.getElem?_eq_some_iff.1 hr
   show CS.set k [.sc (.int .i64 X.1),.sc (.int .i64 X.2.1),.sc (.bool X.2.2)]=CS
   rw [← e,List.set_getElem_self]
  repeat (first|refine WL.vl rfl (WV.nch rfl rfl) ?_|refine W.gob rfl ?_|refine WL.nil ?_|refine WL.bt rfl rfl rfl zqo ?_|refine WL.bf rfl rfl rfl zqo ?_|refine WL.nf rfl rfl rfl zqo ?_|refine WL.e1 rfl ?_|refine WL.gyes rfl rfl rfl rfl ?_|refine WL.ar rfl rfl z42i ?_|refine WL.len rfl rfl rfl ?_|refine WL.ixs rfl rfl zqs ?_|refine W.condT rfl ?_|refine W.condF rfl ?_)
  (first|refine (?_:W _ _ _ _ _)|refine (?_:WL _ _ _ _ _ _)|skip)
  try dsimp only [St.put,Nat.reduceAdd]
  refine WL.ldr rfl rfl hr rfl rfl ?_
  repeat (first|refine WL.vl rfl (WV.nch rfl rfl) ?_|refine W.gob rfl ?_|refine WL.nil ?_|refine WL.bt rfl rfl rfl zqo ?_|refine WL.bf rfl rfl rfl zqo ?_|refine WL.nf rfl rfl rfl zqo ?_|refine WL.e1 rfl ?_|refine WL.gyes rfl rfl rfl rfl ?_|refine WL.ar rfl rfl z42i ?_|refine WL.len rfl rfl rfl ?_|refine WL.ixs rfl rfl zqs ?_|refine W.condT rfl ?_|refine W.condF rfl ?_)
  (first|refine (?_:W _ _ _ _ _)|refine (?_:WL _ _ _ _ _ _)|skip)
  try dsimp only [St.put,Nat.reduceAdd]
  refine WL.sto rfl rfl rfl rfl hr (by show 0+1≤3;omega) ?_
  dsimp only [AV.cells]
  rw [Int.toNat_natCast,hset]
  repeat (first|refine WL.vl rfl (WV.nch rfl rfl) ?_|refine W.gob rfl ?_|refine WL.nil ?_|refine WL.bt rfl rfl rfl zqo ?_|refine WL.bf rfl rfl rfl zqo ?_|refine WL.nf rfl rfl rfl zqo ?_|refine WL.e1 rfl ?_|refine WL.gyes rfl rfl rfl rfl ?_|refine WL.ar rfl rfl z42i ?_|refine WL.len rfl rfl rfl ?_|refine WL.ixs rfl rfl zqs ?_|refine W.condT rfl ?_|refine W.condF rfl ?_)
  (first|refine (?_:W _ _ _ _ _)|refine (?_:WL _ _ _ _ _ _)|skip)
  try dsimp only [St.put,Nat.reduceAdd]
  exact ⟨k+1,by omega,by omega,(zqt id)⟩
 ·obtain rfl:k=cs.length:=by omega
  repeat (first|refine WL.vl rfl (WV.nch rfl rfl) ?_|refine W.gob rfl ?_|refine WL.nil ?_|refine WL.bt rfl rfl rfl zqo ?_|refine WL.bf rfl rfl rfl zqo ?_|refine WL.nf rfl rfl rfl zqo ?_|refine WL.e1 rfl ?_|refine WL.gyes rfl rfl rfl rfl ?_|refine WL.ar rfl rfl z42i ?_|refine WL.len rfl rfl rfl ?_|refine WL.ixs rfl rfl zqs ?_|refine W.condT rfl ?_|refine W.condF rfl ?_)
  (first|refine (?_:W _ _ _ _ _)|refine (?_:WL _ _ _ _ _ _)|skip)
  try dsimp only [St.put,Nat.reduceAdd]
  refine WL.tr (Tr.freeze 2 rfl) ?_
  refine WL.vl rfl (zqc Tryz.func123 hRt) ?_
  repeat (first|refine WL.vl rfl (WV.nch rfl rfl) ?_|refine W.gob rfl ?_|refine WL.nil ?_|refine WL.bt rfl rfl rfl zqo ?_|refine WL.bf rfl rfl rfl zqo ?_|refine WL.nf rfl rfl rfl zqo ?_|refine WL.e1 rfl ?_|refine WL.gyes rfl rfl rfl rfl ?_|refine WL.ar rfl rfl z42i ?_|refine WL.len rfl rfl rfl ?_|refine WL.ixs rfl rfl zqs ?_|refine W.condT rfl ?_|refine W.condF rfl ?_)
  (first|refine (?_:W _ _ _ _ _)|refine (?_:WL _ _ _ _ _ _)|skip)
  try dsimp only [St.put,Nat.reduceAdd]
  exact W.ret (finN rfl rfl rfl rfl)
end
section
open Go.RowKit
theorem uShift (p:Pce) (hO:PcOk p) (h0:pceE p=0) (cs:List (Int×Int×Bool)) (st:List Int) (hI:insE cs st=0) (hl:cs.length=p.cs.length) (b:Int) (hb:-18≤b∧b≤18) :
  Cto truB 0 Tryz.prog 82 [ePce p,.ag [.ls 3 (cs.map eCrs),.ls 1 (st.map eInt)],.sc (.int .i64 b)] [] 0 (.ag [.ls 3 (cs.map eCrs),.ls 1 (st.map eInt),.sl 0])
   [(0,.rwn 45 6 ((p.evs.map (gmE (shF cs b))).map eEvO)),(1,.box 29 [.ls 3 (cs.map eCrs),.ls 1 (st.map eInt),.sl 0])] 2:=by
 have hA:=uAppend p hO h0
 have hT:=uTrans0 cs st hI
 have hn3:=hO.n3
 have hcl:=hO.n1
 have hCl:(cs.map eCrs).length=cs.length:=List.length_map _
 have hCr:=fun (c:Int) (h:1≤c∧c≤cs.length)=>fretsOf_row (cs:=cs) h
 have hRl:∀ k,((mpK (gmE (shF cs b)) k p.evs).map eEvO).length=p.evs.length:=fun k=>by rw [List.length_map,mpK_len]
 have hat:∀ k (h:k < p.evs.length),((mpK (gmE (shF cs b)) k p.evs).map eEvO)[k]?=some [.sc (.bool p.evs[k].bar),.sc (.int .i64 p.evs[k].val),.sc (.bool p.evs[k].dot),.sc (.bool p.evs[k].three),.sc (.bool p.evs[k].tie),.ow 48 5 (p.evs[k].stops.map eStp)]:=fun k h=>by
  rw [List.getElem?_map,mpK_get h];rfl
 have hset:∀ k (h:k < p.evs.length),((mpK (gmE (shF cs b)) k p.evs).map eEvO).set k [.sc (.bool p.evs[k].bar),.sc (.int .i64 p.evs[k].val),.sc (.bool p.evs[k].dot),.sc (.bool p.evs[k].three),.sc (.bool p.evs[k].tie),.ow 48 5 ((mpK (shF cs b) p.evs[k].stops.length p.evs[k].stops).map eStp)]=(mpK (gmE (shF cs b)) (k+1) p.evs).map eEvO:=fun k h=>by
  rw [mpK_all,← mpK_put h,List.map_set];rfl
 have hst:∀ i (hi:i < p.evs.length) k (hk:k < p.evs[i].stops.length),(1≤p.evs[i].stops[k].1∧p.evs[i].stops[k].1≤cs.length)∧(0≤p.evs[i].stops[k].2.1∧p.evs[i].stops[k].2.1≤18):=fun i hi k hk=>by
  have hS:=(evOk_of h0 hi).stops _ (List.getElem_mem hk)
  have:=hS.crs
  exact ⟨by omega,hS.fret.1,hS.f18⟩
 have hPe:ePce p=.ag [.ls 3 (p.cs.map eCrs),.ls 1 (p.st.map eInt),.ls 6 (p.evs.map eEv)]:=rfl
 rw [hPe] at hA ⊢
 obtain ⟨CS,hCS⟩:∃ z,cs.map eCrs=z:=⟨_,rfl⟩
 rw [hCS] at hT hCl ⊢
 simp only [hCS] at hCr
 have hM0:p.evs.map eEvO=(mpK (gmE (shF cs b)) 0 p.evs).map eEvO:=by rw [mpK_0]
 have hMn:(mpK (gmE (shF cs b)) p.evs.length p.evs).map eEvO=(p.evs.map (gmE (shF cs b))).map eEvO:=by rw [mpK_all]
 rw [hM0] at hA
 refine Cto.intro truS Tryz.func82 rfl Tryz.ntmps82 (Nat.le_of_ble_eq_true rfl) rfl fun w0 F0 fp pg hB=>?_
 dsimp only [number,Nat.reduceAdd]
 repeat (first|refine WL.vl rfl (WV.nch rfl rfl) ?_|refine W.gob rfl ?_|refine WL.nil ?_|refine WL.bt rfl rfl rfl zqo ?_|refine WL.bf rfl rfl rfl zqo ?_|refine WL.e1 rfl ?_|refine WL.ar rfl rfl z42i ?_|refine WL.len rfl rfl rfl ?_|refine WL.ixs rfl rfl zqs ?_|refine W.condT rfl ?_|refine W.condF rfl ?_)
 (first|refine (?_:W _ _ _ _ _)|refine (?_:WL _ _ _ _ _ _)|skip)
 try dsimp only [St.put,Nat.reduceAdd]
 refine WL.tr (Tr.nilA (t:=16) 2 6 rfl rfl rfl rfl) ?_
 refine WL.cto (truH _) [] rfl rfl (callF Tryz.func49 rfl rfl) hA rfl rfl rfl trivial rfl rfl rfl rfl ?_
 repeat (first|refine WL.vl rfl (WV.nch rfl rfl) ?_|refine W.gob rfl ?_|refine WL.nil ?_|refine WL.bt rfl rfl rfl zqo ?_|refine WL.bf rfl rfl rfl zqo ?_|refine WL.e1 rfl ?_|refine WL.ar rfl rfl z42i ?_|refine WL.len rfl rfl rfl ?_|refine WL.ixs rfl rfl zqs ?_|refine W.condT rfl ?_|refine W.condF rfl ?_)
 (first|refine (?_:W _ _ _ _ _)|refine (?_:WL _ _ _ _ _ _)|skip)
 try dsimp only [St.put,Nat.reduceAdd]
 refine WL.vl rfl (zqc Tryz.func122 hT) ?_
 repeat (first|refine WL.vl rfl (WV.nch rfl rfl) ?_|refine W.gob rfl ?_|refine WL.nil ?_|refine WL.bt rfl rfl rfl zqo ?_|refine WL.bf rfl rfl rfl zqo ?_|refine WL.e1 rfl ?_|refine WL.ar rfl rfl z42i ?_|refine WL.len rfl rfl rfl ?_|refine WL.ixs rfl rfl zqs ?_|refine W.condT rfl ?_|refine W.condF rfl ?_)
 (first|refine (?_:W _ _ _ _ _)|refine (?_:WL _ _ _ _ _ _)|skip)
 try dsimp only [St.put,Nat.reduceAdd]
 refine W.loop (fun i:Nat=>i≤p.evs.length) (fun i=>⟨[(2,.sc (.int .i64 b)),(4,.pt 1 0 0),(6,.pt 2 0 0),(7,.pt 4 0 0),(28,.sc (.int .i64 p.evs.length)),(29,.sc (.int .i64 i))],[(1,.box 26 [.ls 3 CS,.ls 1 (st.map eInt)]),(2,.box 29 [.sc (.slice none 0 0),.sc (.slice none 0 0),.sc (.slice none 0 0)]),(3,.rwn 45 6 ((mpK (gmE (shF cs b)) i p.evs).map eEvO)),(4,.box 29 [.ls 3 CS,.ls 1 (st.map eInt),.sl 3])],5⟩) (fun i=>p.evs.length - i) 0 (by omega) (by rw [← hRl 0];exact (zqt (fun q=>bif Nat.beq q 4 then 5 else q))) fun i hi=>?_
 have hl2:=hRl i
 by_cases hlt:i < p.evs.length
 ·have h1:=hat i hlt
  have h2:=hset i hlt
  have h3:=hst i hlt
  have h20:=hO.n4 i hlt
  obtain ⟨R,hR⟩:∃ z,(mpK (gmE (shF cs b)) i p.evs).map eEvO=z:=⟨_,rfl⟩
  rw [hR] at h1 h2 hl2 ⊢
  obtain ⟨S,hS⟩:∃ z,p.evs[i].stops=z:=⟨_,rfl⟩
  rw [hS] at h1 h2 h20
  simp only [hS] at h3
  clear hat hset hst hM0 hMn hA hT hR hRl
  refine W.tr (Tr.open_ 3 i 5 rfl h1 rfl (eStp_own S) rfl) ?_
  dsimp only [St.upd,St.new,Nat.reduceAdd]
  have hSl:∀ k,((mpK (shF cs b) k S).map eStp).length=S.length:=fun k=>by rw [List.length_map,mpK_len]
  have hS0:S.map eStp=(mpK (shF cs b) 0 S).map eStp:=by rw [mpK_0]
  have hSl0:(S.map eStp).length=S.length:=List.length_map _
  repeat (first|refine WL.vl rfl (WV.nch rfl rfl) ?_|refine W.gob rfl ?_|refine WL.nil ?_|refine WL.bt rfl rfl rfl zqo ?_|refine WL.bf rfl rfl rfl zqo ?_|refine WL.e1 rfl ?_|refine WL.ar rfl rfl z42i ?_|refine WL.len rfl rfl rfl ?_|refine WL.ixs rfl rfl zqs ?_|refine W.condT rfl ?_|refine W.condF rfl ?_)
  (first|refine (?_:W _ _ _ _ _)|refine (?_:WL _ _ _ _ _ _)|skip)
  try dsimp only [St.put,Nat.reduceAdd]
  refine WL.ldQ rfl rfl rfl rfl h1 (by show 5 < 6;omega) ?_
  repeat (first|refine WL.vl rfl (WV.nch rfl rfl) ?_|refine W.gob rfl ?_|refine WL.nil ?_|refine WL.bt rfl rfl rfl zqo ?_|refine WL.bf rfl rfl rfl zqo ?_|refine WL.e1 rfl ?_|refine WL.ar rfl rfl z42i ?_|refine WL.len rfl rfl rfl ?_|refine WL.ixs rfl rfl zqs ?_|refine W.condT rfl ?_|refine W.condF rfl ?_)
  (first|refine (?_:W _ _ _ _ _)|refine (?_:WL _ _ _ _ _ _)|skip)
  try dsimp only [St.put,Nat.reduceAdd]
  refine W.loop (fun k:Nat=>k≤S.length) (fun k=>⟨[(2,.sc (.int .i64 b)),(4,.pt 1 0 0),(6,.pt 2 0 0),(7,.pt 4 0 0),(28,.sc (.int .i64 p.evs.length)),(29,.sc (.int .i64 i)),(9,.sc (.int .i64 i)),(38,.sc (.int .i64 S.length)),(39,.sc (.int .i64 k))],[(1,.box 26 [.ls 3 CS,.ls 1 (st.map eInt)]),(2,.box 29 [.sc (.slice none 0 0),.sc (.slice none 0 0),.sc (.slice none 0 0)]),(3,.rwo 45 6 R i 5 (.sl 5)),(4,.box 29 [.ls 3 CS,.ls 1 (st.map eInt),.sl 3]),(5,.row 48 5 ((mpK (shF cs b) k S).map eStp))],6⟩) (fun k=>S.length - k) 0 (by omega) (by rw [← hSl0];exact (zqu (fun q=>q) (by repeat (first|exact trivial|refine ⟨⟨?_,?_,?_⟩,?_⟩|rfl|exact congrArg (fun q=>some (AO.row _ _ q)) hS0|exact congrArg (fun q=>some (AO.rwn _ _ q)) hS0)) rfl)) fun k hk=>?_
  have hl3:=hSl k
  by_cases hkl:k < S.length
  ·have g0:=mpK_get (f:=shF cs b) hkl
   have g1:((mpK (shF cs b) k S).map eStp)[k]?=some [.sc (.int .i64 S[k].1),.sc (.int .i64 S[k].2.1),.sc (.int .i64 S[k].2.2.1),.sc (.int .i64 S[k].2.2.2.1),.sc (.int .i64 S[k].2.2.2.2)]:=by
    rw [List.getElem?_map,g0];rfl
   have g2:=congrArg (List.map eStp) (mpK_put (f:=shF cs b) hkl)
   rw [List.map_set] at g2
   obtain ⟨c1,c2⟩:=h3 k hkl
   have g3:=hCr _ c1
   have g4:shF cs b S[k]=if 0 < fretsOf cs S[k].1 then (S[k].1,S[k].2.1+b,S[k].2.2) else S[k]:=rfl
   obtain ⟨K,hK⟩:∃ z,(mpK (shF cs b) k S).map eStp=z:=⟨_,rfl⟩
   rw [hK] at g1 g2 hl3 ⊢
   obtain ⟨F,hF⟩:∃ z,fretsOf cs S[k].1=z:=⟨_,rfl⟩
   rw [hF] at g3 g4
   obtain ⟨X,hX⟩:∃ z,S[k]=z:=⟨_,rfl⟩
   rw [hX] at g1 g2 g3 g4 c1 c2
   clear g0 hK hF hX h3 hSl hS0 hCr
   by_cases hf:0 < F
   ·rw [if_pos hf] at g4
    rw [g4] at g2
    have g5:K.set k (putL 1 [.sc (.int .i64 (X.2.1+b))] [.sc (.int .i64 X.1),.sc (.int .i64 X.2.1),.sc (.int .i64 X.2.2.1),.sc (.int .i64 X.2.2.2.1),.sc (.int .i64 X.2.2.2.2)])=(mpK (shF cs b) (k+1) S).map eStp:=g2
    clear g2 g4
    repeat (first|refine WL.vl rfl (WV.nch rfl rfl) ?_|refine W.gob rfl ?_|refine WL.nil ?_|refine WL.bt rfl rfl rfl zqo ?_|refine WL.bf rfl rfl rfl zqo ?_|refine WL.e1 rfl ?_|refine WL.ar rfl rfl z42i ?_|refine WL.len rfl rfl rfl ?_|refine WL.ixs rfl rfl zqs ?_|refine W.condT rfl ?_|refine W.condF rfl ?_)
    (first|refine (?_:W _ _ _ _ _)|refine (?_:WL _ _ _ _ _ _)|skip)
    try dsimp only [St.put,Nat.reduceAdd]
    refine WL.ldQ rfl rfl rfl rfl h1 (by show 5 < 6;omega) ?_
    repeat (first|refine WL.vl rfl (WV.nch rfl rfl) ?_|refine W.gob rfl ?_|refine WL.nil ?_|refine WL.bt rfl rfl rfl zqo ?_|refine WL.bf rfl rfl rfl zqo ?_|refine WL.e1 rfl ?_|refine WL.ar rfl rfl z42i ?_|refine WL.len rfl rfl rfl ?_|refine WL.ixs rfl rfl zqs ?_|refine W.condT rfl ?_|refine W.condF rfl ?_)
    (first|refine (?_:W _ _ _ _ _)|refine (?_:WL _ _ _ _ _ _)|skip)
    try dsimp only [St.put,Nat.reduceAdd]
    refine W.drawK zqk zqk ?_
    repeat (first|refine DK.vl rfl (WV.nch rfl rfl) ?_|refine DK.bt rfl rfl zqo ?_|refine DK.bf rfl rfl zqo ?_|refine DK.st rfl ?_|refine DK.ar rfl rfl z42i ?_|refine DK.nil ?_)
    refine DK.ldr rfl rfl g1 rfl rfl ?_
    repeat (first|refine DK.vl rfl (WV.nch rfl rfl) ?_|refine DK.bt rfl rfl zqo ?_|refine DK.bf rfl rfl zqo ?_|refine DK.st rfl ?_|refine DK.ar rfl rfl z42i ?_|refine DK.nil ?_)
    refine DK.idx rfl rfl zqo g3 ?_
    repeat (first|refine DK.vl rfl (WV.nch rfl rfl) ?_|refine DK.bt rfl rfl zqo ?_|refine DK.bf rfl rfl zqo ?_|refine DK.st rfl ?_|refine DK.ar rfl rfl z42i ?_|refine DK.nil ?_)
    repeat (first|refine WL.vl rfl (WV.nch rfl rfl) ?_|refine W.gob rfl ?_|refine WL.nil ?_|refine WL.bt rfl rfl rfl zqo ?_|refine WL.bf rfl rfl rfl zqo ?_|refine WL.e1 rfl ?_|refine WL.ar rfl rfl z42i ?_|refine WL.len rfl rfl rfl ?_|refine WL.ixs rfl rfl zqs ?_|refine W.condT rfl ?_|refine W.condF rfl ?_)
    (first|refine (?_:W _ _ _ _ _)|refine (?_:WL _ _ _ _ _ _)|skip)
    try dsimp only [St.put,Nat.reduceAdd]
    refine WL.ldr rfl rfl g1 rfl rfl ?_
    repeat (first|refine WL.vl rfl (WV.nch rfl rfl) ?_|refine W.gob rfl ?_|refine WL.nil ?_|refine WL.bt rfl rfl rfl zqo ?_|refine WL.bf rfl rfl rfl zqo ?_|refine WL.e1 rfl ?_|refine WL.ar rfl rfl z42i ?_|refine WL.len rfl rfl rfl ?_|refine WL.ixs rfl rfl zqs ?_|refine W.condT rfl ?_|refine W.condF rfl ?_)
    (first|refine (?_:W _ _ _ _ _)|refine (?_:WL _ _ _ _ _ _)|skip)
    try dsimp only [St.put,Nat.reduceAdd]
    refine WL.sto rfl rfl rfl rfl g1 (by show 1+1≤5;omega) ?_
    repeat (first|refine WL.vl rfl (WV.nch rfl rfl) ?_|refine W.gob rfl ?_|refine WL.nil ?_|refine WL.bt rfl rfl rfl zqo ?_|refine WL.bf rfl rfl rfl zqo ?_|refine WL.e1 rfl ?_|refine WL.ar rfl rfl z42i ?_|refine WL.len rfl rfl rfl ?_|refine WL.ixs rfl rfl zqs ?_|refine W.condT rfl ?_|refine W.condF rfl ?_)
    (first|refine (?_:W _ _ _ _ _)|refine (?_:WL _ _ _ _ _ _)|skip)
    try dsimp only [St.put,Nat.reduceAdd]
    exact ⟨k+1,by omega,by omega,(zqu (fun q=>q) (by repeat (first|exact trivial|refine ⟨⟨?_,?_,?_⟩,?_⟩|rfl|exact congrArg (fun q=>some (AO.row _ _ q)) g5|exact congrArg (fun q=>some (AO.rwn _ _ q)) g5)) rfl)⟩
   ·rw [if_neg hf] at g4
    rw [g4] at g2
    have g5:K=(mpK (shF cs b) (k+1) S).map eStp:=by
     rw [← g2]
     obtain ⟨hl,e⟩:=List.getElem?_eq_some_iff.1 g1
     exact (by rw [show eStp X=K[k] from e.symm,List.set_getElem_self]:K.set k (eStp X)=K).symm
    clear g2 g4
    repeat (first|refine WL.vl rfl (WV.nch rfl rfl) ?_|refine W.gob rfl ?_|refine WL.nil ?_|refine WL.bt rfl rfl rfl zqo ?_|refine WL.bf rfl rfl rfl zqo ?_|refine WL.e1 rfl ?_|refine WL.ar rfl rfl z42i ?_|refine WL.len rfl rfl rfl ?_|refine WL.ixs rfl rfl zqs ?_|refine W.condT rfl ?_|refine W.condF rfl ?_)
    (first|refine (?_:W _ _ _ _ _)|refine (?_:WL _ _ _ _ _ _)|skip)
    try dsimp only [St.put,Nat.reduceAdd]
    refine WL.ldQ rfl rfl rfl rfl h1 (by show 5 < 6;omega) ?_
    repeat (first|refine WL.vl rfl (WV.nch rfl rfl) ?_|refine W.gob rfl ?_|refine WL.nil ?_|refine WL.bt rfl rfl rfl zqo ?_|refine WL.bf rfl rfl rfl zqo ?_|refine WL.e1 rfl ?_|refine WL.ar rfl rfl z42i ?_|refine WL.len rfl rfl rfl ?_|refine WL.ixs rfl rfl zqs ?_|refine W.condT rfl ?_|refine W.condF rfl ?_)
    (first|refine (?_:W _ _ _ _ _)|refine (?_:WL _ _ _ _ _ _)|skip)
    try dsimp only [St.put,Nat.reduceAdd]
    refine W.drawK zqk zqk ?_
    repeat (first|refine DK.vl rfl (WV.nch rfl rfl) ?_|refine DK.bt rfl rfl zqo ?_|refine DK.bf rfl rfl zqo ?_|refine DK.st rfl ?_|refine DK.ar rfl rfl z42i ?_|refine DK.nil ?_)
    refine DK.ldr rfl rfl g1 rfl rfl ?_
    repeat (first|refine DK.vl rfl (WV.nch rfl rfl) ?_|refine DK.bt rfl rfl zqo ?_|refine DK.bf rfl rfl zqo ?_|refine DK.st rfl ?_|refine DK.ar rfl rfl z42i ?_|refine DK.nil ?_)
    refine DK.idx rfl rfl zqo g3 ?_
    repeat (first|refine DK.vl rfl (WV.nch rfl rfl) ?_|refine DK.bt rfl rfl zqo ?_|refine DK.bf rfl rfl zqo ?_|refine DK.st rfl ?_|refine DK.ar rfl rfl z42i ?_|refine DK.nil ?_)
    repeat (first|refine WL.vl rfl (WV.nch rfl rfl) ?_|refine W.gob rfl ?_|refine WL.nil ?_|refine WL.bt rfl rfl rfl zqo ?_|refine WL.bf rfl rfl rfl zqo ?_|refine WL.e1 rfl ?_|refine WL.ar rfl rfl z42i ?_|refine WL.len rfl rfl rfl ?_|refine WL.ixs rfl rfl zqs ?_|refine W.condT rfl ?_|refine W.condF rfl ?_)
    (first|refine (?_:W _ _ _ _ _)|refine (?_:WL _ _ _ _ _ _)|skip)
    try dsimp only [St.put,Nat.reduceAdd]
    exact ⟨k+1,by omega,by omega,(zqu (fun q=>q) (by repeat (first|exact trivial|refine ⟨⟨?_,?_,?_⟩,?_⟩|rfl|exact congrArg (fun q=>some (AO.row _ _ q)) g5|exact congrArg (fun q=>some (AO.rwn _ _ q)) g5)) rfl)⟩
  ·obtain rfl:k=S.length:=by omega
   repeat (first|refine WL.vl rfl (WV.nch rfl rfl) ?_|refine W.gob rfl ?_|refine WL.nil ?_|refine WL.bt rfl rfl rfl zqo ?_|refine WL.bf rfl rfl rfl zqo ?_|refine WL.e1 rfl ?_|refine WL.ar rfl rfl z42i ?_|refine WL.len rfl rfl rfl ?_|refine WL.ixs rfl rfl zqs ?_|refine W.condT rfl ?_|refine W.condF rfl ?_)
   (first|refine (?_:W _ _ _ _ _)|refine (?_:WL _ _ _ _ _ _)|skip)
   try dsimp only [St.put,Nat.reduceAdd]
   refine ⟨i+1,by omega,by omega,?_⟩
   refine Tr.trans (Tr.close_ 3 rfl rfl rfl h1 (by show 5 < 6;omega) h2) ?_
   exact (zqt id)
 ·obtain rfl:i=p.evs.length:=by omega
  rw [hMn]
  repeat (first|refine WL.vl rfl (WV.nch rfl rfl) ?_|refine W.gob rfl ?_|refine WL.nil ?_|refine WL.bt rfl rfl rfl zqo ?_|refine WL.bf rfl rfl rfl zqo ?_|refine WL.e1 rfl ?_|refine WL.ar rfl rfl z42i ?_|refine WL.len rfl rfl rfl ?_|refine WL.ixs rfl rfl zqs ?_|refine W.condT rfl ?_|refine W.condF rfl ?_)
  (first|refine (?_:W _ _ _ _ _)|refine (?_:WL _ _ _ _ _ _)|skip)
  try dsimp only [St.put,Nat.reduceAdd]
  refine W.tr (σ':=⟨[(6,.pt 1 0 0)],[(0,.rwn 45 6 ((p.evs.map (gmE (shF cs b))).map eEvO)),(1,.box 29 [.ls 3 CS,.ls 1 (st.map eInt),.sl 0])],2⟩) (zqt (fun q=>bif Nat.beq q 0 then 3 else bif Nat.beq q 1 then 2 else q)) ?_
  exact W.ret (finM rfl rfl rfl rfl rfl)
end
end Go.Proofs.YtaeelcfjkhfpkaaGreat
