/- A piece carried over: the program's carry, Reduce. (RWN.) -/
import Derived.Test.YtockempedekkkaaGreatDoorYVJq
import Derived.Test.YtockempedekkkaaGreatDoorYOJq
import Derived.Test.YtockempedekkkaaGreatDoorYZJq
set_option maxHeartbeats 8000000
set_option maxRecDepth 100000
set_option linter.unusedVariables false
set_option linter.unusedSimpArgs false
namespace Go.Proofs.YtockempedekkkaaGreatDoor
open Go.RowKit
theorem z53i {z:Int} (h:I64 z:=by unfold I64;omega):I64 z:=h
theorem carryB (s:Int) (hs:1≤s∧s≤4) (p:Pce) (hO:PcOk p) (h0:pceE p=0) (H:Nat→Stp→Int) (hH:zrL (lksR s ⟨p.cs,p.st,fnL (ftH (nwL (redC s) p.evs)) (nwL (redC s) p.evs)⟩) (fnL (ftH (nwL (redC s) p.evs)) (nwL (redC s) p.evs))=fnL H (nwL (redC s) p.evs))
  (hZ:∀ x∈lksR s ⟨p.cs,p.st,fnL (ftH (nwL (redC s) p.evs)) (nwL (redC s) p.evs)⟩,x.2.2=4→∃ (i:Nat) (hi:i < (fnL (ftH (nwL (redC s) p.evs)) (nwL (redC s) p.evs)).length) (k:Nat) (hk:k < (fnL (ftH (nwL (redC s) p.evs)) (nwL (redC s) p.evs))[i].stops.length),x.1=i∧(fnL (ftH (nwL (redC s) p.evs)) (nwL (redC s) p.evs))[i].stops[k].1=x.2.1) :
  Ctr Tryz.prog 38 [.ag [.ls 3 (p.cs.map eCrs),.ls 1 (p.st.map eInt),.sc (.bool (!hasS s 7)),.fn 34 [.pr [.sc (.bool (hasS s 7))],.pr [.sc (.bool (hasS s 8))]],.fn 32 [.pr [.sc (.int .u8 s)]],.fn 35 [.pr [.sc (.int .u8 s)]],.fn 37 [.pr [.sc (.int .u8 s)]]],ePce p] (.tu [ePce ⟨p.cs,p.st,fnL H (nwL (redC s) p.evs)⟩,.ls 3 ((lsL (redC s) H p.evs p.evs.length).map eLk)]):=by
 obtain ⟨_,h400,_⟩:=pceE_zero h0
 have h20:∀ e∈p.evs,e.stops.length≤20:=fun e he=>by
  obtain ⟨i,hi,rfl⟩:=List.getElem_of_mem he
  exact hO.n4 i hi
 have hAsc:∀ e∈p.evs,e.stops.Pairwise fun x y=>x.1 < y.1:=fun e he=>by
  obtain ⟨i,hi,rfl⟩:=List.getElem_of_mem he
  exact (evOk_of h0 hi).asc
 have hNl:=nwL_len (redC s) p.evs
 have hN20:∀ e∈(nwL (redC s) p.evs),e.stops.length≤20:=fun e he=>by
  obtain ⟨i,hi,rfl⟩:=List.getElem_of_mem he
  have hi':i < p.evs.length:=by rw [nwL_len] at hi;exact hi
  rw [nwL_get hi']
  exact Nat.le_trans (nwS_len _ _) (hO.n4 i hi')
 have hLo:=yLoss_FS (redC s) H p.evs p.cs p.st zqo h20 (redC_ml s) redC_crs hAsc
 have hone:∀ k (hk:k < p.evs.length),Cto truB 0 Tryz.prog 67 [.ag [.ls 3 (p.cs.map eCrs),.ls 1 (p.st.map eInt),.sc (.bool (!hasS s 7)),.fn 34 [.pr [.sc (.bool (hasS s 7))],.pr [.sc (.bool (hasS s 8))]],.fn 32 [.pr [.sc (.int .u8 s)]],.fn 35 [.pr [.sc (.int .u8 s)]],.fn 37 [.pr [.sc (.int .u8 s)]]],.pt 0 0 0,.sc (.bool (decide (k=0)))] [(0,.box 44 (eEv p.evs[k]))] 1 (.ag (eOc (evT (redC s) k p.evs[k]) (ocN (redC s) p.evs[k].stops) (ocG (redC s) p.evs[k].stops)))
   [(0,.box 44 (eEvS (nwE (redC s) k p.evs[k]) 1)),(1,.row 41 5 ((nwS (redC s) p.evs[k].stops).map eStp)),(2,.box 136 (eOc (evT (redC s) k p.evs[k]) (ocN (redC s) p.evs[k].stops) (ocG (redC s) p.evs[k].stops)))] 3:=fun k hk=>by
  have hE:=evOk_of h0 hk
  by_cases hz:p.evs[k].stops=[]
  ·exact oneB_0 s p.cs p.st k p.evs[k] hz
  ·refine oneB_1 s hs p.cs p.st k p.evs[k] hz hE.asc (asc14 hE.asc fun x hx=>⟨(hE.stops x hx).crs.1,(hE.stops x hx).c14⟩) fun j hj=>?_
   obtain ⟨a,b,c,d,_⟩:=stopsIn_of h0 k hk j hj
   exact ⟨a,b,c,d⟩
 have hrow1:∀ k (hk:k < p.evs.length),((ocA (redC s) p.evs).take k).map eOcR++[eOc (evT (redC s) k p.evs[k]) (ocN (redC s) p.evs[k].stops) (ocG (redC s) p.evs[k].stops)]=((ocA (redC s) p.evs).take (k+1)).map eOcR:=fun k hk=>by
  rw [List.take_succ_eq_append_getElem (by rw [ocA_len];exact hk),List.map_append]
  congr 1
  simp only [ocA,List.getElem_mapIdx]
  rfl
 have hrow2:∀ k (hk:k < p.evs.length),((nwL (redC s) p.evs).take k).map eEvO++[eEvO (nwE (redC s) k p.evs[k])]=((nwL (redC s) p.evs).take (k+1)).map eEvO:=fun k hk=>by
  rw [List.take_succ_eq_append_getElem (by rw [nwL_len];exact hk),List.map_append,nwL_get hk];rfl
 have hAl:(ocA (redC s) p.evs).length=p.evs.length:=ocA_len _ _
 refine zqe Tryz.func38 Tryz.ntmps38 fun w0 F0=>?_;dsimp only [St.init,number,Nat.reduceAdd]
 repeat (first|refine W.go rfl ?_|refine WL.nil ?_|refine WL.ev rfl ?_|refine WL.ar rfl rfl z53i ?_|refine WL.len rfl rfl zql ?_|refine WL.idx rfl rfl zqo zqm ?_|refine WL.ixs rfl rfl zqs ?_|refine WL.app rfl rfl rfl zqs ?_|refine W.condT rfl ?_|refine W.condF rfl ?_)
 (first|refine (?_:W _ _ _ _ _)|refine (?_:WL _ _ _ _ _ _)|skip)
 try dsimp only [St.put,Nat.reduceAdd]
 refine W.tr (Tr.nil (t:=7) 136 3 rfl rfl) ?_
 refine W.tr (Tr.nilBox (k:=3) (j:=2) 44 6 rfl rfl rfl rfl) ?_
 refine W.tr (Tr.widen 5 rfl) ?_
 dsimp only [St.put,St.new,St.upd,Nat.reduceAdd]
 repeat (first|refine W.go rfl ?_|refine WL.nil ?_|refine WL.ev rfl ?_|refine WL.ar rfl rfl z53i ?_|refine WL.len rfl rfl zql ?_|refine WL.idx rfl rfl zqo zqm ?_|refine WL.ixs rfl rfl zqs ?_|refine WL.app rfl rfl rfl zqs ?_|refine W.condT rfl ?_|refine W.condF rfl ?_)
 (first|refine (?_:W _ _ _ _ _)|refine (?_:WL _ _ _ _ _ _)|skip)
 try dsimp only [St.put,Nat.reduceAdd]
 refine W.loop (fun k:Nat=>k≤p.evs.length) (fun k=>⟨[(2,.pt 0 0 0),(3,.pt 1 0 0),(4,.pt 2 0 0),(6,.pt 3 0 0),(7,.sl 4),(21,.ls 6 (p.evs.map eEv)),(22,.sc (.int .i64 p.evs.length)),(23,.sc (.int .i64 k))],[(0,.box 88 [.ls 3 (p.cs.map eCrs),.ls 1 (p.st.map eInt),.sc (.bool (!hasS s 7)),.fn 34 [.pr [.sc (.bool (hasS s 7))],.pr [.sc (.bool (hasS s 8))]],.fn 32 [.pr [.sc (.int .u8 s)]],.fn 35 [.pr [.sc (.int .u8 s)]],.fn 37 [.pr [.sc (.int .u8 s)]]]),(1,.box 47 [.ls 3 (p.cs.map eCrs),.ls 1 (p.st.map eInt),.ls 6 (p.evs.map eEv)]),(2,.box 47 [.sc (.slice none 0 0),.sc (.slice none 0 0),.sc (.slice none 0 0)]),(3,.box 47 [.ls 3 (p.cs.map eCrs),.ls 1 (p.st.map eInt),.sl 5]),(4,.row 136 3 (((ocA (redC s) p.evs).take k).map eOcR)),(5,.rwn 44 6 (((nwL (redC s) p.evs).take k).map eEvO))],6⟩) (fun k=>p.evs.length - k) 0 (by omega) (zqt id) fun k hk=>?_
 by_cases hlt:k < p.evs.length
 ·have hr1:=hrow1 k hlt
  have hr2:=hrow2 k hlt
  have ho:=hone k hlt
  have l1:(((ocA (redC s) p.evs).take k).map eOcR).length=k:=by rw [List.length_map,List.length_take,hAl];omega
  have l2:(((nwL (redC s) p.evs).take k).map eEvO).length=k:=by rw [List.length_map,List.length_take,hNl];omega
  obtain ⟨R1,hR1⟩:∃ z,((ocA (redC s) p.evs).take k).map eOcR=z:=⟨_,rfl⟩
  obtain ⟨R2,hR2⟩:∃ z,((nwL (redC s) p.evs).take k).map eEvO=z:=⟨_,rfl⟩
  rw [hR1] at hr1 l1 ⊢
  rw [hR2] at hr2 l2 ⊢
  clear hR1 hR2 hone hrow1 hrow2 hLo
  obtain ⟨b,hb⟩:∃ b,decide (k=0)=b:=⟨_,rfl⟩
  rw [hb] at ho
  have hbk:(b=true∧(k:Int)=0)∨(b=false∧(k:Int)≠0):=by
   cases b with
   | true=>exact .inl ⟨rfl,by have:=of_decide_eq_true hb;omega⟩
   | false=>exact .inr ⟨rfl,by have:=of_decide_eq_false hb;omega⟩
  clear hb
  rcases hbk with ⟨rfl,hk0⟩|⟨rfl,hk0⟩
  all_goals
   repeat (first|refine W.gob rfl ?_|refine WL.nil ?_|refine WL.bt rfl rfl rfl zqo ?_|refine WL.bf rfl rfl rfl zqo ?_|refine WL.e1 rfl ?_|refine WL.ar rfl rfl z53i ?_|refine WL.len rfl rfl zql ?_|refine WL.idx rfl rfl zqo zqm ?_|refine WL.ixs rfl rfl zqs ?_|refine WL.app rfl rfl rfl zqs ?_|refine W.condT rfl ?_|refine W.condF rfl ?_)
   (first|refine (?_:W _ _ _ _ _)|refine (?_:WL _ _ _ _ _ _)|skip)
   try dsimp only [St.put,Nat.reduceAdd]
   refine WL.cto (truH _) [6] rfl rfl (callF Tryz.func67 rfl rfl) ho rfl rfl rfl ⟨⟨rfl,rfl,rfl⟩,trivial⟩ rfl rfl rfl rfl ?_
   repeat (first|refine W.gob rfl ?_|refine WL.nil ?_|refine WL.bt rfl rfl rfl zqo ?_|refine WL.bf rfl rfl rfl zqo ?_|refine WL.e1 rfl ?_|refine WL.ar rfl rfl z53i ?_|refine WL.len rfl rfl zql ?_|refine WL.idx rfl rfl zqo zqm ?_|refine WL.ixs rfl rfl zqs ?_|refine WL.app rfl rfl rfl zqs ?_|refine W.condT rfl ?_|refine W.condF rfl ?_)
   (first|refine (?_:W _ _ _ _ _)|refine (?_:WL _ _ _ _ _ _)|skip)
   try dsimp only [St.put,Nat.reduceAdd]
   refine WL.bdO 5 rfl rfl rfl rfl ?_
   refine WL.tr (Tr.close_ 12 (m:=7) rfl rfl rfl rfl (by show 5 < 6;omega) rfl) ?_
   dsimp only [St.upd,St.drop,rem,cond,Nat.beq]
   refine WL.apM rfl rfl rfl rfl (by show R2.length+1≤1000000000;omega) ?_
   repeat (first|refine W.gob rfl ?_|refine WL.nil ?_|refine WL.bt rfl rfl rfl zqo ?_|refine WL.bf rfl rfl rfl zqo ?_|refine WL.e1 rfl ?_|refine WL.ar rfl rfl z53i ?_|refine WL.len rfl rfl zql ?_|refine WL.idx rfl rfl zqo zqm ?_|refine WL.ixs rfl rfl zqs ?_|refine WL.app rfl rfl rfl zqs ?_|refine W.condT rfl ?_|refine W.condF rfl ?_)
   (first|refine (?_:W _ _ _ _ _)|refine (?_:WL _ _ _ _ _ _)|skip)
   try dsimp only [St.put,Nat.reduceAdd]
   refine ⟨k+1,by omega,by omega,?_⟩
   exact (zqu (fun q=>bif Nat.beq q 4 then 11 else bif Nat.beq q 5 then 13 else q) (by repeat (first|exact trivial|refine ⟨⟨?_,?_,?_⟩,?_⟩|rfl|exact congrArg (fun q=>some (AO.row _ _ q)) hr1|exact congrArg (fun q=>some (AO.rwn _ _ q)) hr1|exact congrArg (fun q=>some (AO.row _ _ q)) hr2|exact congrArg (fun q=>some (AO.rwn _ _ q)) hr2)) rfl)
 obtain rfl:k=p.evs.length:=by omega
 rw [List.take_of_length_le (by omega:(ocA (redC s) p.evs).length≤p.evs.length),List.take_of_length_le (by omega:(nwL (redC s) p.evs).length≤p.evs.length)]
 have hAl2:((ocA (redC s) p.evs).map eOcR).length=p.evs.length:=by rw [List.length_map,hAl]
 obtain ⟨AL,hAL⟩:∃ z,(ocA (redC s) p.evs).map eOcR=z:=⟨_,rfl⟩
 rw [hAL] at hLo hAl2 ⊢
 obtain ⟨EV,hEV⟩:∃ z,p.evs.map eEv=z:=⟨_,rfl⟩
 rw [hEV]
 have hL4:=red4O s ⟨p.cs,p.st,fnL (ftH (nwL (redC s) p.evs)) (nwL (redC s) p.evs)⟩ ⟨hO.n1,hO.n2,by show (fnL (ftH (nwL (redC s) p.evs)) (nwL (redC s) p.evs)).length≤420;rw [fnL_len,hNl];exact hO.n3,fun k hk=>by
  have hk1:k < (nwL (redC s) p.evs).length:=by
   have hk:k < (fnL (ftH (nwL (redC s) p.evs)) (nwL (redC s) p.evs)).length:=hk
   rw [fnL_len] at hk;exact hk
  show (fnL (ftH (nwL (redC s) p.evs)) (nwL (redC s) p.evs))[k].stops.length≤20
  rw [fnL_get hk1]
  show (List.map _ _).length≤20
  rw [List.length_map]
  exact hN20 _ (List.getElem_mem hk1)⟩
 have hLlen:(lksR s ⟨p.cs,p.st,fnL (ftH (nwL (redC s) p.evs)) (nwL (redC s) p.evs)⟩).length≤30000:=hL4.1
 have hL4:=hL4.2
 have hNas:∀ e∈fnL (ftH (nwL (redC s) p.evs)) (nwL (redC s) p.evs),e.stops.Pairwise fun x y=>x.1 < y.1:=fnL_asc (by
  intro e he
  obtain ⟨i,hi,rfl⟩:=List.getElem_of_mem he
  have hi':i < p.evs.length:=by rw [nwL_len] at hi;exact hi
  rw [nwL_get hi']
  exact nwS_asc redC_crs (hAsc _ (List.getElem_mem hi')))
 have hNW400:(nwL (redC s) p.evs).length≤400:=by omega
 clear hone hrow1 hrow2 hAL hEV
 obtain ⟨NW,hNW⟩:∃ z,(nwL (redC s) p.evs)=z:=⟨_,rfl⟩
 rw [hNW] at hNl hN20 hLo hNW400 hL4 hLlen hH hZ hNas
 rw [hNW]
 clear hNW
 obtain ⟨H0,hH0⟩:∃ z,ftH NW=z:=⟨_,rfl⟩
 rw [hH0] at hL4 hLlen hH hZ hNas
 skip
 repeat (first|refine W.gob rfl ?_|refine WL.nil ?_|refine WL.bt rfl rfl rfl zqo ?_|refine WL.bf rfl rfl rfl zqo ?_|refine WL.e1 rfl ?_|refine WL.ar rfl rfl z53i ?_|refine WL.len rfl rfl zql ?_|refine WL.idx rfl rfl zqo zqm ?_|refine WL.ixs rfl rfl zqs ?_|refine WL.app rfl rfl rfl zqs ?_|refine W.condT rfl ?_|refine W.condF rfl ?_)
 (first|refine (?_:W _ _ _ _ _)|refine (?_:WL _ _ _ _ _ _)|skip)
 try dsimp only [St.put,Nat.reduceAdd]
 rw [show NW.map eEvO=(fnN H0 NW 0 0).map eEvO by rw [fnN_0]]
 refine W.loop (fun n:Nat=>n≤NW.length) (fun n=>⟨[(2,.pt 0 0 0),(4,.pt 2 0 0),(6,.pt 3 0 0),(7,.sl 4),(45,.sc (.int .i64 NW.length)),(46,.sc (.int .i64 n))],[(0,.box 88 [.ls 3 (p.cs.map eCrs),.ls 1 (p.st.map eInt),.sc (.bool (!hasS s 7)),.fn 34 [.pr [.sc (.bool (hasS s 7))],.pr [.sc (.bool (hasS s 8))]],.fn 32 [.pr [.sc (.int .u8 s)]],.fn 35 [.pr [.sc (.int .u8 s)]],.fn 37 [.pr [.sc (.int .u8 s)]]]),(2,.box 47 [.sc (.slice none 0 0),.sc (.slice none 0 0),.sc (.slice none 0 0)]),(3,.box 47 [.ls 3 (p.cs.map eCrs),.ls 1 (p.st.map eInt),.sl 5]),(4,.row 136 3 AL),(5,.rwn 44 6 ((fnN H0 NW n 0).map eEvO))],6⟩) (fun n=>NW.length - n) 0 (by omega) (zqt id) fun n hn=>?_
 have hnl:((fnN H0 NW n 0).map eEvO).length=NW.length:=by rw [List.length_map,fnN_len]
 by_cases hlt:n < NW.length
 ·have hat0:(fnN H0 NW n 0)[n]'(by rw [fnN_len];exact hlt)=NW[n]:=fnN_0at hlt
  have hlt2:n < (fnN H0 NW n 0).length:=by rw [fnN_len];exact hlt
  have hat:((fnN H0 NW n 0).map eEvO)[n]?=some (eEvO NW[n]):=by rw [evO_at hlt2,hat0]
  have hn20:=hN20 _ (List.getElem_mem hlt)
  repeat (first|refine W.gob rfl ?_|refine WL.nil ?_|refine WL.bt rfl rfl rfl zqo ?_|refine WL.bf rfl rfl rfl zqo ?_|refine WL.e1 rfl ?_|refine WL.ar rfl rfl z53i ?_|refine WL.len rfl rfl zql ?_|refine WL.idx rfl rfl zqo zqm ?_|refine WL.ixs rfl rfl zqs ?_|refine WL.app rfl rfl rfl zqs ?_|refine W.condT rfl ?_|refine W.condF rfl ?_)
  (first|refine (?_:W _ _ _ _ _)|refine (?_:WL _ _ _ _ _ _)|skip)
  try dsimp only [St.put,Nat.reduceAdd]
  refine WL.tr (Tr.open_ 5 n 5 rfl hat rfl (eStp_own _) rfl) ?_
  dsimp only [St.upd,St.new,Nat.reduceAdd]
  repeat (first|refine W.gob rfl ?_|refine WL.nil ?_|refine WL.bt rfl rfl rfl zqo ?_|refine WL.bf rfl rfl rfl zqo ?_|refine WL.e1 rfl ?_|refine WL.ar rfl rfl z53i ?_|refine WL.len rfl rfl zql ?_|refine WL.idx rfl rfl zqo zqm ?_|refine WL.ixs rfl rfl zqs ?_|refine WL.app rfl rfl rfl zqs ?_|refine W.condT rfl ?_|refine W.condF rfl ?_)
  (first|refine (?_:W _ _ _ _ _)|refine (?_:WL _ _ _ _ _ _)|skip)
  try dsimp only [St.put,Nat.reduceAdd]
  refine WL.ldQ rfl rfl rfl rfl hat (by show 5 < 6;omega) ?_
  repeat (first|refine W.gob rfl ?_|refine WL.nil ?_|refine WL.bt rfl rfl rfl zqo ?_|refine WL.bf rfl rfl rfl zqo ?_|refine WL.e1 rfl ?_|refine WL.ar rfl rfl z53i ?_|refine WL.len rfl rfl zql ?_|refine WL.idx rfl rfl zqo zqm ?_|refine WL.ixs rfl rfl zqs ?_|refine WL.app rfl rfl rfl zqs ?_|refine W.condT rfl ?_|refine W.condF rfl ?_)
  (first|refine (?_:W _ _ _ _ _)|refine (?_:WL _ _ _ _ _ _)|skip)
  try dsimp only [St.put,Nat.reduceAdd]
  refine W.loop (fun j:Nat=>j≤NW[n].stops.length) (fun j=>⟨[(2,.pt 0 0 0),(4,.pt 2 0 0),(6,.pt 3 0 0),(7,.sl 4),(11,.sc (.int .i64 n)),(45,.sc (.int .i64 NW.length)),(46,.sc (.int .i64 n)),(55,.sc (.int .i64 NW[n].stops.length)),(56,.sc (.int .i64 j))],[(0,.box 88 [.ls 3 (p.cs.map eCrs),.ls 1 (p.st.map eInt),.sc (.bool (!hasS s 7)),.fn 34 [.pr [.sc (.bool (hasS s 7))],.pr [.sc (.bool (hasS s 8))]],.fn 32 [.pr [.sc (.int .u8 s)]],.fn 35 [.pr [.sc (.int .u8 s)]],.fn 37 [.pr [.sc (.int .u8 s)]]]),(2,.box 47 [.sc (.slice none 0 0),.sc (.slice none 0 0),.sc (.slice none 0 0)]),(3,.box 47 [.ls 3 (p.cs.map eCrs),.ls 1 (p.st.map eInt),.sl 5]),(4,.row 136 3 AL),(5,.rwo 44 6 ((fnN H0 NW n 0).map eEvO) n 5 (.sl 6)),(6,.row 41 5 ((fnK H0 n j NW[n].stops).map eStp))],7⟩) (fun j=>NW[n].stops.length - j) 0 (by omega) (zqu (fun q=>q) (by repeat (first|exact trivial|refine ⟨⟨?_,?_,?_⟩,?_⟩|rfl|exact congrArg (fun q=>some (AO.row _ _ q)) (by rw [fnK_0])|exact congrArg (fun q=>some (AO.rwn _ _ q)) (by rw [fnK_0]))) rfl) fun j hj=>?_
  have hjl:((fnK H0 n j NW[n].stops).map eStp).length=NW[n].stops.length:=by rw [List.length_map,fnK_len]
  by_cases hjt:j < NW[n].stops.length
  ·have hKj:=fnK_get (H:=H0) (n:=n) hjt
   have hput:=fnK_put (H:=H0) (n:=n) hjt
   have hkl:=fnK_len H0 n j NW[n].stops
   have hkc:=fnK_crs H0 n j NW[n].stops
   have hH0x:H0 n NW[n].stops[j]=if NW[n].stops[j].2.1=0 then 0 else min NW[n].stops[j].2.2.2.2 (longestN NW n NW[n].stops[j].1:Int):=by rw [← hH0];rfl
   have hLong:∀ K:List Stp,K.length=NW[n].stops.length→K.map (fun x=>x.1)=NW[n].stops.map (fun x=>x.1)→∀ c,Ctr Tryz.prog 68 [.ag [.ls 3 (p.cs.map eCrs),.ls 1 (p.st.map eInt),.ls 6 ((evK (fnN H0 NW n 0) n K).map eEv)],.sc (.int .i64 n),.sc (.int .i64 c)] (.sc (.int .i64 (longestN NW n c))):=fun K hK hKc c=>by
    have h:=yLong_FS ⟨p.cs,p.st,evK (fnN H0 NW n 0) n K⟩ ⟨hO.n1,hO.n2,by show (evK (fnN H0 NW n 0) n K).length≤420;rw [evK_len,fnN_len];omega,fun k hk=>evK_20 hlt2 (by omega) (fnN_20 hN20 n 0) _ (List.getElem_mem _)⟩ n c
    rw [show longestN (Pce.mk p.cs p.st (evK (fnN H0 NW n 0) n K)).evs n c=longestN NW n c from longestN_crs ((evK_crs hlt2 (by rw [hat0];exact hKc)).trans (fnN_crs H0 NW n 0)) n c] at h
    exact h
   have hLen:∀ K:List Stp,(((fnN H0 NW n 0).map eEvO).map fun r=>r.map (AV.fz 1)).set n (((eEvO NW[n]).map (AV.fz 1)).set 5 (.ls 5 (K.map eStp)))=(evK (fnN H0 NW n 0) n K).map eEv:=fun K=>by
    have:=evK_lent hlt2 K
    rw [hat0] at this
    exact this
   obtain ⟨K,hK⟩:∃ z,fnK H0 n j NW[n].stops=z:=⟨_,rfl⟩
   rw [hK] at hjl hKj hput hkl hkc ⊢
   clear hK
   obtain ⟨X,hX⟩:∃ z,NW[n].stops[j]=z:=⟨_,rfl⟩
   rw [hX] at hKj hput hH0x
   clear hX
   have hbd:0≤(longestN NW n X.1:Int)∧(longestN NW n X.1:Int)≤15:=⟨Int.natCast_nonneg _,by have:=longestN_le NW n X.1;omega⟩
   by_cases hf0:X.2.1=0
   ·have hrow0:=stpK_row hKj
    have hjK:j < K.length:=by omega
    repeat (first|refine W.gob rfl ?_|refine WL.nil ?_|refine WL.bt rfl rfl rfl zqo ?_|refine WL.bf rfl rfl rfl zqo ?_|refine WL.e1 rfl ?_|refine WL.ar rfl rfl z53i ?_|refine WL.len rfl rfl zql ?_|refine WL.idx rfl rfl zqo zqm ?_|refine WL.ixs rfl rfl zqs ?_|refine WL.app rfl rfl rfl zqs ?_|refine W.condT rfl ?_|refine W.condF rfl ?_)
    (first|refine (?_:W _ _ _ _ _)|refine (?_:WL _ _ _ _ _ _)|skip)
    try dsimp only [St.put,Nat.reduceAdd]
    refine WL.ldQ rfl rfl rfl rfl hat (by show 5 < 6;omega) ?_
    repeat (first|refine WL.vl rfl (WV.nch rfl rfl) ?_|refine W.gob rfl ?_|refine WL.nil ?_|refine WL.bt rfl rfl rfl zqo ?_|refine WL.bf rfl rfl rfl zqo ?_|refine WL.e1 rfl ?_|refine WL.ar rfl rfl z53i ?_|refine WL.len rfl rfl zql ?_|refine WL.idx rfl rfl zqo zqm ?_|refine WL.ixs rfl rfl zqs ?_|refine WL.app rfl rfl rfl zqs ?_|refine W.condT rfl ?_|refine W.condF rfl ?_)
    (first|refine (?_:W _ _ _ _ _)|refine (?_:WL _ _ _ _ _ _)|skip)
    try dsimp only [St.put,Nat.reduceAdd]
    refine WL.ldr rfl rfl hrow0 rfl rfl ?_
    repeat (first|refine WL.vl rfl (WV.nch rfl rfl) ?_|refine W.gob rfl ?_|refine WL.nil ?_|refine WL.bt rfl rfl rfl zqo ?_|refine WL.bf rfl rfl rfl zqo ?_|refine WL.e1 rfl ?_|refine WL.ar rfl rfl z53i ?_|refine WL.len rfl rfl zql ?_|refine WL.idx rfl rfl zqo zqm ?_|refine WL.ixs rfl rfl zqs ?_|refine WL.app rfl rfl rfl zqs ?_|refine W.condT rfl ?_|refine W.condF rfl ?_)
    (first|refine (?_:W _ _ _ _ _)|refine (?_:WL _ _ _ _ _ _)|skip)
    try dsimp only [St.put,Nat.reduceAdd]
    refine WL.sto rfl rfl rfl rfl hrow0 (by show 4+1≤5;omega) ?_
    dsimp only [AV.cells]
    rw [Int.toNat_natCast,show (K.map eStp).set j (putL 4 [.sc (.int .i64 0)] (eStp X))=(K.set j (stH X 0)).map eStp from stpK_put X 0]
    have hrow:((K.set j (stH X 0)).map eStp)[j]?=some (eStp (stH X 0)):=stpK_row (List.getElem?_set_self hjK)
    have hLC:=hLong (K.set j (stH X 0)) (by rw [List.length_set];exact hkl) (by rw [set_crs hKj 0];exact hkc) (stH X 0).1
    have hmin:(if (longestN NW n (stH X 0).1:Int) < (0:Int) then (longestN NW n (stH X 0).1:Int) else 0)=0:=if_neg (by show ¬ (longestN NW n X.1:Int) < 0;omega)
    have hfin:((K.set j (stH X 0)).map eStp).set j (putL 4 [.sc (.int .i64 0)] (eStp (stH X 0)))=(fnK H0 n (j+1) NW[n].stops).map eStp:=by
     rw [stpK_put (stH X 0) 0,List.set_set,← hput,hH0x,if_pos hf0];rfl
    obtain ⟨K1,hK1⟩:∃ z,K.set j (stH X 0)=z:=⟨_,rfl⟩
    rw [hK1] at hrow hLC hfin ⊢
    repeat (first|refine WL.vl rfl (WV.nch rfl rfl) ?_|refine W.gob rfl ?_|refine WL.nil ?_|refine WL.bt rfl rfl rfl zqo ?_|refine WL.bf rfl rfl rfl zqo ?_|refine WL.e1 rfl ?_|refine WL.ar rfl rfl z53i ?_|refine WL.len rfl rfl zql ?_|refine WL.idx rfl rfl zqo zqm ?_|refine WL.ixs rfl rfl zqs ?_|refine WL.app rfl rfl rfl zqs ?_|refine W.condT rfl ?_|refine W.condF rfl ?_)
    (first|refine (?_:W _ _ _ _ _)|refine (?_:WL _ _ _ _ _ _)|skip)
    try dsimp only [St.put,Nat.reduceAdd]
    refine W.of_wa zqk ?_
    refine WA.dt [false,false,false,false,false,false,false,false,false,false,false,false,false,false,false,true] [3] [3,5,6] 15 zqk zqk zqk ⟨rfl,trivial⟩ ⟨rfl,rfl,rfl,trivial⟩ ?_
    refine DTK.st rfl zqk rfl ?_
    refine DTK.st rfl zqk rfl ?_
    refine DTK.vl rfl zqk (WV.nch rfl rfl) ?_
    refine DTK.st rfl zqk rfl ?_
    refine DTK.ldr rfl zqk rfl hrow rfl rfl ?_
    refine DTK.st rfl zqk rfl ?_
    refine DTK.st rfl zqk rfl ?_
    refine DTK.st rfl zqk rfl ?_
    refine DTK.vl rfl zqk (WV.nch rfl rfl) ?_
    refine DTK.st rfl zqk rfl ?_
    refine DTK.ldr rfl zqk rfl hrow rfl rfl ?_
    refine DTK.vl rfl zqk (WV.lendX (truH _) rfl (callF Tryz.func68 rfl rfl) rfl (.cons (Lent.ag (.cons (Lent.pu rfl) (.cons (Lent.pu rfl) (.cons (Lent.rwo 1 rfl (Lent.row rfl) (eEvO_shal _) hat (by show 5 < 6;omega) (hLen _)) .nil)))) (.cons (Lent.pu rfl) (.cons (Lent.pu rfl) .nil))) truST hLC.g) ?_
    refine DTK.vl rfl zqk (mmV_as rfl hmin) ?_
    refine DTK.vl rfl zqk (WV.nch rfl rfl) ?_
    refine DTK.st rfl zqk rfl ?_
    refine DTK.sto rfl rfl rfl rfl rfl rfl rfl rfl rfl rfl rfl rfl (put_row hrow (by show 4+1≤5;omega) rfl) rfl ⟨rfl,trivial⟩ (fun h=>by cases h) ?_
    refine DTK.nil ?_
    repeat (first|refine W.gob rfl ?_|refine WL.nil ?_|refine WL.bt rfl rfl rfl zqo ?_|refine WL.bf rfl rfl rfl zqo ?_|refine WL.e1 rfl ?_|refine WL.ar rfl rfl z53i ?_|refine WL.len rfl rfl zql ?_|refine WL.idx rfl rfl zqo zqm ?_|refine WL.ixs rfl rfl zqs ?_|refine WL.app rfl rfl rfl zqs ?_|refine W.condT rfl ?_|refine W.condF rfl ?_)
    (first|refine (?_:W _ _ _ _ _)|refine (?_:WL _ _ _ _ _ _)|skip)
    try dsimp only [St.put,Nat.reduceAdd]
    refine ⟨j+1,by omega,by omega,?_⟩
    exact (zqu (fun q=>q) (by repeat (first|exact trivial|refine ⟨⟨?_,?_,?_⟩,?_⟩|rfl|exact congrArg (fun q=>some (AO.row _ _ q)) hfin|exact congrArg (fun q=>some (AO.rwn _ _ q)) hfin)) rfl)
   ·have hrow:=stpK_row hKj
    have hLC:=hLong K hkl hkc X.1
    have hmin:(if (longestN NW n X.1:Int) < X.2.2.2.2 then (longestN NW n X.1:Int) else X.2.2.2.2)=min X.2.2.2.2 (longestN NW n X.1:Int):=by
     rw [Int.min_def];split<;>split<;>omega
    have hfin:(K.map eStp).set j (putL 4 [.sc (.int .i64 (min X.2.2.2.2 (longestN NW n X.1:Int)))] (eStp X))=(fnK H0 n (j+1) NW[n].stops).map eStp:=by
     rw [stpK_put X,← hput,hH0x,if_neg hf0]
    repeat (first|refine W.gob rfl ?_|refine WL.nil ?_|refine WL.bt rfl rfl rfl zqo ?_|refine WL.bf rfl rfl rfl zqo ?_|refine WL.e1 rfl ?_|refine WL.ar rfl rfl z53i ?_|refine WL.len rfl rfl zql ?_|refine WL.idx rfl rfl zqo zqm ?_|refine WL.ixs rfl rfl zqs ?_|refine WL.app rfl rfl rfl zqs ?_|refine W.condT rfl ?_|refine W.condF rfl ?_)
    (first|refine (?_:W _ _ _ _ _)|refine (?_:WL _ _ _ _ _ _)|skip)
    try dsimp only [St.put,Nat.reduceAdd]
    refine WL.ldQ rfl rfl rfl rfl hat (by show 5 < 6;omega) ?_
    repeat (first|refine WL.vl rfl (WV.nch rfl rfl) ?_|refine W.gob rfl ?_|refine WL.nil ?_|refine WL.bt rfl rfl rfl zqo ?_|refine WL.bf rfl rfl rfl zqo ?_|refine WL.e1 rfl ?_|refine WL.ar rfl rfl z53i ?_|refine WL.len rfl rfl zql ?_|refine WL.idx rfl rfl zqo zqm ?_|refine WL.ixs rfl rfl zqs ?_|refine WL.app rfl rfl rfl zqs ?_|refine W.condT rfl ?_|refine W.condF rfl ?_)
    (first|refine (?_:W _ _ _ _ _)|refine (?_:WL _ _ _ _ _ _)|skip)
    try dsimp only [St.put,Nat.reduceAdd]
    refine WL.ldr rfl rfl hrow rfl rfl ?_
    repeat (first|refine WL.vl rfl (WV.nch rfl rfl) ?_|refine W.gob rfl ?_|refine WL.nil ?_|refine WL.bt rfl rfl rfl zqo ?_|refine WL.bf rfl rfl rfl zqo ?_|refine WL.e1 rfl ?_|refine WL.ar rfl rfl z53i ?_|refine WL.len rfl rfl zql ?_|refine WL.idx rfl rfl zqo zqm ?_|refine WL.ixs rfl rfl zqs ?_|refine WL.app rfl rfl rfl zqs ?_|refine W.condT rfl ?_|refine W.condF rfl ?_)
    (first|refine (?_:W _ _ _ _ _)|refine (?_:WL _ _ _ _ _ _)|skip)
    try dsimp only [St.put,Nat.reduceAdd]
    refine W.of_wa zqk ?_
    refine WA.dt [false,false,false,false,false,false,false,false,false,false,false,false,false,false,false,true] [3] [3,5,6] 15 zqk zqk zqk ⟨rfl,trivial⟩ ⟨rfl,rfl,rfl,trivial⟩ ?_
    refine DTK.st rfl zqk rfl ?_
    refine DTK.st rfl zqk rfl ?_
    refine DTK.vl rfl zqk (WV.nch rfl rfl) ?_
    refine DTK.st rfl zqk rfl ?_
    refine DTK.ldr rfl zqk rfl hrow rfl rfl ?_
    refine DTK.st rfl zqk rfl ?_
    refine DTK.st rfl zqk rfl ?_
    refine DTK.st rfl zqk rfl ?_
    refine DTK.vl rfl zqk (WV.nch rfl rfl) ?_
    refine DTK.st rfl zqk rfl ?_
    refine DTK.ldr rfl zqk rfl hrow rfl rfl ?_
    refine DTK.vl rfl zqk (WV.lendX (truH _) rfl (callF Tryz.func68 rfl rfl) rfl (.cons (Lent.ag (.cons (Lent.pu rfl) (.cons (Lent.pu rfl) (.cons (Lent.rwo 1 rfl (Lent.row rfl) (eEvO_shal _) hat (by show 5 < 6;omega) (hLen _)) .nil)))) (.cons (Lent.pu rfl) (.cons (Lent.pu rfl) .nil))) truST hLC.g) ?_
    refine DTK.vl rfl zqk (mmV_as rfl hmin) ?_
    refine DTK.vl rfl zqk (WV.nch rfl rfl) ?_
    refine DTK.st rfl zqk rfl ?_
    refine DTK.sto rfl rfl rfl rfl rfl rfl rfl rfl rfl rfl rfl rfl (put_row hrow (by show 4+1≤5;omega) rfl) rfl ⟨rfl,trivial⟩ (fun h=>by cases h) ?_
    refine DTK.nil ?_
    repeat (first|refine W.gob rfl ?_|refine WL.nil ?_|refine WL.bt rfl rfl rfl zqo ?_|refine WL.bf rfl rfl rfl zqo ?_|refine WL.e1 rfl ?_|refine WL.ar rfl rfl z53i ?_|refine WL.len rfl rfl zql ?_|refine WL.idx rfl rfl zqo zqm ?_|refine WL.ixs rfl rfl zqs ?_|refine WL.app rfl rfl rfl zqs ?_|refine W.condT rfl ?_|refine W.condF rfl ?_)
    (first|refine (?_:W _ _ _ _ _)|refine (?_:WL _ _ _ _ _ _)|skip)
    try dsimp only [St.put,Nat.reduceAdd]
    refine ⟨j+1,by omega,by omega,?_⟩
    exact (zqu (fun q=>q) (by repeat (first|exact trivial|refine ⟨⟨?_,?_,?_⟩,?_⟩|rfl|exact congrArg (fun q=>some (AO.row _ _ q)) hfin|exact congrArg (fun q=>some (AO.rwn _ _ q)) hfin)) rfl)
  obtain rfl:j=NW[n].stops.length:=by omega
  have hcl:((fnN H0 NW n 0).map eEvO).set n ((eEvO NW[n]).set 5 (.ow 41 5 ((fnK H0 n NW[n].stops.length NW[n].stops).map eStp)))=(fnN H0 NW (n+1) 0).map eEvO:=by
   have:=evK_rowsO hlt2 (fnK H0 n NW[n].stops.length NW[n].stops)
   rw [hat0] at this
   rw [this,evK_done hlt]
  repeat (first|refine W.gob rfl ?_|refine WL.nil ?_|refine WL.bt rfl rfl rfl zqo ?_|refine WL.bf rfl rfl rfl zqo ?_|refine WL.e1 rfl ?_|refine WL.ar rfl rfl z53i ?_|refine WL.len rfl rfl zql ?_|refine WL.idx rfl rfl zqo zqm ?_|refine WL.ixs rfl rfl zqs ?_|refine WL.app rfl rfl rfl zqs ?_|refine W.condT rfl ?_|refine W.condF rfl ?_)
  (first|refine (?_:W _ _ _ _ _)|refine (?_:WL _ _ _ _ _ _)|skip)
  try dsimp only [St.put,Nat.reduceAdd]
  refine ⟨n+1,by omega,by omega,?_⟩
  refine Tr.trans (Tr.close_ 5 rfl rfl rfl hat (by show 5 < 6;omega) hcl) ?_
  exact (zqt id)
 obtain rfl:n=NW.length:=by omega
 rw [fnN_all] at hnl ⊢
 have hLk:∀ j (h:j < (lksR s ⟨p.cs,p.st,fnL H0 NW⟩).length),((lksR s ⟨p.cs,p.st,fnL H0 NW⟩).map eLk)[((j:Nat):Int).toNat]?=some (eLk (lksR s ⟨p.cs,p.st,fnL H0 NW⟩)[j]):=fun j h=>map_at h
 have hLs:∀ r∈(lksR s ⟨p.cs,p.st,fnL H0 NW⟩).map eLk,∀ av∈r,∃ z,av=.sc z:=eLk_sc _
 have hMl:(fnL H0 NW).length=NW.length:=fnL_len _ _
 have hM20:∀ e∈fnL H0 NW,e.stops.length≤20:=fun e he=>by
  obtain ⟨i,hi,rfl⟩:=List.getElem_of_mem he
  have hi':i < NW.length:=by rw [fnL_len] at hi;exact hi
  rw [fnL_get hi']
  show (List.map _ _).length≤20
  rw [List.length_map]
  exact hN20 _ (List.getElem_mem hi')
 have hL4:Cto truB 0 Tryz.prog 37 [.ag [.ls 3 (p.cs.map eCrs),.ls 1 (p.st.map eInt),.ls 6 ((fnL H0 NW).map eEv)],.pr [.sc (.int .u8 s)]] [] 0 (.sl 0) [(0,.row 53 3 ((lksR s ⟨p.cs,p.st,fnL H0 NW⟩).map eLk))] 1:=hL4
 obtain ⟨LK,hLK⟩:∃ z,lksR s ⟨p.cs,p.st,fnL H0 NW⟩=z:=⟨_,rfl⟩
 rw [hLK] at hL4 hLlen hH hZ hLk hLs
 clear hLK
 obtain ⟨MD,hMD⟩:∃ z,fnL H0 NW=z:=⟨_,rfl⟩
 rw [hMD] at hL4 hH hZ hNas hMl hM20 hnl ⊢
 clear hMD
 have hMr:((MD.map eEvO).map fun r=>r.map (AV.fz 1))=MD.map eEv:=eEvO_rows MD
 repeat (first|refine W.gob rfl ?_|refine WL.nil ?_|refine WL.bt rfl rfl rfl zqo ?_|refine WL.bf rfl rfl rfl zqo ?_|refine WL.e1 rfl ?_|refine WL.ar rfl rfl z53i ?_|refine WL.len rfl rfl zql ?_|refine WL.idx rfl rfl zqo zqm ?_|refine WL.ixs rfl rfl zqs ?_|refine WL.app rfl rfl rfl zqs ?_|refine W.condT rfl ?_|refine W.condF rfl ?_)
 (first|refine (?_:W _ _ _ _ _)|refine (?_:WL _ _ _ _ _ _)|skip)
 try dsimp only [St.put,Nat.reduceAdd]
 refine WL.vl rfl (fnqV_of rfl) ?_
 repeat (first|refine W.gob rfl ?_|refine WL.nil ?_|refine WL.bt rfl rfl rfl zqo ?_|refine WL.bf rfl rfl rfl zqo ?_|refine WL.e1 rfl ?_|refine WL.ar rfl rfl z53i ?_|refine WL.len rfl rfl zql ?_|refine WL.idx rfl rfl zqo zqm ?_|refine WL.ixs rfl rfl zqs ?_|refine WL.app rfl rfl rfl zqs ?_|refine W.condT rfl ?_|refine W.condF rfl ?_)
 (first|refine (?_:W _ _ _ _ _)|refine (?_:WL _ _ _ _ _ _)|skip)
 try dsimp only [St.put,Nat.reduceAdd]
 refine WL.op rfl (WO.lendO (truH _) rfl (callF Tryz.func37 rfl rfl) rfl rfl rfl rfl (.cons (Lent.ag (.cons (Lent.pu rfl) (.cons (Lent.pu rfl) (.cons (Lent.rwn 1 rfl (eEvO_shal _) hMr) .nil)))) (.cons (Lent.pu rfl) .nil)) truST hL4 hLs rfl rfl rfl) ?_
 dsimp only [St.put,St.new,St.upd,Nat.reduceAdd]
 refine WL.tr (Tr.freeze 6 rfl) ?_
 have hLRl:(LK.map eLk).length=LK.length:=List.length_map _
 obtain ⟨LR,hLR⟩:∃ z,LK.map eLk=z:=⟨_,rfl⟩
 rw [hLR] at hLRl hLk ⊢
 clear hL4 hLs hLR
 repeat (first|refine W.gob rfl ?_|refine WL.nil ?_|refine WL.bt rfl rfl rfl zqo ?_|refine WL.bf rfl rfl rfl zqo ?_|refine WL.e1 rfl ?_|refine WL.ar rfl rfl z53i ?_|refine WL.len rfl rfl zql ?_|refine WL.idx rfl rfl zqo zqm ?_|refine WL.ixs rfl rfl zqs ?_|refine WL.app rfl rfl rfl zqs ?_|refine W.condT rfl ?_|refine W.condF rfl ?_)
 (first|refine (?_:W _ _ _ _ _)|refine (?_:WL _ _ _ _ _ _)|skip)
 try dsimp only [St.put,Nat.reduceAdd]
 have hzr0:zrL [] MD=MD:=zrL_nil MD
 rw [show MD.map eEvO=(zrL (LK.take 0) MD).map eEvO by rw [List.take_zero,hzr0]]
 refine W.loop (fun j:Nat=>j≤LK.length) (fun j=>⟨[(2,.pt 0 0 0),(4,.pt 2 0 0),(6,.pt 3 0 0),(7,.sl 4),(98,.ls 3 LR),(99,.sc (.int .i64 LR.length)),(100,.sc (.int .i64 j))],[(2,.box 47 [.sc (.slice none 0 0),.sc (.slice none 0 0),.sc (.slice none 0 0)]),(3,.box 47 [.ls 3 (p.cs.map eCrs),.ls 1 (p.st.map eInt),.sl 5]),(4,.row 136 3 AL),(5,.rwn 44 6 ((zrL (LK.take j) MD).map eEvO))],6⟩) (fun j=>LK.length - j) 0 (by omega) (zqt id) fun j hj=>?_
 have hzl:((zrL (LK.take j) MD).map eEvO).length=MD.length:=by rw [List.length_map,zrL_len]
 by_cases hjt:j < LK.length
 ·have hLkj:=hLk j hjt
  have hZj:=hZ _ (List.getElem_mem hjt)
  have hoth:=fun (h:LK[j].2.2≠4)=>zrL_other (l:=LK.take j) (x:=LK[j]) MD h
  have htk:LK.take (j+1)=LK.take j++[LK[j]]:=List.take_succ_eq_append_getElem hjt
  rw [← htk] at hoth
  by_cases h4:LK[j].2.2=4
  rotate_left
  ·have hoth:=hoth h4
   obtain ⟨X,hX⟩:∃ z,LK[j]=z:=⟨_,rfl⟩
   rw [hX] at hLkj h4
   repeat (first|refine W.gob rfl ?_|refine WL.nil ?_|refine WL.bt rfl rfl rfl zqo ?_|refine WL.bf rfl rfl rfl zqo ?_|refine WL.e1 rfl ?_|refine WL.ar rfl rfl z53i ?_|refine WL.len rfl rfl zql ?_|refine WL.idx rfl rfl zqo zqm ?_|refine WL.ixs rfl rfl zqs ?_|refine WL.app rfl rfl rfl zqs ?_|refine W.condT rfl ?_|refine W.condF rfl ?_)
   (first|refine (?_:W _ _ _ _ _)|refine (?_:WL _ _ _ _ _ _)|skip)
   try dsimp only [St.put,Nat.reduceAdd]
   refine WL.idx rfl rfl zqo hLkj ?_
   repeat (first|refine W.gob rfl ?_|refine WL.nil ?_|refine WL.bt rfl rfl rfl zqo ?_|refine WL.bf rfl rfl rfl zqo ?_|refine WL.e1 rfl ?_|refine WL.ar rfl rfl z53i ?_|refine WL.len rfl rfl zql ?_|refine WL.idx rfl rfl zqo zqm ?_|refine WL.ixs rfl rfl zqs ?_|refine WL.app rfl rfl rfl zqs ?_|refine W.condT rfl ?_|refine W.condF rfl ?_)
   (first|refine (?_:W _ _ _ _ _)|refine (?_:WL _ _ _ _ _ _)|skip)
   try dsimp only [St.put,Nat.reduceAdd]
   refine ⟨j+1,by omega,by omega,?_⟩
   rw [hoth]
   exact (zqt id)
  obtain ⟨i,hi,k,hk,e1,e2⟩:=hZj h4
  have hm:=zrL_hold (l:=LK.take j) (c:=LK[j].2.1) hNas hi hk e2
  have hX3:LK[j]=((i:Int),LK[j].2.1,4):=by rw [← e1,← h4]
  rw [show LK.take j++[((i:Int),LK[j].2.1,4)]=LK.take (j+1) by rw [htk,← hX3]] at hm
  rw [hX3] at hLkj
  have hi2:i < (zrL (LK.take j) MD).length:=by rw [zrL_len];exact hi
  have hzi:(zrL (LK.take j) MD)[i]=zrE (LK.take j) i MD[i]:=by simp only [zrL,List.getElem_mapIdx]
  have hat:((zrL (LK.take j) MD).map eEvO)[i]?=some (eEvO (zrE (LK.take j) i MD[i])):=by rw [evO_at hi2,hzi]
  have hcrs:∀ m (h:m < MD[i].stops.length),((zrE (LK.take j) i MD[i]).stops[m]'(by show m < (List.map _ _).length;rw [List.length_map];exact h)).1=MD[i].stops[m].1:=fun m h=>by
   simp only [zrE,List.getElem_map]
   split<;>rfl
  have hzsl:(zrE (LK.take j) i MD[i]).stops.length=MD[i].stops.length:=by show (List.map _ _).length=_;rw [List.length_map]
  have hik:ixB (fun x:Stp=>x.1 == LK[j].2.1) (zrE (LK.take j) i MD[i]).stops=k:=by
   refine ixB_at (by rw [hzsl];exact hk) (by rw [hcrs k hk,e2];simp) fun q hq=>?_
   rw [hcrs q (by omega),← e2]
   have:=List.pairwise_iff_getElem.1 (hNas _ (List.getElem_mem hi)) q k (by omega) hk hq
   simp;omega
  have hzk:(zrE (LK.take j) i MD[i]).stops[k]?=some ((zrE (LK.take j) i MD[i]).stops[k]'(by rw [hzsl];exact hk)):=List.getElem?_eq_getElem _
  have hst0:stH ((zrE (LK.take j) i MD[i]).stops[k]'(by rw [hzsl];exact hk)) 0=stH MD[i].stops[k] 0:=by
   simp only [zrE,List.getElem_map]
   split<;>rfl
  have hi20:=hM20 _ (List.getElem_mem hi)
  have hIx:=idxK_FS (zrE (LK.take j) i MD[i]).stops ((i:Int),LK[j].2.1,4) zqo
  rw [show ixB (fun x:Stp=>x.1 == ((i:Int),LK[j].2.1,(4:Int)).2.1) (zrE (LK.take j) i MD[i]).stops=(k:Int) from hik] at hIx
  have hset:((zrL (LK.take j) MD).map eEvO).set i ((eEvO (zrE (LK.take j) i MD[i])).set 5 (.ow 41 5 ((((zrE (LK.take j) i MD[i]).stops.set k (stH MD[i].stops[k] 0)).map eStp))))=(zrL (LK.take (j+1)) MD).map eEvO:=by
   rw [hm]
   exact (List.map_set (f:=eEvO) (l:=zrL (LK.take j) MD) (i:=i) (a:={ zrE (LK.take j) i MD[i] with stops:=(zrE (LK.take j) i MD[i]).stops.set k (stH MD[i].stops[k] 0) })).symm
  obtain ⟨ZE,hZE⟩:∃ z,zrE (LK.take j) i MD[i]=z:=⟨_,rfl⟩
  obtain ⟨Y,hY⟩:∃ z,MD[i].stops[k]=z:=⟨_,rfl⟩
  rw [hZE] at hat hzsl hIx hset
  rw [hY] at hset
  have hzk2:∃ W,ZE.stops[k]?=some W∧stH W 0=stH Y 0:=by
   subst hZE hY
   exact ⟨_,hzk,hst0⟩
  obtain ⟨Wk,hWk,hW0⟩:=hzk2
  have hrow:=stpK_row hWk
  have hsl:(ZE.stops.map eStp).length=ZE.stops.length:=List.length_map _
  have hkz:k < ZE.stops.length:=by omega
  have hput:(ZE.stops.map eStp).set k (putL 4 [.sc (.int .i64 0)] (eStp Wk))=(ZE.stops.set k (stH Y 0)).map eStp:=by rw [stpK_put Wk 0,hW0]
  rw [← hput] at hset
  obtain ⟨cc,hcc⟩:∃ z,LK[j].2.1=z:=⟨_,rfl⟩
  rw [hcc] at hLkj hIx
  have hLkj:LR[((j:Nat):Int).toNat]?=some [.sc (.int .i64 (i:Int)),.sc (.int .i64 cc),.sc (.int .i64 4)]:=hLkj
  clear hZE hY hzi hcrs hm hik hzk hst0 hX3 htk hoth hcc
  repeat (first|refine W.gob rfl ?_|refine WL.nil ?_|refine WL.bt rfl rfl rfl zqo ?_|refine WL.bf rfl rfl rfl zqo ?_|refine WL.e1 rfl ?_|refine WL.ar rfl rfl z53i ?_|refine WL.len rfl rfl zql ?_|refine WL.idx rfl rfl zqo zqm ?_|refine WL.ixs rfl rfl zqs ?_|refine WL.app rfl rfl rfl zqs ?_|refine W.condT rfl ?_|refine W.condF rfl ?_)
  (first|refine (?_:W _ _ _ _ _)|refine (?_:WL _ _ _ _ _ _)|skip)
  try dsimp only [St.put,Nat.reduceAdd]
  refine WL.idx rfl rfl zqo hLkj ?_
  repeat (first|refine W.gob rfl ?_|refine WL.nil ?_|refine WL.bt rfl rfl rfl zqo ?_|refine WL.bf rfl rfl rfl zqo ?_|refine WL.e1 rfl ?_|refine WL.ar rfl rfl z53i ?_|refine WL.len rfl rfl zql ?_|refine WL.idx rfl rfl zqo zqm ?_|refine WL.ixs rfl rfl zqs ?_|refine WL.app rfl rfl rfl zqs ?_|refine W.condT rfl ?_|refine W.condF rfl ?_)
  (first|refine (?_:W _ _ _ _ _)|refine (?_:WL _ _ _ _ _ _)|skip)
  try dsimp only [St.put,Nat.reduceAdd]
  refine WL.tr (Tr.open_ 5 i 5 rfl hat rfl (eStp_own _) rfl) ?_
  dsimp only [St.upd,St.new,Nat.reduceAdd]
  repeat (first|refine W.gob rfl ?_|refine WL.nil ?_|refine WL.bt rfl rfl rfl zqo ?_|refine WL.bf rfl rfl rfl zqo ?_|refine WL.e1 rfl ?_|refine WL.ar rfl rfl z53i ?_|refine WL.len rfl rfl zql ?_|refine WL.idx rfl rfl zqo zqm ?_|refine WL.ixs rfl rfl zqs ?_|refine WL.app rfl rfl rfl zqs ?_|refine W.condT rfl ?_|refine W.condF rfl ?_)
  (first|refine (?_:W _ _ _ _ _)|refine (?_:WL _ _ _ _ _ _)|skip)
  try dsimp only [St.put,Nat.reduceAdd]
  refine WL.ldQ rfl rfl rfl rfl hat (by show 5 < 6;omega) ?_
  repeat (first|refine W.gob rfl ?_|refine WL.nil ?_|refine WL.bt rfl rfl rfl zqo ?_|refine WL.bf rfl rfl rfl zqo ?_|refine WL.e1 rfl ?_|refine WL.ar rfl rfl z53i ?_|refine WL.len rfl rfl zql ?_|refine WL.idx rfl rfl zqo zqm ?_|refine WL.ixs rfl rfl zqs ?_|refine WL.app rfl rfl rfl zqs ?_|refine W.condT rfl ?_|refine W.condF rfl ?_)
  (first|refine (?_:W _ _ _ _ _)|refine (?_:WL _ _ _ _ _ _)|skip)
  try dsimp only [St.put,Nat.reduceAdd]
  refine WL.vl rfl (WV.mkf rfl rfl) ?_
  refine WL.vl rfl (WV.lendV (truH _) rfl (callF Tryz.func69 rfl rfl) rfl rfl rfl rfl rfl rfl truST hIx.g) ?_
  repeat (first|refine W.gob rfl ?_|refine WL.nil ?_|refine WL.bt rfl rfl rfl zqo ?_|refine WL.bf rfl rfl rfl zqo ?_|refine WL.e1 rfl ?_|refine WL.ar rfl rfl z53i ?_|refine WL.len rfl rfl zql ?_|refine WL.idx rfl rfl zqo zqm ?_|refine WL.ixs rfl rfl zqs ?_|refine WL.app rfl rfl rfl zqs ?_|refine W.condT rfl ?_|refine W.condF rfl ?_)
  (first|refine (?_:W _ _ _ _ _)|refine (?_:WL _ _ _ _ _ _)|skip)
  try dsimp only [St.put,Nat.reduceAdd]
  refine WL.ldQ rfl rfl rfl rfl hat (by show 5 < 6;omega) ?_
  repeat (first|refine W.gob rfl ?_|refine WL.nil ?_|refine WL.bt rfl rfl rfl zqo ?_|refine WL.bf rfl rfl rfl zqo ?_|refine WL.e1 rfl ?_|refine WL.ar rfl rfl z53i ?_|refine WL.len rfl rfl zql ?_|refine WL.idx rfl rfl zqo zqm ?_|refine WL.ixs rfl rfl zqs ?_|refine WL.app rfl rfl rfl zqs ?_|refine W.condT rfl ?_|refine W.condF rfl ?_)
  (first|refine (?_:W _ _ _ _ _)|refine (?_:WL _ _ _ _ _ _)|skip)
  try dsimp only [St.put,Nat.reduceAdd]
  refine WL.sto rfl rfl rfl rfl hrow (by show 4+1≤5;omega) ?_
  repeat (first|refine W.gob rfl ?_|refine WL.nil ?_|refine WL.bt rfl rfl rfl zqo ?_|refine WL.bf rfl rfl rfl zqo ?_|refine WL.e1 rfl ?_|refine WL.ar rfl rfl z53i ?_|refine WL.len rfl rfl zql ?_|refine WL.idx rfl rfl zqo zqm ?_|refine WL.ixs rfl rfl zqs ?_|refine WL.app rfl rfl rfl zqs ?_|refine W.condT rfl ?_|refine W.condF rfl ?_)
  (first|refine (?_:W _ _ _ _ _)|refine (?_:WL _ _ _ _ _ _)|skip)
  try dsimp only [St.put,Nat.reduceAdd]
  refine ⟨j+1,by omega,by omega,?_⟩
  refine Tr.trans (Tr.close_ 5 rfl rfl rfl hat (by show 5 < 6;omega) hset) ?_
  exact (zqt id)
 obtain rfl:j=LK.length:=by omega
 rw [List.take_length,hH]
 repeat (first|refine W.gob rfl ?_|refine WL.nil ?_|refine WL.bt rfl rfl rfl zqo ?_|refine WL.bf rfl rfl rfl zqo ?_|refine WL.e1 rfl ?_|refine WL.ar rfl rfl z53i ?_|refine WL.len rfl rfl zql ?_|refine WL.idx rfl rfl zqo zqm ?_|refine WL.ixs rfl rfl zqs ?_|refine WL.app rfl rfl rfl zqs ?_|refine W.condT rfl ?_|refine W.condF rfl ?_)
 (first|refine (?_:W _ _ _ _ _)|refine (?_:WL _ _ _ _ _ _)|skip)
 try dsimp only [St.put,Nat.reduceAdd]
 refine W.tr (Tr.freezeW 5 1 rfl (List.all_eq_true.2 fun r hr=>List.all_eq_true.2 (eEvO_shal _ r hr)) (eEvO_rows _)) ?_
 refine W.tr (Tr.freeze 4 rfl) ?_
 refine W.of_wa zqk ?_
 refine WA.ds [false,false,false,false,true,false] [3] zqk zqk ⟨rfl,trivial⟩ ?_
 refine DSK.st rfl rfl ?_
 refine DSK.st rfl rfl ?_
 refine DSK.st rfl rfl ?_
 refine DSK.v0 rfl (zqc Tryz.func71 hLo) ?_
 refine DSK.sto rfl rfl rfl rfl rfl rfl rfl rfl rfl rfl rfl rfl rfl rfl ⟨rfl,trivial⟩ ?_
 refine DSK.st rfl rfl ?_
 refine DSK.nil ?_
 repeat (first|refine W.go rfl ?_|refine WL.nil ?_|refine WL.ev rfl ?_|refine WL.ar rfl rfl z53i ?_|refine WL.len rfl rfl zql ?_|refine WL.idx rfl rfl zqo zqm ?_|refine WL.ixs rfl rfl zqs ?_|refine WL.app rfl rfl rfl zqs ?_|refine W.condT rfl ?_|refine W.condF rfl ?_)
 (first|refine (?_:W _ _ _ _ _)|refine (?_:WL _ _ _ _ _ _)|skip)
 try dsimp only [St.put,Nat.reduceAdd]
 exact W.ret (finN rfl rfl rfl rfl)
end Go.Proofs.YtockempedekkkaaGreatDoor
