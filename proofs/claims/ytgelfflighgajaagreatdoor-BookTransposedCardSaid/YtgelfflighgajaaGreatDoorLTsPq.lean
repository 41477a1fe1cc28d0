/- The law BookTransposed. -/
import Derived.Test.YtgelfflighgajaaGreatDoorCc4Pq
set_option maxHeartbeats 8000000
set_option maxRecDepth 100000
set_option linter.unusedVariables false
set_option linter.unusedSimpArgs false
namespace Go.Proofs.YtgelfflighgajaaGreatDoor
open Go.RowKit
theorem z27o {p:Prop} (h:p:=by omega):p:=h
theorem incL_lenT {p:Pce} (hO:PcOk p) (n:Int):(incL p n).length≤420:=by
 have hn:=hO.n3
 have hdl:=difs_length (sungR p)
 have:=List.length_filter_le (fun x:Int=>!decide (x<0)) (melR p)
 have hml:(melR p).length=p.evs.length:=by unfold melR;simp
 have hs:(sungR p).length≤420:=by unfold sungR;omega
 unfold incL
 split
 ·unfold incR;rw [List.length_take];omega
 ·simp
theorem transposed_G (p:Pce) (d n:Int):Ctg tabB Tryz.prog 13 [ePce p,.sc (.int .i64 d),.sc (.int .i64 n)] (.sc (.bool true)):=by
 have hLp:=long_FS p
 cases hlp:longB p with
 | true =>
  rw [hlp] at hLp
  refine Ctg.intro stabB Tryz.func13 rfl Tryz.ntmps13 (Nat.le_of_ble_eq_true rfl) (bd_all rfl) fun w0 F0 hB=>?_;dsimp only [St.init,number,Nat.reduceAdd]
  repeat (first|refine W.go rfl ?_|refine WL.nil ?_|refine WL.ev rfl ?_|refine WL.gyes rfl rfl rfl rfl ?_|refine WL.opno rfl rfl rfl rfl rfl rfl rfl ?_|refine WL.len rfl rfl zql ?_|refine WL.idx rfl rfl z27o zqm ?_|refine W.condT rfl ?_|refine W.condF rfl ?_)
  (first|refine (?_:W _ _ _ _ _)|refine (?_:WL _ _ _ _ _ _)|skip)
  try dsimp only [St.put,Nat.reduceAdd]
  refine WL.vl rfl (WV.call rfl (callF Tryz.func14 rfl rfl) rfl rfl hLp) ?_
  repeat (first|refine W.gob rfl ?_|refine WL.nil ?_|refine WL.bt rfl rfl rfl z27o ?_|refine WL.bf rfl rfl rfl z27o ?_|refine WL.nt rfl rfl rfl z27o ?_|refine WL.nf rfl rfl rfl z27o ?_|refine WL.e1 rfl ?_|refine WL.gyes rfl rfl rfl rfl ?_|refine WL.opno rfl rfl rfl rfl rfl rfl rfl ?_|refine WL.len rfl rfl zql ?_|refine WL.idx rfl rfl z27o zqm ?_|refine W.condT rfl ?_|refine W.condF rfl ?_)
  (first|refine (?_:W _ _ _ _ _)|refine (?_:WL _ _ _ _ _ _)|skip)
  try dsimp only [St.put,Nat.reduceAdd]
  refine WL.vl rfl (WV.callG hB rfl (callF Tryz.func15 rfl rfl) rfl rfl works11_G) ?_
  repeat (first|refine W.go rfl ?_|refine WL.nil ?_|refine WL.ev rfl ?_|refine WL.gyes rfl rfl rfl rfl ?_|refine WL.opno rfl rfl rfl rfl rfl rfl rfl ?_|refine WL.len rfl rfl zql ?_|refine WL.idx rfl rfl z27o zqm ?_|refine W.condT rfl ?_|refine W.condF rfl ?_)
  (first|refine (?_:W _ _ _ _ _)|refine (?_:WL _ _ _ _ _ _)|skip)
  try dsimp only [St.put,Nat.reduceAdd]
  exact W.ret (fin1 rfl rfl rfl rfl)
 | false =>
 rw [hlp] at hLp
 have hO:=pcOk_of3 hlp
 have hC:=rCheck_FS p hO
 by_cases h0:pceE p=0
 rotate_left
 ·obtain ⟨E,hE⟩:∃ z,pceE p=z:=⟨_,rfl⟩
  rw [hE] at hC h0
  refine Ctg.intro stabB Tryz.func13 rfl Tryz.ntmps13 (Nat.le_of_ble_eq_true rfl) (bd_all rfl) fun w0 F0 hB=>?_;dsimp only [St.init,number,Nat.reduceAdd]
  repeat (first|refine W.go rfl ?_|refine WL.nil ?_|refine WL.ev rfl ?_|refine WL.gyes rfl rfl rfl rfl ?_|refine WL.opno rfl rfl rfl rfl rfl rfl rfl ?_|refine WL.len rfl rfl zql ?_|refine WL.idx rfl rfl z27o zqm ?_|refine W.condT rfl ?_|refine W.condF rfl ?_)
  (first|refine (?_:W _ _ _ _ _)|refine (?_:WL _ _ _ _ _ _)|skip)
  try dsimp only [St.put,Nat.reduceAdd]
  refine WL.vl rfl (WV.call rfl (callF Tryz.func14 rfl rfl) rfl rfl hLp) ?_
  repeat (first|refine W.gob rfl ?_|refine WL.nil ?_|refine WL.bt rfl rfl rfl z27o ?_|refine WL.bf rfl rfl rfl z27o ?_|refine WL.nt rfl rfl rfl z27o ?_|refine WL.nf rfl rfl rfl z27o ?_|refine WL.e1 rfl ?_|refine WL.gyes rfl rfl rfl rfl ?_|refine WL.opno rfl rfl rfl rfl rfl rfl rfl ?_|refine WL.len rfl rfl zql ?_|refine WL.idx rfl rfl z27o zqm ?_|refine W.condT rfl ?_|refine W.condF rfl ?_)
  (first|refine (?_:W _ _ _ _ _)|refine (?_:WL _ _ _ _ _ _)|skip)
  try dsimp only [St.put,Nat.reduceAdd]
  refine WL.vl rfl (WV.call rfl (callF Tryz.func28 rfl rfl) rfl rfl hC) ?_
  repeat (first|refine W.gob rfl ?_|refine WL.nil ?_|refine WL.bt rfl rfl rfl z27o ?_|refine WL.bf rfl rfl rfl z27o ?_|refine WL.nt rfl rfl rfl z27o ?_|refine WL.nf rfl rfl rfl z27o ?_|refine WL.e1 rfl ?_|refine WL.gyes rfl rfl rfl rfl ?_|refine WL.opno rfl rfl rfl rfl rfl rfl rfl ?_|refine WL.len rfl rfl zql ?_|refine WL.idx rfl rfl z27o zqm ?_|refine W.condT rfl ?_|refine W.condF rfl ?_)
  (first|refine (?_:W _ _ _ _ _)|refine (?_:WL _ _ _ _ _ _)|skip)
  try dsimp only [St.put,Nat.reduceAdd]
  refine WL.vl rfl (WV.callG hB rfl (callF Tryz.func15 rfl rfl) rfl rfl works11_G) ?_
  repeat (first|refine W.go rfl ?_|refine WL.nil ?_|refine WL.ev rfl ?_|refine WL.gyes rfl rfl rfl rfl ?_|refine WL.opno rfl rfl rfl rfl rfl rfl rfl ?_|refine WL.len rfl rfl zql ?_|refine WL.idx rfl rfl z27o zqm ?_|refine W.condT rfl ?_|refine W.condF rfl ?_)
  (first|refine (?_:W _ _ _ _ _)|refine (?_:WL _ _ _ _ _ _)|skip)
  try dsimp only [St.put,Nat.reduceAdd]
  exact W.ret (fin1 rfl rfl rfl rfl)
 rw [h0] at hC
 by_cases hn:n < 1∨16 < n
 ·have hn2:n < 1∨(¬ n < 1∧16 < n):=by omega
  rcases hn2 with hn2|hn2
  all_goals
   refine Ctg.intro stabB Tryz.func13 rfl Tryz.ntmps13 (Nat.le_of_ble_eq_true rfl) (bd_all rfl) fun w0 F0 hB=>?_;dsimp only [St.init,number,Nat.reduceAdd]
   repeat (first|refine W.go rfl ?_|refine WL.nil ?_|refine WL.ev rfl ?_|refine WL.gyes rfl rfl rfl rfl ?_|refine WL.opno rfl rfl rfl rfl rfl rfl rfl ?_|refine WL.len rfl rfl zql ?_|refine WL.idx rfl rfl z27o zqm ?_|refine W.condT rfl ?_|refine W.condF rfl ?_)
   (first|refine (?_:W _ _ _ _ _)|refine (?_:WL _ _ _ _ _ _)|skip)
   try dsimp only [St.put,Nat.reduceAdd]
   refine WL.vl rfl (WV.call rfl (callF Tryz.func14 rfl rfl) rfl rfl hLp) ?_
   repeat (first|refine W.gob rfl ?_|refine WL.nil ?_|refine WL.bt rfl rfl rfl z27o ?_|refine WL.bf rfl rfl rfl z27o ?_|refine WL.nt rfl rfl rfl z27o ?_|refine WL.nf rfl rfl rfl z27o ?_|refine WL.e1 rfl ?_|refine WL.gyes rfl rfl rfl rfl ?_|refine WL.opno rfl rfl rfl rfl rfl rfl rfl ?_|refine WL.len rfl rfl zql ?_|refine WL.idx rfl rfl z27o zqm ?_|refine W.condT rfl ?_|refine W.condF rfl ?_)
   (first|refine (?_:W _ _ _ _ _)|refine (?_:WL _ _ _ _ _ _)|skip)
   try dsimp only [St.put,Nat.reduceAdd]
   refine WL.vl rfl (WV.call rfl (callF Tryz.func28 rfl rfl) rfl rfl hC) ?_
   repeat (first|refine W.gob rfl ?_|refine WL.nil ?_|refine WL.bt rfl rfl rfl z27o ?_|refine WL.bf rfl rfl rfl z27o ?_|refine WL.nt rfl rfl rfl z27o ?_|refine WL.nf rfl rfl rfl z27o ?_|refine WL.e1 rfl ?_|refine WL.gyes rfl rfl rfl rfl ?_|refine WL.opno rfl rfl rfl rfl rfl rfl rfl ?_|refine WL.len rfl rfl zql ?_|refine WL.idx rfl rfl z27o zqm ?_|refine W.condT rfl ?_|refine W.condF rfl ?_)
   (first|refine (?_:W _ _ _ _ _)|refine (?_:WL _ _ _ _ _ _)|skip)
   try dsimp only [St.put,Nat.reduceAdd]
   refine WL.vl rfl (WV.callG hB rfl (callF Tryz.func15 rfl rfl) rfl rfl works11_G) ?_
   repeat (first|refine W.go rfl ?_|refine WL.nil ?_|refine WL.ev rfl ?_|refine WL.gyes rfl rfl rfl rfl ?_|refine WL.opno rfl rfl rfl rfl rfl rfl rfl ?_|refine WL.len rfl rfl zql ?_|refine WL.idx rfl rfl z27o zqm ?_|refine W.condT rfl ?_|refine W.condF rfl ?_)
   (first|refine (?_:W _ _ _ _ _)|refine (?_:WL _ _ _ _ _ _)|skip)
   try dsimp only [St.put,Nat.reduceAdd]
   exact W.ret (fin1 rfl rfl rfl rfl)
 have hT:=rTranspose_FS p.cs p.st d
 by_cases ht:trE p.cs p.st d=0
 rotate_left
 ·obtain ⟨E,hE⟩:∃ z,trE p.cs p.st d=z:=⟨_,rfl⟩
  rw [hE] at hT ht
  refine Ctg.intro stabB Tryz.func13 rfl Tryz.ntmps13 (Nat.le_of_ble_eq_true rfl) (bd_all rfl) fun w0 F0 hB=>?_;dsimp only [St.init,number,Nat.reduceAdd]
  repeat (first|refine W.go rfl ?_|refine WL.nil ?_|refine WL.ev rfl ?_|refine WL.gyes rfl rfl rfl rfl ?_|refine WL.opno rfl rfl rfl rfl rfl rfl rfl ?_|refine WL.len rfl rfl zql ?_|refine WL.idx rfl rfl z27o zqm ?_|refine W.condT rfl ?_|refine W.condF rfl ?_)
  (first|refine (?_:W _ _ _ _ _)|refine (?_:WL _ _ _ _ _ _)|skip)
  try dsimp only [St.put,Nat.reduceAdd]
  refine WL.vl rfl (WV.call rfl (callF Tryz.func14 rfl rfl) rfl rfl hLp) ?_
  repeat (first|refine W.gob rfl ?_|refine WL.nil ?_|refine WL.bt rfl rfl rfl z27o ?_|refine WL.bf rfl rfl rfl z27o ?_|refine WL.nt rfl rfl rfl z27o ?_|refine WL.nf rfl rfl rfl z27o ?_|refine WL.e1 rfl ?_|refine WL.gyes rfl rfl rfl rfl ?_|refine WL.opno rfl rfl rfl rfl rfl rfl rfl ?_|refine WL.len rfl rfl zql ?_|refine WL.idx rfl rfl z27o zqm ?_|refine W.condT rfl ?_|refine W.condF rfl ?_)
  (first|refine (?_:W _ _ _ _ _)|refine (?_:WL _ _ _ _ _ _)|skip)
  try dsimp only [St.put,Nat.reduceAdd]
  refine WL.vl rfl (WV.call rfl (callF Tryz.func28 rfl rfl) rfl rfl hC) ?_
  repeat (first|refine W.gob rfl ?_|refine WL.nil ?_|refine WL.bt rfl rfl rfl z27o ?_|refine WL.bf rfl rfl rfl z27o ?_|refine WL.nt rfl rfl rfl z27o ?_|refine WL.nf rfl rfl rfl z27o ?_|refine WL.e1 rfl ?_|refine WL.gyes rfl rfl rfl rfl ?_|refine WL.opno rfl rfl rfl rfl rfl rfl rfl ?_|refine WL.len rfl rfl zql ?_|refine WL.idx rfl rfl z27o zqm ?_|refine W.condT rfl ?_|refine W.condF rfl ?_)
  (first|refine (?_:W _ _ _ _ _)|refine (?_:WL _ _ _ _ _ _)|skip)
  try dsimp only [St.put,Nat.reduceAdd]
  refine WL.vl rfl (WV.call rfl (callF Tryz.func47 rfl rfl) rfl rfl hT) ?_
  repeat (first|refine W.gob rfl ?_|refine WL.nil ?_|refine WL.bt rfl rfl rfl z27o ?_|refine WL.bf rfl rfl rfl z27o ?_|refine WL.nt rfl rfl rfl z27o ?_|refine WL.nf rfl rfl rfl z27o ?_|refine WL.e1 rfl ?_|refine WL.gyes rfl rfl rfl rfl ?_|refine WL.opno rfl rfl rfl rfl rfl rfl rfl ?_|refine WL.len rfl rfl zql ?_|refine WL.idx rfl rfl z27o zqm ?_|refine W.condT rfl ?_|refine W.condF rfl ?_)
  (first|refine (?_:W _ _ _ _ _)|refine (?_:WL _ _ _ _ _ _)|skip)
  try dsimp only [St.put,Nat.reduceAdd]
  refine WL.vl rfl (WV.callG hB rfl (callF Tryz.func15 rfl rfl) rfl rfl works11_G) ?_
  repeat (first|refine W.go rfl ?_|refine WL.nil ?_|refine WL.ev rfl ?_|refine WL.gyes rfl rfl rfl rfl ?_|refine WL.opno rfl rfl rfl rfl rfl rfl rfl ?_|refine WL.len rfl rfl zql ?_|refine WL.idx rfl rfl z27o zqm ?_|refine W.condT rfl ?_|refine W.condF rfl ?_)
  (first|refine (?_:W _ _ _ _ _)|refine (?_:WL _ _ _ _ _ _)|skip)
  try dsimp only [St.put,Nat.reduceAdd]
  exact W.ret (fin1 rfl rfl rfl rfl)
 rw [if_pos ht,if_pos ht,ht] at hT
 have hI0:=(pceE_zero h0).1
 have hi:insE (trC p.cs d) p.st=0:=by
  unfold trE at ht
  rw [if_neg (fun x=>x hI0)] at ht
  by_cases hd:d < -127∨127 < d
  ·rw [if_pos hd] at ht;omega
  ·rw [if_neg hd] at ht;exact ht
 have h1:=pceE_tr h0 hi
 have hOq:=trP_ok hO d
 have hA:=pIncipit_FS p hO n
 have hBq:=pIncipit_FS (trP p d) hOq n
 have hE0:incE p n=0:=by unfold incE;rw [if_pos h0,if_neg hn]
 rw [incL_tr h0 h1,incE_tr h0 h1,hE0] at hBq
 rw [hE0] at hA
 have hl:=incL_lenT hO n
 have hS:=sameInts_FS (incL p n) (incL p n) z27o z27o
 rw [decide_eq_true (rfl:incL p n=incL p n)] at hS
 have hK:=pConc_FS (twB p d) (tw_ok hO d) n
 have hCp:=pcCopy_FS p hO
 have hze:=tw_e h0 h1 hn
 have hcn:=tw_con h0 h1 hn (d:=d)
 have hml:((incL p n).map eInt).length=(incL p n).length:=List.length_map _
 have h01:=sameInts_FS [0,1] [0,1] (by decide) (by decide)
 rw [decide_eq_true rfl] at h01
 have hK:Ctr Tryz.prog 45 [.ag [.ls 5 [[.sc (.string (bs [111,110,101])),.sc (.int .u8 1),.ls 3 (p.cs.map eCrs),.ls 1 (p.st.map eInt),.ls 6 (p.evs.map eEv)],[.sc (.string (bs [116,119,111])),.sc (.int .u8 1),.ls 3 ((trC p.cs d).map eCrs),.ls 1 (p.st.map eInt),.ls 6 (p.evs.map eEv)]]],.sc (.int .i64 n)] (.tu [.ls 1 ((conL (twB p d) n).map eIL),.sc (.int .i64 (ixE (twB p d) n))]):=hK
 have hBq:Ctr Tryz.prog 48 [.ag [.ls 3 ((trC p.cs d).map eCrs),.ls 1 (p.st.map eInt),.ls 6 (p.evs.map eEv)],.sc (.int .i64 n)] (.tu [.ls 1 ((incL p n).map eInt),.sc (.int .i64 0)]):=hBq
 obtain ⟨CT,hCT⟩:∃ z,(trC p.cs d).map eCrs=z:=⟨_,rfl⟩
 rw [hCT] at hK hBq hT
 obtain ⟨IL,hIL⟩:∃ z,(incL p n).map eInt=z:=⟨_,rfl⟩
 rw [hIL] at hA hBq hS hml
 obtain ⟨X,hX⟩:∃ z,ixE (twB p d) n=z:=⟨_,rfl⟩
 rw [hX] at hK hze hcn
 obtain ⟨D,hD⟩:∃ z,conL (twB p d) n=z:=⟨_,rfl⟩
 rw [hD] at hK hcn
 refine Ctg.intro stabB Tryz.func13 rfl Tryz.ntmps13 (Nat.le_of_ble_eq_true rfl) (bd_all rfl) fun w0 F0 hB=>?_;dsimp only [St.init,number,Nat.reduceAdd]
 repeat (first|refine W.go rfl ?_|refine WL.nil ?_|refine WL.ev rfl ?_|refine WL.gyes rfl rfl rfl rfl ?_|refine WL.opno rfl rfl rfl rfl rfl rfl rfl ?_|refine WL.len rfl rfl zql ?_|refine WL.idx rfl rfl z27o zqm ?_|refine W.condT rfl ?_|refine W.condF rfl ?_)
 (first|refine (?_:W _ _ _ _ _)|refine (?_:WL _ _ _ _ _ _)|skip)
 try dsimp only [St.put,Nat.reduceAdd]
 refine WL.vl rfl (WV.call rfl (callF Tryz.func14 rfl rfl) rfl rfl hLp) ?_
 repeat (first|refine W.gob rfl ?_|refine WL.nil ?_|refine WL.bt rfl rfl rfl z27o ?_|refine WL.bf rfl rfl rfl z27o ?_|refine WL.nt rfl rfl rfl z27o ?_|refine WL.nf rfl rfl rfl z27o ?_|refine WL.e1 rfl ?_|refine WL.gyes rfl rfl rfl rfl ?_|refine WL.opno rfl rfl rfl rfl rfl rfl rfl ?_|refine WL.len rfl rfl zql ?_|refine WL.idx rfl rfl z27o zqm ?_|refine W.condT rfl ?_|refine W.condF rfl ?_)
 (first|refine (?_:W _ _ _ _ _)|refine (?_:WL _ _ _ _ _ _)|skip)
 try dsimp only [St.put,Nat.reduceAdd]
 refine WL.vl rfl (WV.call rfl (callF Tryz.func28 rfl rfl) rfl rfl hC) ?_
 repeat (first|refine W.gob rfl ?_|refine WL.nil ?_|refine WL.bt rfl rfl rfl z27o ?_|refine WL.bf rfl rfl rfl z27o ?_|refine WL.nt rfl rfl rfl z27o ?_|refine WL.nf rfl rfl rfl z27o ?_|refine WL.e1 rfl ?_|refine WL.gyes rfl rfl rfl rfl ?_|refine WL.opno rfl rfl rfl rfl rfl rfl rfl ?_|refine WL.len rfl rfl zql ?_|refine WL.idx rfl rfl z27o zqm ?_|refine W.condT rfl ?_|refine W.condF rfl ?_)
 (first|refine (?_:W _ _ _ _ _)|refine (?_:WL _ _ _ _ _ _)|skip)
 try dsimp only [St.put,Nat.reduceAdd]
 refine WL.vl rfl (WV.call rfl (callF Tryz.func47 rfl rfl) rfl rfl hT) ?_
 repeat (first|refine W.gob rfl ?_|refine WL.nil ?_|refine WL.bt rfl rfl rfl z27o ?_|refine WL.bf rfl rfl rfl z27o ?_|refine WL.nt rfl rfl rfl z27o ?_|refine WL.nf rfl rfl rfl z27o ?_|refine WL.e1 rfl ?_|refine WL.gyes rfl rfl rfl rfl ?_|refine WL.opno rfl rfl rfl rfl rfl rfl rfl ?_|refine WL.len rfl rfl zql ?_|refine WL.idx rfl rfl z27o zqm ?_|refine W.condT rfl ?_|refine W.condF rfl ?_)
 (first|refine (?_:W _ _ _ _ _)|refine (?_:WL _ _ _ _ _ _)|skip)
 try dsimp only [St.put,Nat.reduceAdd]
 refine WL.vl rfl (WV.call rfl (callF Tryz.func17 rfl rfl) rfl rfl hCp) ?_
 repeat (first|refine W.gob rfl ?_|refine WL.nil ?_|refine WL.bt rfl rfl rfl z27o ?_|refine WL.bf rfl rfl rfl z27o ?_|refine WL.nt rfl rfl rfl z27o ?_|refine WL.nf rfl rfl rfl z27o ?_|refine WL.e1 rfl ?_|refine WL.gyes rfl rfl rfl rfl ?_|refine WL.opno rfl rfl rfl rfl rfl rfl rfl ?_|refine WL.len rfl rfl zql ?_|refine WL.idx rfl rfl z27o zqm ?_|refine W.condT rfl ?_|refine W.condF rfl ?_)
 (first|refine (?_:W _ _ _ _ _)|refine (?_:WL _ _ _ _ _ _)|skip)
 try dsimp only [St.put,Nat.reduceAdd]
 refine WL.vl rfl (WV.call rfl (callF Tryz.func17 rfl rfl) rfl rfl hCp) ?_
 repeat (first|refine W.gob rfl ?_|refine WL.nil ?_|refine WL.bt rfl rfl rfl z27o ?_|refine WL.bf rfl rfl rfl z27o ?_|refine WL.nt rfl rfl rfl z27o ?_|refine WL.nf rfl rfl rfl z27o ?_|refine WL.e1 rfl ?_|refine WL.gyes rfl rfl rfl rfl ?_|refine WL.opno rfl rfl rfl rfl rfl rfl rfl ?_|refine WL.len rfl rfl zql ?_|refine WL.idx rfl rfl z27o zqm ?_|refine W.condT rfl ?_|refine W.condF rfl ?_)
 (first|refine (?_:W _ _ _ _ _)|refine (?_:WL _ _ _ _ _ _)|skip)
 try dsimp only [St.put,Nat.reduceAdd]
 refine WL.vl rfl (WV.call rfl (callF Tryz.func48 rfl rfl) rfl rfl hA) ?_
 repeat (first|refine W.gob rfl ?_|refine WL.nil ?_|refine WL.bt rfl rfl rfl z27o ?_|refine WL.bf rfl rfl rfl z27o ?_|refine WL.nt rfl rfl rfl z27o ?_|refine WL.nf rfl rfl rfl z27o ?_|refine WL.e1 rfl ?_|refine WL.gyes rfl rfl rfl rfl ?_|refine WL.opno rfl rfl rfl rfl rfl rfl rfl ?_|refine WL.len rfl rfl zql ?_|refine WL.idx rfl rfl z27o zqm ?_|refine W.condT rfl ?_|refine W.condF rfl ?_)
 (first|refine (?_:W _ _ _ _ _)|refine (?_:WL _ _ _ _ _ _)|skip)
 try dsimp only [St.put,Nat.reduceAdd]
 refine WL.vl rfl (WV.call rfl (callF Tryz.func48 rfl rfl) rfl rfl hBq) ?_
 repeat (first|refine W.gob rfl ?_|refine WL.nil ?_|refine WL.bt rfl rfl rfl z27o ?_|refine WL.bf rfl rfl rfl z27o ?_|refine WL.nt rfl rfl rfl z27o ?_|refine WL.nf rfl rfl rfl z27o ?_|refine WL.e1 rfl ?_|refine WL.gyes rfl rfl rfl rfl ?_|refine WL.opno rfl rfl rfl rfl rfl rfl rfl ?_|refine WL.len rfl rfl zql ?_|refine WL.idx rfl rfl z27o zqm ?_|refine W.condT rfl ?_|refine W.condF rfl ?_)
 (first|refine (?_:W _ _ _ _ _)|refine (?_:WL _ _ _ _ _ _)|skip)
 try dsimp only [St.put,Nat.reduceAdd]
 refine WL.vl rfl (WV.call rfl (callF Tryz.func44 rfl rfl) rfl rfl hS) ?_
 repeat (first|refine W.gob rfl ?_|refine WL.nil ?_|refine WL.bt rfl rfl rfl z27o ?_|refine WL.bf rfl rfl rfl z27o ?_|refine WL.nt rfl rfl rfl z27o ?_|refine WL.nf rfl rfl rfl z27o ?_|refine WL.e1 rfl ?_|refine WL.gyes rfl rfl rfl rfl ?_|refine WL.opno rfl rfl rfl rfl rfl rfl rfl ?_|refine WL.len rfl rfl zql ?_|refine WL.idx rfl rfl z27o zqm ?_|refine W.condT rfl ?_|refine W.condF rfl ?_)
 (first|refine (?_:W _ _ _ _ _)|refine (?_:WL _ _ _ _ _ _)|skip)
 try dsimp only [St.put,Nat.reduceAdd]
 refine W.drawK (by kernel_rfl) (by kernel_rfl) ?_
 repeat (first|refine DK.st rfl ?_|refine DK.nil ?_)
 refine DK.vl rfl (WV.call rfl (callF Tryz.func17 rfl rfl) rfl rfl hCp) ?_
 repeat (first|refine DK.st rfl ?_|refine DK.nil ?_)
 refine DK.vl rfl (WV.bdF rfl) ?_
 repeat (first|refine DK.st rfl ?_|refine DK.nil ?_)
 refine DK.vl rfl (WV.call rfl (callF Tryz.func45 rfl rfl) rfl rfl hK) ?_
 repeat (first|refine DK.st rfl ?_|refine DK.nil ?_)
 rcases hze with hz|hz
 rotate_left
 ·subst hz
  repeat (first|refine W.gob rfl ?_|refine WL.nil ?_|refine WL.bt rfl rfl rfl z27o ?_|refine WL.bf rfl rfl rfl z27o ?_|refine WL.nt rfl rfl rfl z27o ?_|refine WL.nf rfl rfl rfl z27o ?_|refine WL.e1 rfl ?_|refine WL.gyes rfl rfl rfl rfl ?_|refine WL.opno rfl rfl rfl rfl rfl rfl rfl ?_|refine WL.len rfl rfl zql ?_|refine WL.idx rfl rfl z27o zqm ?_|refine W.condT rfl ?_|refine W.condF rfl ?_)
  (first|refine (?_:W _ _ _ _ _)|refine (?_:WL _ _ _ _ _ _)|skip)
  try dsimp only [St.put,Nat.reduceAdd]
  refine WL.vl rfl (WV.callG hB rfl (callF Tryz.func15 rfl rfl) rfl rfl works11_G) ?_
  repeat (first|refine W.gob rfl ?_|refine WL.nil ?_|refine WL.bt rfl rfl rfl z27o ?_|refine WL.bf rfl rfl rfl z27o ?_|refine WL.nt rfl rfl rfl z27o ?_|refine WL.nf rfl rfl rfl z27o ?_|refine WL.e1 rfl ?_|refine WL.gyes rfl rfl rfl rfl ?_|refine WL.opno rfl rfl rfl rfl rfl rfl rfl ?_|refine WL.len rfl rfl zql ?_|refine WL.idx rfl rfl z27o zqm ?_|refine W.condT rfl ?_|refine W.condF rfl ?_)
  (first|refine (?_:W _ _ _ _ _)|refine (?_:WL _ _ _ _ _ _)|skip)
  try dsimp only [St.put,Nat.reduceAdd]
  exact W.ret (fin1 rfl rfl rfl rfl)
 have hcn2:=hcn hz
 clear hcn
 subst hz
 by_cases hc:((incL p n).length:Int) < n
 ·rw [if_pos hc] at hcn2
  subst hcn2
  repeat (first|refine W.gob rfl ?_|refine WL.nil ?_|refine WL.bt rfl rfl rfl z27o ?_|refine WL.bf rfl rfl rfl z27o ?_|refine WL.nt rfl rfl rfl z27o ?_|refine WL.nf rfl rfl rfl z27o ?_|refine WL.e1 rfl ?_|refine WL.gyes rfl rfl rfl rfl ?_|refine WL.opno rfl rfl rfl rfl rfl rfl rfl ?_|refine WL.len rfl rfl zql ?_|refine WL.idx rfl rfl z27o zqm ?_|refine W.condT rfl ?_|refine W.condF rfl ?_)
  (first|refine (?_:W _ _ _ _ _)|refine (?_:WL _ _ _ _ _ _)|skip)
  try dsimp only [St.put,Nat.reduceAdd]
  refine WL.vl rfl (WV.callG hB rfl (callF Tryz.func15 rfl rfl) rfl rfl works11_G) ?_
  repeat (first|refine W.gob rfl ?_|refine WL.nil ?_|refine WL.bt rfl rfl rfl z27o ?_|refine WL.bf rfl rfl rfl z27o ?_|refine WL.nt rfl rfl rfl z27o ?_|refine WL.nf rfl rfl rfl z27o ?_|refine WL.e1 rfl ?_|refine WL.gyes rfl rfl rfl rfl ?_|refine WL.opno rfl rfl rfl rfl rfl rfl rfl ?_|refine WL.len rfl rfl zql ?_|refine WL.idx rfl rfl z27o zqm ?_|refine W.condT rfl ?_|refine W.condF rfl ?_)
  (first|refine (?_:W _ _ _ _ _)|refine (?_:WL _ _ _ _ _ _)|skip)
  try dsimp only [St.put,Nat.reduceAdd]
  exact W.ret (fin1 rfl rfl rfl rfl)
 ·rw [if_neg hc] at hcn2
  subst hcn2
  repeat (first|refine W.gob rfl ?_|refine WL.nil ?_|refine WL.bt rfl rfl rfl z27o ?_|refine WL.bf rfl rfl rfl z27o ?_|refine WL.nt rfl rfl rfl z27o ?_|refine WL.nf rfl rfl rfl z27o ?_|refine WL.e1 rfl ?_|refine WL.gyes rfl rfl rfl rfl ?_|refine WL.opno rfl rfl rfl rfl rfl rfl rfl ?_|refine WL.len rfl rfl zql ?_|refine WL.idx rfl rfl z27o zqm ?_|refine W.condT rfl ?_|refine W.condF rfl ?_)
  (first|refine (?_:W _ _ _ _ _)|refine (?_:WL _ _ _ _ _ _)|skip)
  try dsimp only [St.put,Nat.reduceAdd]
  refine WL.idx rfl rfl z27o rfl ?_
  repeat (first|refine W.gob rfl ?_|refine WL.nil ?_|refine WL.bt rfl rfl rfl z27o ?_|refine WL.bf rfl rfl rfl z27o ?_|refine WL.nt rfl rfl rfl z27o ?_|refine WL.nf rfl rfl rfl z27o ?_|refine WL.e1 rfl ?_|refine WL.gyes rfl rfl rfl rfl ?_|refine WL.opno rfl rfl rfl rfl rfl rfl rfl ?_|refine WL.len rfl rfl zql ?_|refine WL.idx rfl rfl z27o zqm ?_|refine W.condT rfl ?_|refine W.condF rfl ?_)
  (first|refine (?_:W _ _ _ _ _)|refine (?_:WL _ _ _ _ _ _)|skip)
  try dsimp only [St.put,Nat.reduceAdd]
  first|refine WL.tr (Tr.freeze 3 rfl) ?_|refine W.tr (Tr.freeze 3 rfl) ?_
  dsimp only [St.freeze]
  refine WL.vl rfl (WV.call rfl (callF Tryz.func44 rfl rfl) rfl rfl h01) ?_
  repeat (first|refine W.gob rfl ?_|refine WL.nil ?_|refine WL.bt rfl rfl rfl z27o ?_|refine WL.bf rfl rfl rfl z27o ?_|refine WL.nt rfl rfl rfl z27o ?_|refine WL.nf rfl rfl rfl z27o ?_|refine WL.e1 rfl ?_|refine WL.gyes rfl rfl rfl rfl ?_|refine WL.opno rfl rfl rfl rfl rfl rfl rfl ?_|refine WL.len rfl rfl zql ?_|refine WL.idx rfl rfl z27o zqm ?_|refine W.condT rfl ?_|refine W.condF rfl ?_)
  (first|refine (?_:W _ _ _ _ _)|refine (?_:WL _ _ _ _ _ _)|skip)
  try dsimp only [St.put,Nat.reduceAdd]
  refine WL.vl rfl (WV.callG hB rfl (callF Tryz.func15 rfl rfl) rfl rfl works11_G) ?_
  repeat (first|refine W.gob rfl ?_|refine WL.nil ?_|refine WL.bt rfl rfl rfl z27o ?_|refine WL.bf rfl rfl rfl z27o ?_|refine WL.nt rfl rfl rfl z27o ?_|refine WL.nf rfl rfl rfl z27o ?_|refine WL.e1 rfl ?_|refine WL.gyes rfl rfl rfl rfl ?_|refine WL.opno rfl rfl rfl rfl rfl rfl rfl ?_|refine WL.len rfl rfl zql ?_|refine WL.idx rfl rfl z27o zqm ?_|refine W.condT rfl ?_|refine W.condF rfl ?_)
  (first|refine (?_:W _ _ _ _ _)|refine (?_:WL _ _ _ _ _ _)|skip)
  try dsimp only [St.put,Nat.reduceAdd]
  exact W.ret (fin1 rfl rfl rfl rfl)
end Go.Proofs.YtgelfflighgajaaGreatDoor
