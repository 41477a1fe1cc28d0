/- Slide and Release of the program. (RWN.) -/
import Derived.Test.YtaeelcfjkhfpkaaGreatFCPq
import Derived.Test.YtaeelcfjkhfpkaaGreatU7Pq
set_option maxHeartbeats 8000000
set_option maxRecDepth 100000
set_option linter.unusedVariables false
set_option linter.unusedSimpArgs false
namespace Go.Proofs.YtaeelcfjkhfpkaaGreat
section
open Go.RowKit
theorem z43i {z:Int} (h:I64 z:=by unfold I64;omega):I64 z:=h
def hz(x:Stp):Stp:=if x.2.1=0 then stH x 0 else x
def slF (cs:List (Int×Int×Bool))(by':Int)(x:Stp):Stp:=if 0<fretsOf cs x.1 then hz (x.1,x.2.1+by',x.2.2)else x
def slBad (cs:List (Int×Int×Bool))(by':Int)(x:Stp):Bool:=decide (0<fretsOf cs x.1∧(x.2.1+by'<0∨fretsOf cs x.1<x.2.1+by'))
def slAny (cs:List (Int×Int×Bool))(by':Int)(evs:List Ev):Bool:=evs.any fun e=>e.stops.any (slBad cs by')
def slX(p:Pce)(by':Int):Int:=if pceE p≠0 then pceE p else if by' < -18∨18 < by' then 1 else if slAny p.cs by' p.evs=true then 13 else 0
def slP (p:Pce)(by':Int):Pce:=if slX p by'=0 then⟨p.cs,p.st,p.evs.map (gmE (slF p.cs by'))⟩else noP
theorem sl_at {cs:List (Int×Int×Bool)} {by':Int} {evs:List Ev} {i k:Nat} (h:i<evs.length) (h2:k<evs[i].stops.length) (hb:slBad cs by' evs[i].stops[k]=true):slAny cs by' evs=true :=
 List.any_eq_true.2 ⟨_,List.getElem_mem h,List.any_eq_true.2 ⟨_,List.getElem_mem h2,hb⟩⟩
theorem sl_no {cs:List (Int×Int×Bool)} {by':Int} {evs:List Ev} (h:∀ i (h:i<evs.length)k (h2:k<evs[i].stops.length),slBad cs by' evs[i].stops[k]=false):slAny cs by' evs=false:=by
 unfold slAny
 rw [List.any_eq_false]
 intro e he
 obtain⟨i,hi,rfl⟩:=List.getElem_of_mem he
 rw [Bool.not_eq_true,List.any_eq_false]
 intro x hx
 obtain⟨k,hk,rfl⟩:=List.getElem_of_mem hx
 rw [h i hi k hk];simp
theorem hz_sh {cs:List (Int×Int×Bool)} {by':Int} {x:Stp} (h:fretsOf cs x.1≤0→x.2.1=0→x.2.2.2.2=0):hz (shF cs by' x)=slF cs by' x:=by
 unfold shF slF
 by_cases hf:0<fretsOf cs x.1
 ·rw [if_pos hf,if_pos hf]
 ·rw [if_neg hf,if_neg hf]
  unfold hz
  by_cases hx:x.2.1=0
  ·rw [if_pos hx]
   have:=h zqo hx
   unfold stH
   rw [← this]
  ·rw [if_neg hx]
theorem sh_bad {cs:List (Int×Int×Bool)} {by':Int} {x:Stp} (h1:0≤x.2.1∧x.2.1≤fretsOf cs x.1):slBad cs by' x=decide ((shF cs by' x).2.1<0∨fretsOf cs x.1<(shF cs by' x).2.1):=by
 unfold slBad shF
 by_cases hf:0<fretsOf cs x.1
 ·rw [if_pos hf]
  show decide (0<fretsOf cs x.1∧(x.2.1+by'<0∨fretsOf cs x.1<x.2.1+by'))=decide (x.2.1+by'<0∨fretsOf cs x.1<x.2.1+by')
  by_cases h:x.2.1+by'<0∨fretsOf cs x.1<x.2.1+by'
  ·rw [decide_eq_true ⟨hf,h⟩,decide_eq_true h]
  ·rw [decide_eq_false fun q=>h q.2,decide_eq_false h]
 ·rw [if_neg hf,decide_eq_false fun q=>hf q.1,decide_eq_false (by omega)]
end
section
open Go.RowKit
theorem gm_len {g:Stp→Stp} {evs:List Ev} {i:Nat} (h:i<evs.length):∃ h2:i<(evs.map (gmE g)).length,(evs.map (gmE g))[i]=gmE g evs[i]:=⟨by rw [List.length_map];exact h,List.getElem_map ..⟩
theorem pSlide_FS (p:Pce) (hO:PcOk p) (b:Int):Ctr Tryz.prog 37 [ePce p,.sc (.int .i64 b)] (.tu [ePce (slP p b),.sc (.int .i64 (slX p b))]):=by
 have hC:=pCheck_FS p hO
 have hno:∀ e:Int,e≠0→slX p b=e→slP p b=noP:=fun e h1 h2=>if_neg (by rw [h2];exact h1)
 have hPe:ePce p=.ag [.ls 3 (p.cs.map eCrs),.ls 1 (p.st.map eInt),.ls 6 (p.evs.map eEv)]:=rfl
 have hNo:ePce noP=.ag [.ls 3 [],.ls 1 [],.ls 6 []]:=rfl
 by_cases h0:pceE p=0
 rotate_left
 ·have e:slX p b=pceE p:=if_pos h0
  rw [hno _ h0 e,e,hNo]
  obtain ⟨E,hE⟩:∃ z,pceE p=z:=⟨_,rfl⟩
  rw [hE] at hC h0 ⊢
  rw [hPe] at hC ⊢
  refine zqe Tryz.func37 Tryz.ntmps37 fun w0 F0=>?_;dsimp only [St.init,number,Nat.reduceAdd]
  repeat (first|refine WL.vl rfl (WV.nch rfl rfl) ?_|refine W.gob rfl ?_|refine WL.nil ?_|refine WL.bt rfl rfl rfl zqo ?_|refine WL.bf rfl rfl rfl zqo ?_|refine WL.nt rfl rfl rfl zqo ?_|refine WL.nf rfl rfl rfl zqo ?_|refine WL.e1 rfl ?_|refine WL.gyes rfl rfl rfl rfl ?_|refine WL.opno rfl rfl rfl rfl rfl rfl rfl ?_|refine WL.ar rfl rfl z43i ?_|refine WL.len rfl rfl rfl ?_|refine WL.ixs rfl rfl zqs ?_|refine W.condT rfl ?_|refine W.condF rfl ?_)
  (first|refine (?_:W _ _ _ _ _)|refine (?_:WL _ _ _ _ _ _)|skip)
  try dsimp only [St.put,Nat.reduceAdd]
  refine WL.vl rfl (zqc Tryz.func45 hC) ?_
  repeat (first|refine WL.vl rfl (WV.nch rfl rfl) ?_|refine W.gob rfl ?_|refine WL.nil ?_|refine WL.bt rfl rfl rfl zqo ?_|refine WL.bf rfl rfl rfl zqo ?_|refine WL.nt rfl rfl rfl zqo ?_|refine WL.nf rfl rfl rfl zqo ?_|refine WL.e1 rfl ?_|refine WL.gyes rfl rfl rfl rfl ?_|refine WL.opno rfl rfl rfl rfl rfl rfl rfl ?_|refine WL.ar rfl rfl z43i ?_|refine WL.len rfl rfl rfl ?_|refine WL.ixs rfl rfl zqs ?_|refine W.condT rfl ?_|refine W.condF rfl ?_)
  (first|refine (?_:W _ _ _ _ _)|refine (?_:WL _ _ _ _ _ _)|skip)
  try dsimp only [St.put,Nat.reduceAdd]
  refine W.tr (Tr.nilC 1 0 3 rfl rfl rfl) ?_
  refine W.tr (Tr.nilC 1 1 1 rfl rfl rfl) ?_
  refine W.tr (Tr.nilC 1 2 6 rfl rfl rfl) ?_
  exact W.ret (finN rfl rfl rfl rfl)
 rw [h0] at hC
 by_cases hb:b < -18∨18 < b
 ·have e:slX p b=1:=by unfold slX;rw [if_neg (fun h=>h h0),if_pos hb]
  rw [hno _ (by decide) e,e,hNo]
  rw [hPe] at hC ⊢
  have hb2:b < -18∨(¬ b < -18∧18 < b):=by omega
  rcases hb2 with hb2|hb2
  all_goals
   refine zqe Tryz.func37 Tryz.ntmps37 fun w0 F0=>?_;dsimp only [St.init,number,Nat.reduceAdd]
   repeat (first|refine WL.vl rfl (WV.nch rfl rfl) ?_|refine W.gob rfl ?_|refine WL.nil ?_|refine WL.bt rfl rfl rfl zqo ?_|refine WL.bf rfl rfl rfl zqo ?_|refine WL.nt rfl rfl rfl zqo ?_|refine WL.nf rfl rfl rfl zqo ?_|refine WL.e1 rfl ?_|refine WL.gyes rfl rfl rfl rfl ?_|refine WL.opno rfl rfl rfl rfl rfl rfl rfl ?_|refine WL.ar rfl rfl z43i ?_|refine WL.len rfl rfl rfl ?_|refine WL.ixs rfl rfl zqs ?_|refine W.condT rfl ?_|refine W.condF rfl ?_)
   (first|refine (?_:W _ _ _ _ _)|refine (?_:WL _ _ _ _ _ _)|skip)
   try dsimp only [St.put,Nat.reduceAdd]
   refine WL.vl rfl (zqc Tryz.func45 hC) ?_
   repeat (first|refine WL.vl rfl (WV.nch rfl rfl) ?_|refine W.gob rfl ?_|refine WL.nil ?_|refine WL.bt rfl rfl rfl zqo ?_|refine WL.bf rfl rfl rfl zqo ?_|refine WL.nt rfl rfl rfl zqo ?_|refine WL.nf rfl rfl rfl zqo ?_|refine WL.e1 rfl ?_|refine WL.gyes rfl rfl rfl rfl ?_|refine WL.opno rfl rfl rfl rfl rfl rfl rfl ?_|refine WL.ar rfl rfl z43i ?_|refine WL.len rfl rfl rfl ?_|refine WL.ixs rfl rfl zqs ?_|refine W.condT rfl ?_|refine W.condF rfl ?_)
   (first|refine (?_:W _ _ _ _ _)|refine (?_:WL _ _ _ _ _ _)|skip)
   try dsimp only [St.put,Nat.reduceAdd]
   refine W.tr (Tr.nilC 1 0 3 rfl rfl rfl) ?_
   refine W.tr (Tr.nilC 1 1 1 rfl rfl rfl) ?_
   refine W.tr (Tr.nilC 1 2 6 rfl rfl rfl) ?_
   exact W.ret (finN rfl rfl rfl rfl)
 obtain ⟨hI,h400,_⟩:=pceE_zero h0
 have hSh:=uShift p hO h0 p.cs p.st hI rfl b zqo
 have hX:slX p b=if slAny p.cs b p.evs=true then 13 else 0:=by unfold slX;rw [if_neg (fun h=>h h0),if_neg hb]
 have hbad:∀ i (hi:i < p.evs.length) k (hk:k < p.evs[i].stops.length),slBad p.cs b p.evs[i].stops[k]=true→slX p b=13∧slP p b=noP:=fun i hi k hk h=>by
  have e:slX p b=13:=by rw [hX,if_pos (sl_at hi hk h)]
  exact ⟨e,hno _ (by decide) e⟩
 have hgood:(∀ i (hi:i < p.evs.length) k (hk:k < p.evs[i].stops.length),slBad p.cs b p.evs[i].stops[k]=false)→slX p b=0∧slP p b=⟨p.cs,p.st,(p.evs.map (gmE (shF p.cs b))).map (gmE hz)⟩:=fun h=>by
  have e:slX p b=0:=by rw [hX,if_neg (by rw [sl_no h];simp)]
  refine ⟨e,?_⟩
  rw [show slP p b=_ from if_pos e]
  congr 1
  rw [List.map_map]
  refine List.map_congr_left fun x hx=>?_
  obtain ⟨i,hi,rfl⟩:=List.getElem_of_mem hx
  show gmE (slF p.cs b) p.evs[i]=gmE hz (gmE (shF p.cs b) p.evs[i])
  unfold gmE
  dsimp only
  rw [List.map_map]
  congr 1
  refine List.map_congr_left fun y hy=>?_
  have hS:=(evOk_of h0 hi).stops y hy
  exact (hz_sh fun _ hf=>by
   have h1:=hS.hold
   rcases Int.lt_or_le 0 y.2.2.2.2 with q|q
   ·exact absurd hf (hS.h0 q)
   ·omega).symm
 have hst:∀ i (hi:i < p.evs.length) k (hk:k < p.evs[i].stops.length),(1≤p.evs[i].stops[k].1∧p.evs[i].stops[k].1≤p.cs.length)∧slBad p.cs b p.evs[i].stops[k]=decide ((shF p.cs b p.evs[i].stops[k]).2.1 < 0∨fretsOf p.cs p.evs[i].stops[k].1 < (shF p.cs b p.evs[i].stops[k]).2.1):=fun i hi k hk=>by
  have hS:=(evOk_of h0 hi).stops _ (List.getElem_mem hk)
  exact ⟨hS.crs,sh_bad hS.fret⟩
 have hcl:=hO.n1
 have hCl:(p.cs.map eCrs).length=p.cs.length:=List.length_map _
 have hCr:=fun (c:Int) (h:1≤c∧c≤p.cs.length)=>fretsOf_row (cs:=p.cs) h
 have hQl:(p.evs.map (gmE (shF p.cs b))).length=p.evs.length:=List.length_map _
 have hQg:∀ i (hi:i < p.evs.length),∃ h2:i < (p.evs.map (gmE (shF p.cs b))).length,(p.evs.map (gmE (shF p.cs b)))[i]=gmE (shF p.cs b) p.evs[i]:=fun i hi=>gm_len hi
 have h20:∀ i (h:i < p.evs.length),p.evs[i].stops.length≤20:=hO.n4
 obtain ⟨Q,hQ⟩:∃ z,p.evs.map (gmE (shF p.cs b))=z:=⟨_,rfl⟩
 rw [hQ] at hSh hQl
 simp only [hQ] at hgood hQg
 clear hno hX
 have hRl:∀ k,((mpK (gmE hz) k Q).map eEvO).length=p.evs.length:=fun k=>by rw [List.length_map,mpK_len];exact hQl
 have hat:∀ k (h:k < p.evs.length),((mpK (gmE hz) k Q).map eEvO)[k]?=some [.sc (.bool p.evs[k].bar),.sc (.int .i64 p.evs[k].val),.sc (.bool p.evs[k].dot),.sc (.bool p.evs[k].three),.sc (.bool p.evs[k].tie),.ow 48 5 ((p.evs[k].stops.map (shF p.cs b)).map eStp)]:=fun k h=>by
  obtain ⟨h2,e⟩:=hQg k h
  rw [List.getElem?_map,mpK_get h2,e];rfl
 have hset:∀ k (h:k < p.evs.length),((mpK (gmE hz) k Q).map eEvO).set k [.sc (.bool p.evs[k].bar),.sc (.int .i64 p.evs[k].val),.sc (.bool p.evs[k].dot),.sc (.bool p.evs[k].three),.sc (.bool p.evs[k].tie),.ow 48 5 ((mpK hz (p.evs[k].stops.map (shF p.cs b)).length (p.evs[k].stops.map (shF p.cs b))).map eStp)]=(mpK (gmE hz) (k+1) Q).map eEvO:=fun k h=>by
  obtain ⟨h2,e⟩:=hQg k h
  rw [mpK_all,← mpK_put h2,List.map_set,e];rfl
 have hM0:Q.map eEvO=(mpK (gmE hz) 0 Q).map eEvO:=by rw [mpK_0]
 have hMn:(mpK (gmE hz) p.evs.length Q).map eEvO=(Q.map (gmE hz)).map eEvO:=by rw [← hQl,mpK_all]
 have hz1:=eEvO_rows (Q.map (gmE hz))
 have hs1:=List.all_eq_true.2 fun r hr=>List.all_eq_true.2 (eEvO_shal (Q.map (gmE hz)) r hr)
 rw [hM0] at hSh
 rw [hPe] at hC hSh ⊢
 obtain ⟨CS,hCS⟩:∃ z,p.cs.map eCrs=z:=⟨_,rfl⟩
 rw [hCS] at hC hSh hCl ⊢
 simp only [hCS] at hCr
 refine zqe Tryz.func37 Tryz.ntmps37 fun w0 F0=>?_;dsimp only [St.init,number,Nat.reduceAdd]
 repeat (first|refine WL.vl rfl (WV.nch rfl rfl) ?_|refine W.gob rfl ?_|refine WL.nil ?_|refine WL.bt rfl rfl rfl zqo ?_|refine WL.bf rfl rfl rfl zqo ?_|refine WL.nt rfl rfl rfl zqo ?_|refine WL.nf rfl rfl rfl zqo ?_|refine WL.e1 rfl ?_|refine WL.gyes rfl rfl rfl rfl ?_|refine WL.opno rfl rfl rfl rfl rfl rfl rfl ?_|refine WL.ar rfl rfl z43i ?_|refine WL.len rfl rfl rfl ?_|refine WL.ixs rfl rfl zqs ?_|refine W.condT rfl ?_|refine W.condF rfl ?_)
 (first|refine (?_:W _ _ _ _ _)|refine (?_:WL _ _ _ _ _ _)|skip)
 try dsimp only [St.put,Nat.reduceAdd]
 refine WL.vl rfl (zqc Tryz.func45 hC) ?_
 repeat (first|refine WL.vl rfl (WV.nch rfl rfl) ?_|refine W.gob rfl ?_|refine WL.nil ?_|refine WL.bt rfl rfl rfl zqo ?_|refine WL.bf rfl rfl rfl zqo ?_|refine WL.nt rfl rfl rfl zqo ?_|refine WL.nf rfl rfl rfl zqo ?_|refine WL.e1 rfl ?_|refine WL.gyes rfl rfl rfl rfl ?_|refine WL.opno rfl rfl rfl rfl rfl rfl rfl ?_|refine WL.ar rfl rfl z43i ?_|refine WL.len rfl rfl rfl ?_|refine WL.ixs rfl rfl zqs ?_|refine W.condT rfl ?_|refine W.condF rfl ?_)
 (first|refine (?_:W _ _ _ _ _)|refine (?_:WL _ _ _ _ _ _)|skip)
 try dsimp only [St.put,Nat.reduceAdd]
 refine WL.cto (truH _) [] rfl rfl (callF Tryz.func82 rfl rfl) hSh rfl rfl rfl trivial rfl rfl rfl rfl ?_
 repeat (first|refine WL.vl rfl (WV.nch rfl rfl) ?_|refine W.gob rfl ?_|refine WL.nil ?_|refine WL.bt rfl rfl rfl zqo ?_|refine WL.bf rfl rfl rfl zqo ?_|refine WL.nt rfl rfl rfl zqo ?_|refine WL.nf rfl rfl rfl zqo ?_|refine WL.e1 rfl ?_|refine WL.gyes rfl rfl rfl rfl ?_|refine WL.opno rfl rfl rfl rfl rfl rfl rfl ?_|refine WL.ar rfl rfl z43i ?_|refine WL.len rfl rfl rfl ?_|refine WL.ixs rfl rfl zqs ?_|refine W.condT rfl ?_|refine W.condF rfl ?_)
 (first|refine (?_:W _ _ _ _ _)|refine (?_:WL _ _ _ _ _ _)|skip)
 try dsimp only [St.put,Nat.reduceAdd]
 refine W.loop (fun i:Nat=>i≤p.evs.length∧∀ j (hj:j < p.evs.length) k (hk:k < p.evs[j].stops.length),j < i→slBad p.cs b p.evs[j].stops[k]=false) (fun i=>⟨[(2,.pt 0 0 0),(4,.pt 1 0 0),(7,.pt 4 0 0),(31,.sc (.int .i64 p.evs.length)),(32,.sc (.int .i64 i))],[(0,.box 29 [.ls 3 CS,.ls 1 (p.st.map eInt),.ls 6 (p.evs.map eEv)]),(1,.box 29 [.sc (.slice none 0 0),.sc (.slice none 0 0),.sc (.slice none 0 0)]),(2,.rwn 45 6 ((mpK (gmE hz) i Q).map eEvO)),(4,.box 29 [.ls 3 CS,.ls 1 (p.st.map eInt),.sl 2])],5⟩) (fun i=>p.evs.length - i) 0 ⟨by omega,fun j hj k hk h=>absurd h (Nat.not_lt_zero _)⟩ (by rw [← hRl 0];exact (zqt id)) fun i hi=>?_
 obtain ⟨hi,hno⟩:=hi
 have hl2:=hRl i
 by_cases hlt:i < p.evs.length
 ·have h1:=hat i hlt
  have h2:=hset i hlt
  have h3:=hst i hlt
  have h4:=hbad i hlt
  have h20:=h20 i hlt
  have hnx:(∀ k (hk:k < p.evs[i].stops.length),slBad p.cs b p.evs[i].stops[k]=false)→∀ j (hj:j < p.evs.length) k (hk:k < p.evs[j].stops.length),j < i+1→slBad p.cs b p.evs[j].stops[k]=false:=fun h j hj k hk hji=>by
   by_cases e:j=i
   ·subst e;exact h k hk
   ·exact hno j hj k hk zqo
  obtain ⟨R,hR⟩:∃ z,(mpK (gmE hz) i Q).map eEvO=z:=⟨_,rfl⟩
  rw [hR] at h1 h2 hl2 ⊢
  have hSl1:(p.evs[i].stops.map (shF p.cs b)).length=p.evs[i].stops.length:=List.length_map _
  have hSg:∀ k (hk:k < p.evs[i].stops.length),∃ h2:k < (p.evs[i].stops.map (shF p.cs b)).length,(p.evs[i].stops.map (shF p.cs b))[k]=shF p.cs b p.evs[i].stops[k]:=fun k hk=>⟨by rw [List.length_map];exact hk,List.getElem_map ..⟩
  obtain ⟨S,hS⟩:∃ z,p.evs[i].stops.map (shF p.cs b)=z:=⟨_,rfl⟩
  rw [hS] at h1 h2 hSl1
  simp only [hS] at hSg
  clear hat hset hst hM0 hMn hSh hR hRl hbad hgood hz1 hs1 hno
  refine W.tr (Tr.open_ 2 i 5 rfl h1 rfl (eStp_own S) rfl) ?_
  dsimp only [St.upd,St.new,Nat.reduceAdd]
  have hSl:∀ k,((mpK hz k S).map eStp).length=S.length:=fun k=>by rw [List.length_map,mpK_len]
  have hS0:S.map eStp=(mpK hz 0 S).map eStp:=by rw [mpK_0]
  have hSl0:(S.map eStp).length=S.length:=List.length_map _
  repeat (first|refine WL.vl rfl (WV.nch rfl rfl) ?_|refine W.gob rfl ?_|refine WL.nil ?_|refine WL.bt rfl rfl rfl zqo ?_|refine WL.bf rfl rfl rfl zqo ?_|refine WL.nt rfl rfl rfl zqo ?_|refine WL.nf rfl rfl rfl zqo ?_|refine WL.e1 rfl ?_|refine WL.gyes rfl rfl rfl rfl ?_|refine WL.opno rfl rfl rfl rfl rfl rfl rfl ?_|refine WL.ar rfl rfl z43i ?_|refine WL.len rfl rfl rfl ?_|refine WL.ixs rfl rfl zqs ?_|refine W.condT rfl ?_|refine W.condF rfl ?_)
  (first|refine (?_:W _ _ _ _ _)|refine (?_:WL _ _ _ _ _ _)|skip)
  try dsimp only [St.put,Nat.reduceAdd]
  refine WL.ldQ rfl rfl rfl rfl h1 (by show 5 < 6;omega) ?_
  repeat (first|refine WL.vl rfl (WV.nch rfl rfl) ?_|refine W.gob rfl ?_|refine WL.nil ?_|refine WL.bt rfl rfl rfl zqo ?_|refine WL.bf rfl rfl rfl zqo ?_|refine WL.nt rfl rfl rfl zqo ?_|refine WL.nf rfl rfl rfl zqo ?_|refine WL.e1 rfl ?_|refine WL.gyes rfl rfl rfl rfl ?_|refine WL.opno rfl rfl rfl rfl rfl rfl rfl ?_|refine WL.ar rfl rfl z43i ?_|refine WL.len rfl rfl rfl ?_|refine WL.ixs rfl rfl zqs ?_|refine W.condT rfl ?_|refine W.condF rfl ?_)
  (first|refine (?_:W _ _ _ _ _)|refine (?_:WL _ _ _ _ _ _)|skip)
  try dsimp only [St.put,Nat.reduceAdd]
  refine W.loop (fun k:Nat=>k≤S.length∧∀ j (hj:j < p.evs[i].stops.length),j < k→slBad p.cs b p.evs[i].stops[j]=false) (fun k=>⟨[(2,.pt 0 0 0),(4,.pt 1 0 0),(7,.pt 4 0 0),(31,.sc (.int .i64 p.evs.length)),(32,.sc (.int .i64 i)),(8,.sc (.int .i64 i)),(41,.sc (.int .i64 S.length)),(42,.sc (.int .i64 k))],[(0,.box 29 [.ls 3 CS,.ls 1 (p.st.map eInt),.ls 6 (p.evs.map eEv)]),(1,.box 29 [.sc (.slice none 0 0),.sc (.slice none 0 0),.sc (.slice none 0 0)]),(2,.rwo 45 6 R i 5 (.sl 5)),(4,.box 29 [.ls 3 CS,.ls 1 (p.st.map eInt),.sl 2]),(5,.row 48 5 ((mpK hz k S).map eStp))],6⟩) (fun k=>S.length - k) 0 ⟨by omega,fun j hj h=>absurd h (Nat.not_lt_zero _)⟩ (by rw [← hSl0];exact (zqu (fun q=>q) (by repeat (first|exact trivial|refine ⟨⟨?_,?_,?_⟩,?_⟩|rfl|exact congrArg (fun q=>some (AO.row _ _ q)) hS0|exact congrArg (fun q=>some (AO.rwn _ _ q)) hS0)) rfl)) fun k hk=>?_
  obtain ⟨hk,hnk⟩:=hk
  have hl3:=hSl k
  by_cases hkl:k < S.length
  ·have hkp:k < p.evs[i].stops.length:=by omega
   have g0:=mpK_get (f:=hz) hkl
   have g1:((mpK hz k S).map eStp)[k]?=some [.sc (.int .i64 S[k].1),.sc (.int .i64 S[k].2.1),.sc (.int .i64 S[k].2.2.1),.sc (.int .i64 S[k].2.2.2.1),.sc (.int .i64 S[k].2.2.2.2)]:=by
    rw [List.getElem?_map,g0];rfl
   have g2:=congrArg (List.map eStp) (mpK_put (f:=hz) hkl)
   rw [List.map_set] at g2
   obtain ⟨c1,c2⟩:=h3 k hkp
   obtain ⟨_,hsg⟩:=hSg k hkp
   have hcc:S[k].1=p.evs[i].stops[k].1:=by
    rw [hsg];unfold shF;split<;>rfl
   rw [← hsg,← hcc] at c2
   rw [← hcc] at c1
   have g3:=hCr _ c1
   have h5:=h4 k hkp
   rw [c2] at h5
   have hnk2:¬ (S[k].2.1 < 0∨fretsOf p.cs S[k].1 < S[k].2.1)→∀ j (hj:j < p.evs[i].stops.length),j < k+1→slBad p.cs b p.evs[i].stops[j]=false:=fun h j hj hjk=>by
    by_cases e:j=k
    ·subst e;rw [c2];exact decide_eq_false h
    ·exact hnk j hj zqo
   obtain ⟨K,hK⟩:∃ z,(mpK hz k S).map eStp=z:=⟨_,rfl⟩
   rw [hK] at g1 g2 hl3 ⊢
   obtain ⟨F,hF⟩:∃ z,fretsOf p.cs S[k].1=z:=⟨_,rfl⟩
   rw [hF] at g3 h5 hnk2
   obtain ⟨X,hX⟩:∃ z,S[k]=z:=⟨_,rfl⟩
   rw [hX] at g1 g2 g3 c1 h5 hnk2
   clear g0 hK hF hX h3 hSl hS0 hCr hsg hcc c2 h4 hSg hnk hnx
   by_cases hf:X.2.1 < 0∨F < X.2.1
   ·obtain ⟨e1,e2⟩:=h5 (decide_eq_true hf)
    rw [e1,e2,hNo]
    have hf2:X.2.1 < 0∨(¬ X.2.1 < 0∧F < X.2.1):=by omega
    clear hf
    rcases hf2 with hf2|hf2
    all_goals
     repeat (first|refine WL.vl rfl (WV.nch rfl rfl) ?_|refine W.gob rfl ?_|refine WL.nil ?_|refine WL.bt rfl rfl rfl zqo ?_|refine WL.bf rfl rfl rfl zqo ?_|refine WL.nt rfl rfl rfl zqo ?_|refine WL.nf rfl rfl rfl zqo ?_|refine WL.e1 rfl ?_|refine WL.gyes rfl rfl rfl rfl ?_|refine WL.opno rfl rfl rfl rfl rfl rfl rfl ?_|refine WL.ar rfl rfl z43i ?_|refine WL.len rfl rfl rfl ?_|refine WL.ixs rfl rfl zqs ?_|refine W.condT rfl ?_|refine W.condF rfl ?_)
     (first|refine (?_:W _ _ _ _ _)|refine (?_:WL _ _ _ _ _ _)|skip)
     try dsimp only [St.put,Nat.reduceAdd]
     refine WL.ldQ rfl rfl rfl rfl h1 (by show 5 < 6;omega) ?_
     repeat (first|refine WL.vl rfl (WV.nch rfl rfl) ?_|refine W.gob rfl ?_|refine WL.nil ?_|refine WL.bt rfl rfl rfl zqo ?_|refine WL.bf rfl rfl rfl zqo ?_|refine WL.nt rfl rfl rfl zqo ?_|refine WL.nf rfl rfl rfl zqo ?_|refine WL.e1 rfl ?_|refine WL.gyes rfl rfl rfl rfl ?_|refine WL.opno rfl rfl rfl rfl rfl rfl rfl ?_|refine WL.ar rfl rfl z43i ?_|refine WL.len rfl rfl rfl ?_|refine WL.ixs rfl rfl zqs ?_|refine W.condT rfl ?_|refine W.condF rfl ?_)
     (first|refine (?_:W _ _ _ _ _)|refine (?_:WL _ _ _ _ _ _)|skip)
     try dsimp only [St.put,Nat.reduceAdd]
     refine W.drawK zqk zqk ?_
     repeat (first|refine DK.vl rfl (WV.nch rfl rfl) ?_|refine DK.bt rfl rfl zqo ?_|refine DK.bf rfl rfl zqo ?_|refine DK.no rfl rfl rfl ?_|refine DK.st rfl ?_|refine DK.ar rfl rfl z43i ?_|refine DK.ldr rfl rfl g1 rfl rfl ?_|refine DK.idx rfl rfl zqo g3 ?_|refine DK.nil ?_)
     repeat (first|refine WL.vl rfl (WV.nch rfl rfl) ?_|refine W.gob rfl ?_|refine WL.nil ?_|refine WL.bt rfl rfl rfl zqo ?_|refine WL.bf rfl rfl rfl zqo ?_|refine WL.nt rfl rfl rfl zqo ?_|refine WL.nf rfl rfl rfl zqo ?_|refine WL.e1 rfl ?_|refine WL.gyes rfl rfl rfl rfl ?_|refine WL.opno rfl rfl rfl rfl rfl rfl rfl ?_|refine WL.ar rfl rfl z43i ?_|refine WL.len rfl rfl rfl ?_|refine WL.ixs rfl rfl zqs ?_|refine W.condT rfl ?_|refine W.condF rfl ?_)
     (first|refine (?_:W _ _ _ _ _)|refine (?_:WL _ _ _ _ _ _)|skip)
     try dsimp only [St.put,Nat.reduceAdd]
     refine W.tr (Tr.nilC 1 0 3 rfl rfl rfl) ?_
     refine W.tr (Tr.nilC 1 1 1 rfl rfl rfl) ?_
     refine W.tr (Tr.nilC 1 2 6 rfl rfl rfl) ?_
     exact W.ret (finN rfl rfl rfl rfl)
   ·have hnk3:=hnk2 hf
    clear hnk2 h5
    by_cases hz0:X.2.1=0
    ·have g4:hz X=stH X 0:=if_pos hz0
     rw [g4] at g2
     have g5:K.set k (putL 4 [.sc (.int .i64 0)] [.sc (.int .i64 X.1),.sc (.int .i64 X.2.1),.sc (.int .i64 X.2.2.1),.sc (.int .i64 X.2.2.2.1),.sc (.int .i64 X.2.2.2.2)])=(mpK hz (k+1) S).map eStp:=g2
     clear g2 g4
     repeat (first|refine WL.vl rfl (WV.nch rfl rfl) ?_|refine W.gob rfl ?_|refine WL.nil ?_|refine WL.bt rfl rfl rfl zqo ?_|refine WL.bf rfl rfl rfl zqo ?_|refine WL.nt rfl rfl rfl zqo ?_|refine WL.nf rfl rfl rfl zqo ?_|refine WL.e1 rfl ?_|refine WL.gyes rfl rfl rfl rfl ?_|refine WL.opno rfl rfl rfl rfl rfl rfl rfl ?_|refine WL.ar rfl rfl z43i ?_|refine WL.len rfl rfl rfl ?_|refine WL.ixs rfl rfl zqs ?_|refine W.condT rfl ?_|refine W.condF rfl ?_)
     (first|refine (?_:W _ _ _ _ _)|refine (?_:WL _ _ _ _ _ _)|skip)
     try dsimp only [St.put,Nat.reduceAdd]
     refine WL.ldQ rfl rfl rfl rfl h1 (by show 5 < 6;omega) ?_
     repeat (first|refine WL.vl rfl (WV.nch rfl rfl) ?_|refine W.gob rfl ?_|refine WL.nil ?_|refine WL.bt rfl rfl rfl zqo ?_|refine WL.bf rfl rfl rfl zqo ?_|refine WL.nt rfl rfl rfl zqo ?_|refine WL.nf rfl rfl rfl zqo ?_|refine WL.e1 rfl ?_|refine WL.gyes rfl rfl rfl rfl ?_|refine WL.opno rfl rfl rfl rfl rfl rfl rfl ?_|refine WL.ar rfl rfl z43i ?_|refine WL.len rfl rfl rfl ?_|refine WL.ixs rfl rfl zqs ?_|refine W.condT rfl ?_|refine W.condF rfl ?_)
     (first|refine (?_:W _ _ _ _ _)|refine (?_:WL _ _ _ _ _ _)|skip)
     try dsimp only [St.put,Nat.reduceAdd]
     refine W.drawK zqk zqk ?_
     repeat (first|refine DK.vl rfl (WV.nch rfl rfl) ?_|refine DK.bt rfl rfl zqo ?_|refine DK.bf rfl rfl zqo ?_|refine DK.no rfl rfl rfl ?_|refine DK.st rfl ?_|refine DK.ar rfl rfl z43i ?_|refine DK.ldr rfl rfl g1 rfl rfl ?_|refine DK.idx rfl rfl zqo g3 ?_|refine DK.nil ?_)
     repeat (first|refine WL.vl rfl (WV.nch rfl rfl) ?_|refine W.gob rfl ?_|refine WL.nil ?_|refine WL.bt rfl rfl rfl zqo ?_|refine WL.bf rfl rfl rfl zqo ?_|refine WL.nt rfl rfl rfl zqo ?_|refine WL.nf rfl rfl rfl zqo ?_|refine WL.e1 rfl ?_|refine WL.gyes rfl rfl rfl rfl ?_|refine WL.opno rfl rfl rfl rfl rfl rfl rfl ?_|refine WL.ar rfl rfl z43i ?_|refine WL.len rfl rfl rfl ?_|refine WL.ixs rfl rfl zqs ?_|refine W.condT rfl ?_|refine W.condF rfl ?_)
     (first|refine (?_:W _ _ _ _ _)|refine (?_:WL _ _ _ _ _ _)|skip)
     try dsimp only [St.put,Nat.reduceAdd]
     refine WL.ldr rfl rfl g1 rfl rfl ?_
     repeat (first|refine WL.vl rfl (WV.nch rfl rfl) ?_|refine W.gob rfl ?_|refine WL.nil ?_|refine WL.bt rfl rfl rfl zqo ?_|refine WL.bf rfl rfl rfl zqo ?_|refine WL.nt rfl rfl rfl zqo ?_|refine WL.nf rfl rfl rfl zqo ?_|refine WL.e1 rfl ?_|refine WL.gyes rfl rfl rfl rfl ?_|refine WL.opno rfl rfl rfl rfl rfl rfl rfl ?_|refine WL.ar rfl rfl z43i ?_|refine WL.len rfl rfl rfl ?_|refine WL.ixs rfl rfl zqs ?_|refine W.condT rfl ?_|refine W.condF rfl ?_)
     (first|refine (?_:W _ _ _ _ _)|refine (?_:WL _ _ _ _ _ _)|skip)
     try dsimp only [St.put,Nat.reduceAdd]
     refine WL.sto rfl rfl rfl rfl g1 (by show 4+1≤5;omega) ?_
     repeat (first|refine WL.vl rfl (WV.nch rfl rfl) ?_|refine W.gob rfl ?_|refine WL.nil ?_|refine WL.bt rfl rfl rfl zqo ?_|refine WL.bf rfl rfl rfl zqo ?_|refine WL.nt rfl rfl rfl zqo ?_|refine WL.nf rfl rfl rfl zqo ?_|refine WL.e1 rfl ?_|refine WL.gyes rfl rfl rfl rfl ?_|refine WL.opno rfl rfl rfl rfl rfl rfl rfl ?_|refine WL.ar rfl rfl z43i ?_|refine WL.len rfl rfl rfl ?_|refine WL.ixs rfl rfl zqs ?_|refine W.condT rfl ?_|refine W.condF rfl ?_)
     (first|refine (?_:W _ _ _ _ _)|refine (?_:WL _ _ _ _ _ _)|skip)
     try dsimp only [St.put,Nat.reduceAdd]
     exact ⟨k+1,⟨by omega,hnk3⟩,by omega,(zqu (fun q=>q) (by repeat (first|exact trivial|refine ⟨⟨?_,?_,?_⟩,?_⟩|rfl|exact congrArg (fun q=>some (AO.row _ _ q)) g5|exact congrArg (fun q=>some (AO.rwn _ _ q)) g5)) rfl)⟩
    ·have g4:hz X=X:=if_neg hz0
     rw [g4] at g2
     have g5:K=(mpK hz (k+1) S).map eStp:=by
      rw [← g2]
      obtain ⟨hl,e⟩:=List.getElem?_eq_some_iff.1 g1
      exact (by rw [show eStp X=K[k] from e.symm,List.set_getElem_self]:K.set k (eStp X)=K).symm
     clear g2 g4
     repeat (first|refine WL.vl rfl (WV.nch rfl rfl) ?_|refine W.gob rfl ?_|refine WL.nil ?_|refine WL.bt rfl rfl rfl zqo ?_|refine WL.bf rfl rfl rfl zqo ?_|refine WL.nt rfl rfl rfl zqo ?_|refine WL.nf rfl rfl rfl zqo ?_|refine WL.e1 rfl ?_|refine WL.gyes rfl rfl rfl rfl ?_|refine WL.opno rfl rfl rfl rfl rfl rfl rfl ?_|refine WL.ar rfl rfl z43i ?_|refine WL.len rfl rfl rfl ?_|refine WL.ixs rfl rfl zqs ?_|refine W.condT rfl ?_|refine W.condF rfl ?_)
     (first|refine (?_:W _ _ _ _ _)|refine (?_:WL _ _ _ _ _ _)|skip)
     try dsimp only [St.put,Nat.reduceAdd]
     refine WL.ldQ rfl rfl rfl rfl h1 (by show 5 < 6;omega) ?_
     repeat (first|refine WL.vl rfl (WV.nch rfl rfl) ?_|refine W.gob rfl ?_|refine WL.nil ?_|refine WL.bt rfl rfl rfl zqo ?_|refine WL.bf rfl rfl rfl zqo ?_|refine WL.nt rfl rfl rfl zqo ?_|refine WL.nf rfl rfl rfl zqo ?_|refine WL.e1 rfl ?_|refine WL.gyes rfl rfl rfl rfl ?_|refine WL.opno rfl rfl rfl rfl rfl rfl rfl ?_|refine WL.ar rfl rfl z43i ?_|refine WL.len rfl rfl rfl ?_|refine WL.ixs rfl rfl zqs ?_|refine W.condT rfl ?_|refine W.condF rfl ?_)
     (first|refine (?_:W _ _ _ _ _)|refine (?_:WL _ _ _ _ _ _)|skip)
     try dsimp only [St.put,Nat.reduceAdd]
     refine W.drawK zqk zqk ?_
     repeat (first|refine DK.vl rfl (WV.nch rfl rfl) ?_|refine DK.bt rfl rfl zqo ?_|refine DK.bf rfl rfl zqo ?_|refine DK.no rfl rfl rfl ?_|refine DK.st rfl ?_|refine DK.ar rfl rfl z43i ?_|refine DK.ldr rfl rfl g1 rfl rfl ?_|refine DK.idx rfl rfl zqo g3 ?_|refine DK.nil ?_)
     repeat (first|refine WL.vl rfl (WV.nch rfl rfl) ?_|refine W.gob rfl ?_|refine WL.nil ?_|refine WL.bt rfl rfl rfl zqo ?_|refine WL.bf rfl rfl rfl zqo ?_|refine WL.nt rfl rfl rfl zqo ?_|refine WL.nf rfl rfl rfl zqo ?_|refine WL.e1 rfl ?_|refine WL.gyes rfl rfl rfl rfl ?_|refine WL.opno rfl rfl rfl rfl rfl rfl rfl ?_|refine WL.ar rfl rfl z43i ?_|refine WL.len rfl rfl rfl ?_|refine WL.ixs rfl rfl zqs ?_|refine W.condT rfl ?_|refine W.condF rfl ?_)
     (first|refine (?_:W _ _ _ _ _)|refine (?_:WL _ _ _ _ _ _)|skip)
     try dsimp only [St.put,Nat.reduceAdd]
     refine WL.ldr rfl rfl g1 rfl rfl ?_
     repeat (first|refine WL.vl rfl (WV.nch rfl rfl) ?_|refine W.gob rfl ?_|refine WL.nil ?_|refine WL.bt rfl rfl rfl zqo ?_|refine WL.bf rfl rfl rfl zqo ?_|refine WL.nt rfl rfl rfl zqo ?_|refine WL.nf rfl rfl rfl zqo ?_|refine WL.e1 rfl ?_|refine WL.gyes rfl rfl rfl rfl ?_|refine WL.opno rfl rfl rfl rfl rfl rfl rfl ?_|refine WL.ar rfl rfl z43i ?_|refine WL.len rfl rfl rfl ?_|refine WL.ixs rfl rfl zqs ?_|refine W.condT rfl ?_|refine W.condF rfl ?_)
     (first|refine (?_:W _ _ _ _ _)|refine (?_:WL _ _ _ _ _ _)|skip)
     try dsimp only [St.put,Nat.reduceAdd]
     exact ⟨k+1,⟨by omega,hnk3⟩,by omega,(zqu (fun q=>q) (by repeat (first|exact trivial|refine ⟨⟨?_,?_,?_⟩,?_⟩|rfl|exact congrArg (fun q=>some (AO.row _ _ q)) g5|exact congrArg (fun q=>some (AO.rwn _ _ q)) g5)) rfl)⟩
  ·obtain rfl:k=S.length:=by omega
   have hn2:=hnx fun j hj=>hnk j hj zqo
   clear hnx hnk h4 h3
   repeat (first|refine WL.vl rfl (WV.nch rfl rfl) ?_|refine W.gob rfl ?_|refine WL.nil ?_|refine WL.bt rfl rfl rfl zqo ?_|refine WL.bf rfl rfl rfl zqo ?_|refine WL.nt rfl rfl rfl zqo ?_|refine WL.nf rfl rfl rfl zqo ?_|refine WL.e1 rfl ?_|refine WL.gyes rfl rfl rfl rfl ?_|refine WL.opno rfl rfl rfl rfl rfl rfl rfl ?_|refine WL.ar rfl rfl z43i ?_|refine WL.len rfl rfl rfl ?_|refine WL.ixs rfl rfl zqs ?_|refine W.condT rfl ?_|refine W.condF rfl ?_)
   (first|refine (?_:W _ _ _ _ _)|refine (?_:WL _ _ _ _ _ _)|skip)
   try dsimp only [St.put,Nat.reduceAdd]
   refine ⟨i+1,⟨by omega,hn2⟩,by omega,?_⟩
   refine Tr.trans (Tr.close_ 2 rfl rfl rfl h1 (by show 5 < 6;omega) h2) ?_
   exact (zqt id)
 ·obtain rfl:i=p.evs.length:=by omega
  obtain ⟨e1,e2⟩:=hgood fun j hj k hk=>hno j hj k hk hj
  rw [e1,e2]
  have hRe:ePce ⟨p.cs,p.st,Q.map (gmE hz)⟩=.ag [.ls 3 (p.cs.map eCrs),.ls 1 (p.st.map eInt),.ls 6 ((Q.map (gmE hz)).map eEv)]:=rfl
  rw [hRe,hCS,hMn]
  clear hno hbad hgood hat hset hst
  repeat (first|refine WL.vl rfl (WV.nch rfl rfl) ?_|refine W.gob rfl ?_|refine WL.nil ?_|refine WL.bt rfl rfl rfl zqo ?_|refine WL.bf rfl rfl rfl zqo ?_|refine WL.nt rfl rfl rfl zqo ?_|refine WL.nf rfl rfl rfl zqo ?_|refine WL.e1 rfl ?_|refine WL.gyes rfl rfl rfl rfl ?_|refine WL.opno rfl rfl rfl rfl rfl rfl rfl ?_|refine WL.ar rfl rfl z43i ?_|refine WL.len rfl rfl rfl ?_|refine WL.ixs rfl rfl zqs ?_|refine W.condT rfl ?_|refine W.condF rfl ?_)
  (first|refine (?_:W _ _ _ _ _)|refine (?_:WL _ _ _ _ _ _)|skip)
  try dsimp only [St.put,Nat.reduceAdd]
  refine W.tr (Tr.freezeW 2 1 rfl hs1 hz1) ?_
  exact W.ret (finN rfl rfl rfl rfl)
end
end Go.Proofs.YtaeelcfjkhfpkaaGreat
