/- ConveyCapoed: the walk. -/
import Derived.Test.YtaeelcfjkhfpkaaGreatUBNq
import Derived.Test.YtaeelcfjkhfpkaaGreatU8Nq
import Derived.Test.YtaeelcfjkhfpkaaGreatREeNq
set_option maxHeartbeats 8000000
set_option maxRecDepth 100000
set_option linter.unusedVariables false
set_option linter.unusedSimpArgs false
namespace Go.Proofs.YtaeelcfjkhfpkaaGreat
open Go.RowKit
theorem smallK_FS (p:Pce):Ctr Tryz.prog 13 [ePce p] (.sc (.bool (!longB p))):=by
 refine zqe Tryz.func13 Tryz.ntmps13 fun w0 F0=>?_;dsimp only [St.init,number,Nat.reduceAdd]
 repeat (first|refine W.go rfl ?_|refine WL.ev rfl ?_)
 (first|refine (?_:W _ _ _ _ _)|refine (?_:WL _ _ _ _ _ _)|skip)
 try dsimp only [St.put,Nat.reduceAdd]
 refine WL.vl rfl (WV.call rfl (callF Tryz.func43 rfl rfl) rfl rfl (long_FS p)) ?_
 repeat (first|refine W.go rfl ?_|refine WL.ev rfl ?_)
 (first|refine (?_:W _ _ _ _ _)|refine (?_:WL _ _ _ _ _ _)|skip)
 try dsimp only [St.put,Nat.reduceAdd]
 exact W.ret zqr
theorem fnw_20d {C:Cg} {H:Nat→Stp→Int} {evs:List Ev} (h:∀ k (hk:k<evs.length),evs[k].stops.length≤20):∀ k (hk:k<(fnL H (nwL C evs)).length),((fnL H (nwL C evs))[k]'hk).stops.length≤20:=fun k hk=>by
 have hk2:k<(nwL C evs).length:=by rw [fnL_len]at hk;exact hk
 have hk3:k<evs.length:=by rw [nwL_len]at hk2;exact hk2
 rw [fnL_get hk2,nwL_get hk3]
 show ((nwS C evs[k].stops).map _).length≤20
 rw [List.length_map]
 have:=nwS_len C evs[k].stops
 have:=h k hk3
 omega
theorem capoed_FS (p:Pce) (f:Int):Ctr Tryz.prog 12 [ePce p,.sc (.int .i64 f)] (.sc (.bool true)):=by
 have hS:=smallK_FS p
 by_cases hl:longB p=true
 ·rw [hl] at hS
  refine zqe Tryz.func12 Tryz.ntmps12 fun w0 F0=>?_;dsimp only [St.init,number,Nat.reduceAdd]
  repeat (first|refine WL.vl rfl (WV.nch rfl rfl) ?_|refine W.gob rfl ?_|refine WL.nil ?_|refine WL.bt rfl rfl rfl zqo ?_|refine WL.bf rfl rfl rfl zqo ?_|refine WL.nt rfl rfl rfl zqo ?_|refine WL.nf rfl rfl rfl zqo ?_|refine WL.e1 rfl ?_|refine WL.gyes rfl rfl rfl rfl ?_|refine WL.opno rfl rfl rfl rfl rfl rfl rfl ?_|refine WL.len rfl rfl rfl ?_|refine W.condT rfl ?_|refine W.condF rfl ?_)
  (first|refine (?_:W _ _ _ _ _)|refine (?_:WL _ _ _ _ _ _)|skip)
  try dsimp only [St.put,Nat.reduceAdd]
  refine WL.vl rfl (zqc Tryz.func13 hS) ?_
  repeat (first|refine WL.vl rfl (WV.nch rfl rfl) ?_|refine W.gob rfl ?_|refine WL.nil ?_|refine WL.bt rfl rfl rfl zqo ?_|refine WL.bf rfl rfl rfl zqo ?_|refine WL.nt rfl rfl rfl zqo ?_|refine WL.nf rfl rfl rfl zqo ?_|refine WL.e1 rfl ?_|refine WL.gyes rfl rfl rfl rfl ?_|refine WL.opno rfl rfl rfl rfl rfl rfl rfl ?_|refine WL.len rfl rfl rfl ?_|refine W.condT rfl ?_|refine W.condF rfl ?_)
  (first|refine (?_:W _ _ _ _ _)|refine (?_:WL _ _ _ _ _ _)|skip)
  try dsimp only [St.put,Nat.reduceAdd]
  refine WL.vl rfl (zqc Tryz.func14 works04_FS) ?_
  repeat (first|refine WL.vl rfl (WV.nch rfl rfl) ?_|refine W.gob rfl ?_|refine WL.nil ?_|refine WL.bt rfl rfl rfl zqo ?_|refine WL.bf rfl rfl rfl zqo ?_|refine WL.nt rfl rfl rfl zqo ?_|refine WL.nf rfl rfl rfl zqo ?_|refine WL.e1 rfl ?_|refine WL.gyes rfl rfl rfl rfl ?_|refine WL.opno rfl rfl rfl rfl rfl rfl rfl ?_|refine WL.len rfl rfl rfl ?_|refine W.condT rfl ?_|refine W.condF rfl ?_)
  (first|refine (?_:W _ _ _ _ _)|refine (?_:WL _ _ _ _ _ _)|skip)
  try dsimp only [St.put,Nat.reduceAdd]
  exact W.ret zqr
 have hl:longB p=false:=by simpa using hl
 rw [hl] at hS
 have hO:=pcOk_of3 hl
 have hC:=rCheck_FS p hO
 by_cases h0:pceE p=0
 rotate_left
 ·obtain ⟨E,hE⟩:∃ z,pceE p=z:=⟨_,rfl⟩
  rw [hE] at hC h0
  refine zqe Tryz.func12 Tryz.ntmps12 fun w0 F0=>?_;dsimp only [St.init,number,Nat.reduceAdd]
  repeat (first|refine WL.vl rfl (WV.nch rfl rfl) ?_|refine W.gob rfl ?_|refine WL.nil ?_|refine WL.bt rfl rfl rfl zqo ?_|refine WL.bf rfl rfl rfl zqo ?_|refine WL.nt rfl rfl rfl zqo ?_|refine WL.nf rfl rfl rfl zqo ?_|refine WL.e1 rfl ?_|refine WL.gyes rfl rfl rfl rfl ?_|refine WL.opno rfl rfl rfl rfl rfl rfl rfl ?_|refine WL.len rfl rfl rfl ?_|refine W.condT rfl ?_|refine W.condF rfl ?_)
  (first|refine (?_:W _ _ _ _ _)|refine (?_:WL _ _ _ _ _ _)|skip)
  try dsimp only [St.put,Nat.reduceAdd]
  refine WL.vl rfl (zqc Tryz.func13 hS) ?_
  repeat (first|refine WL.vl rfl (WV.nch rfl rfl) ?_|refine W.gob rfl ?_|refine WL.nil ?_|refine WL.bt rfl rfl rfl zqo ?_|refine WL.bf rfl rfl rfl zqo ?_|refine WL.nt rfl rfl rfl zqo ?_|refine WL.nf rfl rfl rfl zqo ?_|refine WL.e1 rfl ?_|refine WL.gyes rfl rfl rfl rfl ?_|refine WL.opno rfl rfl rfl rfl rfl rfl rfl ?_|refine WL.len rfl rfl rfl ?_|refine W.condT rfl ?_|refine W.condF rfl ?_)
  (first|refine (?_:W _ _ _ _ _)|refine (?_:WL _ _ _ _ _ _)|skip)
  try dsimp only [St.put,Nat.reduceAdd]
  refine WL.vl rfl (zqc Tryz.func20 hC) ?_
  repeat (first|refine WL.vl rfl (WV.nch rfl rfl) ?_|refine W.gob rfl ?_|refine WL.nil ?_|refine WL.bt rfl rfl rfl zqo ?_|refine WL.bf rfl rfl rfl zqo ?_|refine WL.nt rfl rfl rfl zqo ?_|refine WL.nf rfl rfl rfl zqo ?_|refine WL.e1 rfl ?_|refine WL.gyes rfl rfl rfl rfl ?_|refine WL.opno rfl rfl rfl rfl rfl rfl rfl ?_|refine WL.len rfl rfl rfl ?_|refine W.condT rfl ?_|refine W.condF rfl ?_)
  (first|refine (?_:W _ _ _ _ _)|refine (?_:WL _ _ _ _ _ _)|skip)
  try dsimp only [St.put,Nat.reduceAdd]
  refine WL.vl rfl (zqc Tryz.func14 works04_FS) ?_
  repeat (first|refine WL.vl rfl (WV.nch rfl rfl) ?_|refine W.gob rfl ?_|refine WL.nil ?_|refine WL.bt rfl rfl rfl zqo ?_|refine WL.bf rfl rfl rfl zqo ?_|refine WL.nt rfl rfl rfl zqo ?_|refine WL.nf rfl rfl rfl zqo ?_|refine WL.e1 rfl ?_|refine WL.gyes rfl rfl rfl rfl ?_|refine WL.opno rfl rfl rfl rfl rfl rfl rfl ?_|refine WL.len rfl rfl rfl ?_|refine W.condT rfl ?_|refine W.condF rfl ?_)
  (first|refine (?_:W _ _ _ _ _)|refine (?_:WL _ _ _ _ _ _)|skip)
  try dsimp only [St.put,Nat.reduceAdd]
  exact W.ret zqr
 rw [h0] at hC
 have h1:=pCapo_FS p hO f
 have hCp:=pcCopy_FS p hO
 by_cases hX:capE p f=0
 rotate_left
 ·obtain ⟨E,hE⟩:∃ z,capE p f=z:=⟨_,rfl⟩
  rw [hE] at h1 hX
  rw [show capP p f=noP from if_neg (by rw [hE];exact hX)] at h1
  have h1:Ctr Tryz.prog 23 [ePce p,.sc (.int .i64 f)] (.tu [.ag [.ls 3 [],.ls 1 [],.ls 6 []],.ls 3 ((capL p f).map eLk),.sc (.int .i64 E)]):=h1
  refine zqe Tryz.func12 Tryz.ntmps12 fun w0 F0=>?_;dsimp only [St.init,number,Nat.reduceAdd]
  repeat (first|refine WL.vl rfl (WV.nch rfl rfl) ?_|refine W.gob rfl ?_|refine WL.nil ?_|refine WL.bt rfl rfl rfl zqo ?_|refine WL.bf rfl rfl rfl zqo ?_|refine WL.nt rfl rfl rfl zqo ?_|refine WL.nf rfl rfl rfl zqo ?_|refine WL.e1 rfl ?_|refine WL.gyes rfl rfl rfl rfl ?_|refine WL.opno rfl rfl rfl rfl rfl rfl rfl ?_|refine WL.len rfl rfl rfl ?_|refine W.condT rfl ?_|refine W.condF rfl ?_)
  (first|refine (?_:W _ _ _ _ _)|refine (?_:WL _ _ _ _ _ _)|skip)
  try dsimp only [St.put,Nat.reduceAdd]
  refine WL.vl rfl (zqc Tryz.func13 hS) ?_
  repeat (first|refine WL.vl rfl (WV.nch rfl rfl) ?_|refine W.gob rfl ?_|refine WL.nil ?_|refine WL.bt rfl rfl rfl zqo ?_|refine WL.bf rfl rfl rfl zqo ?_|refine WL.nt rfl rfl rfl zqo ?_|refine WL.nf rfl rfl rfl zqo ?_|refine WL.e1 rfl ?_|refine WL.gyes rfl rfl rfl rfl ?_|refine WL.opno rfl rfl rfl rfl rfl rfl rfl ?_|refine WL.len rfl rfl rfl ?_|refine W.condT rfl ?_|refine W.condF rfl ?_)
  (first|refine (?_:W _ _ _ _ _)|refine (?_:WL _ _ _ _ _ _)|skip)
  try dsimp only [St.put,Nat.reduceAdd]
  refine WL.vl rfl (zqc Tryz.func20 hC) ?_
  repeat (first|refine WL.vl rfl (WV.nch rfl rfl) ?_|refine W.gob rfl ?_|refine WL.nil ?_|refine WL.bt rfl rfl rfl zqo ?_|refine WL.bf rfl rfl rfl zqo ?_|refine WL.nt rfl rfl rfl zqo ?_|refine WL.nf rfl rfl rfl zqo ?_|refine WL.e1 rfl ?_|refine WL.gyes rfl rfl rfl rfl ?_|refine WL.opno rfl rfl rfl rfl rfl rfl rfl ?_|refine WL.len rfl rfl rfl ?_|refine W.condT rfl ?_|refine W.condF rfl ?_)
  (first|refine (?_:W _ _ _ _ _)|refine (?_:WL _ _ _ _ _ _)|skip)
  try dsimp only [St.put,Nat.reduceAdd]
  refine WL.vl rfl (zqc Tryz.func15 hCp) ?_
  repeat (first|refine WL.vl rfl (WV.nch rfl rfl) ?_|refine W.gob rfl ?_|refine WL.nil ?_|refine WL.bt rfl rfl rfl zqo ?_|refine WL.bf rfl rfl rfl zqo ?_|refine WL.nt rfl rfl rfl zqo ?_|refine WL.nf rfl rfl rfl zqo ?_|refine WL.e1 rfl ?_|refine WL.gyes rfl rfl rfl rfl ?_|refine WL.opno rfl rfl rfl rfl rfl rfl rfl ?_|refine WL.len rfl rfl rfl ?_|refine W.condT rfl ?_|refine W.condF rfl ?_)
  (first|refine (?_:W _ _ _ _ _)|refine (?_:WL _ _ _ _ _ _)|skip)
  try dsimp only [St.put,Nat.reduceAdd]
  refine WL.vl rfl (zqc Tryz.func23 h1) ?_
  repeat (first|refine WL.vl rfl (WV.nch rfl rfl) ?_|refine W.gob rfl ?_|refine WL.nil ?_|refine WL.bt rfl rfl rfl zqo ?_|refine WL.bf rfl rfl rfl zqo ?_|refine WL.nt rfl rfl rfl zqo ?_|refine WL.nf rfl rfl rfl zqo ?_|refine WL.e1 rfl ?_|refine WL.gyes rfl rfl rfl rfl ?_|refine WL.opno rfl rfl rfl rfl rfl rfl rfl ?_|refine WL.len rfl rfl rfl ?_|refine W.condT rfl ?_|refine W.condF rfl ?_)
  (first|refine (?_:W _ _ _ _ _)|refine (?_:WL _ _ _ _ _ _)|skip)
  try dsimp only [St.put,Nat.reduceAdd]
  refine WL.vl rfl (zqc Tryz.func14 works04_FS) ?_
  repeat (first|refine WL.vl rfl (WV.nch rfl rfl) ?_|refine W.gob rfl ?_|refine WL.nil ?_|refine WL.bt rfl rfl rfl zqo ?_|refine WL.bf rfl rfl rfl zqo ?_|refine WL.nt rfl rfl rfl zqo ?_|refine WL.nf rfl rfl rfl zqo ?_|refine WL.e1 rfl ?_|refine WL.gyes rfl rfl rfl rfl ?_|refine WL.opno rfl rfl rfl rfl rfl rfl rfl ?_|refine WL.len rfl rfl rfl ?_|refine W.condT rfl ?_|refine W.condF rfl ?_)
  (first|refine (?_:W _ _ _ _ _)|refine (?_:WL _ _ _ _ _ _)|skip)
  try dsimp only [St.put,Nat.reduceAdd]
  exact W.ret zqr
 rw [hX] at h1
 obtain ⟨_,hx⟩:=capE_0 hX
 have hv:=cap_valid hX
 have heq:=capP_eq hX
 have hLeq:capL p f=lsL (capC p.cs f) (ftH (capN p f)) p.evs p.evs.length:=if_pos hX
 have hn3:=hO.n3
 have hk1:(cpCs p.cs p.st f).length≤64:=by rw [cpCs_len hx];exact hO.n1
 have hk2:(cpSt p.cs p.st f).length≤64:=by
  have:=cpSt_len hx
  obtain ⟨_,hf,_⟩:=cpX_in hx
  have:=hO.n2
  omega
 have hQO:PcOk (capP p f):=by
  rw [heq]
  refine ⟨hk1,hk2,?_,fnw_20d fun k hk=>hO.n4 k hk⟩
  show (fnL _ _).length≤420
  rw [fnL_len]
  unfold capN
  rw [nwL_len]
  exact hn3
 have hml:(lsL (capC p.cs f) (ftH (capN p f)) p.evs p.evs.length).length≤30000:=by
  have h20:∀ e∈p.evs,e.stops.length≤20:=fun e he=>by
   obtain ⟨i,hi,rfl⟩:=List.getElem_of_mem he
   exact hO.n4 i hi
  have hlg:=pcOk_of3 hl
  have:=lsL_len (C:=capC p.cs f) (H:=ftH (capN p f)) (capC_ml p.cs f) h20 p.evs.length (Nat.le_refl _)
  omega
 have hC2:=rCheck_FS (capP p f) hQO
 rw [hv] at hC2
 have hv2:=hv
 rw [heq] at hv2
 have hK:=keeps_FS (capC p.cs f) (capC_ls p.cs f) p hO h0 (cpCs p.cs p.st f) (cpSt p.cs p.st f) (ftH (capN p f)) hv2 hk1 hk2 (fun k hk x hxs y hm=>cap_pitch hX hk hxs hm) hml
 rw [← hLeq] at hK
 have hK:Ctr Tryz.prog 41 [ePce p,ePce ⟨cpCs p.cs p.st f,cpSt p.cs p.st f,fnL (ftH (capN p f)) (capN p f)⟩,.ls 3 ((capL p f).map eLk)] (.sc (.bool true)):=hK
 rw [← heq] at hK
 have hIc:=insCopy_FS p.cs p.st hO.n1 hO.n2
 have hIc:Ctr Tryz.prog 35 [.ag [.ls 3 (p.cs.map eCrs),.ls 1 (p.st.map eInt)]] (.ag [.ls 3 (p.cs.map eCrs),.ls 1 (p.st.map eInt)]):=hIc
 have hRel:=pRelease_FS (capP p f) hQO p.cs p.st f hO.n1 hO.n2
 have hSm:=pSame_FS p hO
 have hLl:((capL p f).map eLk).length=(capL p f).length:=List.length_map _
 have hback:=cap_back hX
 obtain ⟨L,hL⟩:∃ z,capL p f=z:=⟨_,rfl⟩
 rw [hL] at h1 hK hLl hback
 obtain ⟨LL,hLL⟩:∃ z,L.map eLk=z:=⟨_,rfl⟩
 rw [hLL] at h1 hK hLl
 obtain ⟨R,hR⟩:∃ z,ePce (capP p f)=z:=⟨_,rfl⟩
 have hRe:R=.ag [.ls 3 ((capP p f).cs.map eCrs),.ls 1 ((capP p f).st.map eInt),.ls 6 ((capP p f).evs.map eEv)]:=hR.symm
 rw [hR] at h1 hC2 hK hRel
 rw [hRe] at h1 hC2 hK hRel
 have hPe:ePce p=.ag [.ls 3 (p.cs.map eCrs),.ls 1 (p.st.map eInt),.ls 6 (p.evs.map eEv)]:=rfl
 by_cases hL0:L=[]
 rotate_left
 ·have hlp:0 < L.length:=List.length_pos_iff.2 hL0
  rw [hPe] at hS hC hCp h1 hK ⊢
  refine zqe Tryz.func12 Tryz.ntmps12 fun w0 F0=>?_;dsimp only [St.init,number,Nat.reduceAdd]
  repeat (first|refine WL.vl rfl (WV.nch rfl rfl) ?_|refine W.gob rfl ?_|refine WL.nil ?_|refine WL.bt rfl rfl rfl zqo ?_|refine WL.bf rfl rfl rfl zqo ?_|refine WL.nt rfl rfl rfl zqo ?_|refine WL.nf rfl rfl rfl zqo ?_|refine WL.e1 rfl ?_|refine WL.gyes rfl rfl rfl rfl ?_|refine WL.opno rfl rfl rfl rfl rfl rfl rfl ?_|refine WL.len rfl rfl rfl ?_|refine W.condT rfl ?_|refine W.condF rfl ?_)
  (first|refine (?_:W _ _ _ _ _)|refine (?_:WL _ _ _ _ _ _)|skip)
  try dsimp only [St.put,Nat.reduceAdd]
  refine WL.vl rfl (zqc Tryz.func13 hS) ?_
  repeat (first|refine WL.vl rfl (WV.nch rfl rfl) ?_|refine W.gob rfl ?_|refine WL.nil ?_|refine WL.bt rfl rfl rfl zqo ?_|refine WL.bf rfl rfl rfl zqo ?_|refine WL.nt rfl rfl rfl zqo ?_|refine WL.nf rfl rfl rfl zqo ?_|refine WL.e1 rfl ?_|refine WL.gyes rfl rfl rfl rfl ?_|refine WL.opno rfl rfl rfl rfl rfl rfl rfl ?_|refine WL.len rfl rfl rfl ?_|refine W.condT rfl ?_|refine W.condF rfl ?_)
  (first|refine (?_:W _ _ _ _ _)|refine (?_:WL _ _ _ _ _ _)|skip)
  try dsimp only [St.put,Nat.reduceAdd]
  refine WL.vl rfl (zqc Tryz.func20 hC) ?_
  repeat (first|refine WL.vl rfl (WV.nch rfl rfl) ?_|refine W.gob rfl ?_|refine WL.nil ?_|refine WL.bt rfl rfl rfl zqo ?_|refine WL.bf rfl rfl rfl zqo ?_|refine WL.nt rfl rfl rfl zqo ?_|refine WL.nf rfl rfl rfl zqo ?_|refine WL.e1 rfl ?_|refine WL.gyes rfl rfl rfl rfl ?_|refine WL.opno rfl rfl rfl rfl rfl rfl rfl ?_|refine WL.len rfl rfl rfl ?_|refine W.condT rfl ?_|refine W.condF rfl ?_)
  (first|refine (?_:W _ _ _ _ _)|refine (?_:WL _ _ _ _ _ _)|skip)
  try dsimp only [St.put,Nat.reduceAdd]
  refine WL.vl rfl (zqc Tryz.func15 hCp) ?_
  repeat (first|refine WL.vl rfl (WV.nch rfl rfl) ?_|refine W.gob rfl ?_|refine WL.nil ?_|refine WL.bt rfl rfl rfl zqo ?_|refine WL.bf rfl rfl rfl zqo ?_|refine WL.nt rfl rfl rfl zqo ?_|refine WL.nf rfl rfl rfl zqo ?_|refine WL.e1 rfl ?_|refine WL.gyes rfl rfl rfl rfl ?_|refine WL.opno rfl rfl rfl rfl rfl rfl rfl ?_|refine WL.len rfl rfl rfl ?_|refine W.condT rfl ?_|refine W.condF rfl ?_)
  (first|refine (?_:W _ _ _ _ _)|refine (?_:WL _ _ _ _ _ _)|skip)
  try dsimp only [St.put,Nat.reduceAdd]
  refine WL.vl rfl (zqc Tryz.func23 h1) ?_
  repeat (first|refine WL.vl rfl (WV.nch rfl rfl) ?_|refine W.gob rfl ?_|refine WL.nil ?_|refine WL.bt rfl rfl rfl zqo ?_|refine WL.bf rfl rfl rfl zqo ?_|refine WL.nt rfl rfl rfl zqo ?_|refine WL.nf rfl rfl rfl zqo ?_|refine WL.e1 rfl ?_|refine WL.gyes rfl rfl rfl rfl ?_|refine WL.opno rfl rfl rfl rfl rfl rfl rfl ?_|refine WL.len rfl rfl rfl ?_|refine W.condT rfl ?_|refine W.condF rfl ?_)
  (first|refine (?_:W _ _ _ _ _)|refine (?_:WL _ _ _ _ _ _)|skip)
  try dsimp only [St.put,Nat.reduceAdd]
  refine WL.vl rfl (zqc Tryz.func20 hC2) ?_
  repeat (first|refine WL.vl rfl (WV.nch rfl rfl) ?_|refine W.gob rfl ?_|refine WL.nil ?_|refine WL.bt rfl rfl rfl zqo ?_|refine WL.bf rfl rfl rfl zqo ?_|refine WL.nt rfl rfl rfl zqo ?_|refine WL.nf rfl rfl rfl zqo ?_|refine WL.e1 rfl ?_|refine WL.gyes rfl rfl rfl rfl ?_|refine WL.opno rfl rfl rfl rfl rfl rfl rfl ?_|refine WL.len rfl rfl rfl ?_|refine W.condT rfl ?_|refine W.condF rfl ?_)
  (first|refine (?_:W _ _ _ _ _)|refine (?_:WL _ _ _ _ _ _)|skip)
  try dsimp only [St.put,Nat.reduceAdd]
  refine WL.vl rfl (zqc Tryz.func41 hK) ?_
  repeat (first|refine WL.vl rfl (WV.nch rfl rfl) ?_|refine W.gob rfl ?_|refine WL.nil ?_|refine WL.bt rfl rfl rfl zqo ?_|refine WL.bf rfl rfl rfl zqo ?_|refine WL.nt rfl rfl rfl zqo ?_|refine WL.nf rfl rfl rfl zqo ?_|refine WL.e1 rfl ?_|refine WL.gyes rfl rfl rfl rfl ?_|refine WL.opno rfl rfl rfl rfl rfl rfl rfl ?_|refine WL.len rfl rfl rfl ?_|refine W.condT rfl ?_|refine W.condF rfl ?_)
  (first|refine (?_:W _ _ _ _ _)|refine (?_:WL _ _ _ _ _ _)|skip)
  try dsimp only [St.put,Nat.reduceAdd]
  refine WL.vl rfl (zqc Tryz.func14 works04_FS) ?_
  repeat (first|refine WL.vl rfl (WV.nch rfl rfl) ?_|refine W.gob rfl ?_|refine WL.nil ?_|refine WL.bt rfl rfl rfl zqo ?_|refine WL.bf rfl rfl rfl zqo ?_|refine WL.nt rfl rfl rfl zqo ?_|refine WL.nf rfl rfl rfl zqo ?_|refine WL.e1 rfl ?_|refine WL.gyes rfl rfl rfl rfl ?_|refine WL.opno rfl rfl rfl rfl rfl rfl rfl ?_|refine WL.len rfl rfl rfl ?_|refine W.condT rfl ?_|refine W.condF rfl ?_)
  (first|refine (?_:W _ _ _ _ _)|refine (?_:WL _ _ _ _ _ _)|skip)
  try dsimp only [St.put,Nat.reduceAdd]
  exact W.ret zqr
 ·have hlp:L.length=0:=by rw [hL0];rfl
  obtain ⟨b1,b2⟩:=hback hL0
  rw [b1,b2] at hRel
  rw [hPe] at hS hC hCp h1 hK hRel hSm ⊢
  clear hR hRe hPe
  refine zqe Tryz.func12 Tryz.ntmps12 fun w0 F0=>?_;dsimp only [St.init,number,Nat.reduceAdd]
  repeat (first|refine WL.vl rfl (WV.nch rfl rfl) ?_|refine W.gob rfl ?_|refine WL.nil ?_|refine WL.bt rfl rfl rfl zqo ?_|refine WL.bf rfl rfl rfl zqo ?_|refine WL.nt rfl rfl rfl zqo ?_|refine WL.nf rfl rfl rfl zqo ?_|refine WL.e1 rfl ?_|refine WL.gyes rfl rfl rfl rfl ?_|refine WL.opno rfl rfl rfl rfl rfl rfl rfl ?_|refine WL.len rfl rfl rfl ?_|refine W.condT rfl ?_|refine W.condF rfl ?_)
  (first|refine (?_:W _ _ _ _ _)|refine (?_:WL _ _ _ _ _ _)|skip)
  try dsimp only [St.put,Nat.reduceAdd]
  refine WL.vl rfl (zqc Tryz.func13 hS) ?_
  repeat (first|refine WL.vl rfl (WV.nch rfl rfl) ?_|refine W.gob rfl ?_|refine WL.nil ?_|refine WL.bt rfl rfl rfl zqo ?_|refine WL.bf rfl rfl rfl zqo ?_|refine WL.nt rfl rfl rfl zqo ?_|refine WL.nf rfl rfl rfl zqo ?_|refine WL.e1 rfl ?_|refine WL.gyes rfl rfl rfl rfl ?_|refine WL.opno rfl rfl rfl rfl rfl rfl rfl ?_|refine WL.len rfl rfl rfl ?_|refine W.condT rfl ?_|refine W.condF rfl ?_)
  (first|refine (?_:W _ _ _ _ _)|refine (?_:WL _ _ _ _ _ _)|skip)
  try dsimp only [St.put,Nat.reduceAdd]
  refine WL.vl rfl (zqc Tryz.func20 hC) ?_
  repeat (first|refine WL.vl rfl (WV.nch rfl rfl) ?_|refine W.gob rfl ?_|refine WL.nil ?_|refine WL.bt rfl rfl rfl zqo ?_|refine WL.bf rfl rfl rfl zqo ?_|refine WL.nt rfl rfl rfl zqo ?_|refine WL.nf rfl rfl rfl zqo ?_|refine WL.e1 rfl ?_|refine WL.gyes rfl rfl rfl rfl ?_|refine WL.opno rfl rfl rfl rfl rfl rfl rfl ?_|refine WL.len rfl rfl rfl ?_|refine W.condT rfl ?_|refine W.condF rfl ?_)
  (first|refine (?_:W _ _ _ _ _)|refine (?_:WL _ _ _ _ _ _)|skip)
  try dsimp only [St.put,Nat.reduceAdd]
  refine WL.vl rfl (zqc Tryz.func15 hCp) ?_
  repeat (first|refine WL.vl rfl (WV.nch rfl rfl) ?_|refine W.gob rfl ?_|refine WL.nil ?_|refine WL.bt rfl rfl rfl zqo ?_|refine WL.bf rfl rfl rfl zqo ?_|refine WL.nt rfl rfl rfl zqo ?_|refine WL.nf rfl rfl rfl zqo ?_|refine WL.e1 rfl ?_|refine WL.gyes rfl rfl rfl rfl ?_|refine WL.opno rfl rfl rfl rfl rfl rfl rfl ?_|refine WL.len rfl rfl rfl ?_|refine W.condT rfl ?_|refine W.condF rfl ?_)
  (first|refine (?_:W _ _ _ _ _)|refine (?_:WL _ _ _ _ _ _)|skip)
  try dsimp only [St.put,Nat.reduceAdd]
  refine WL.vl rfl (zqc Tryz.func23 h1) ?_
  repeat (first|refine WL.vl rfl (WV.nch rfl rfl) ?_|refine W.gob rfl ?_|refine WL.nil ?_|refine WL.bt rfl rfl rfl zqo ?_|refine WL.bf rfl rfl rfl zqo ?_|refine WL.nt rfl rfl rfl zqo ?_|refine WL.nf rfl rfl rfl zqo ?_|refine WL.e1 rfl ?_|refine WL.gyes rfl rfl rfl rfl ?_|refine WL.opno rfl rfl rfl rfl rfl rfl rfl ?_|refine WL.len rfl rfl rfl ?_|refine W.condT rfl ?_|refine W.condF rfl ?_)
  (first|refine (?_:W _ _ _ _ _)|refine (?_:WL _ _ _ _ _ _)|skip)
  try dsimp only [St.put,Nat.reduceAdd]
  refine WL.vl rfl (zqc Tryz.func20 hC2) ?_
  repeat (first|refine WL.vl rfl (WV.nch rfl rfl) ?_|refine W.gob rfl ?_|refine WL.nil ?_|refine WL.bt rfl rfl rfl zqo ?_|refine WL.bf rfl rfl rfl zqo ?_|refine WL.nt rfl rfl rfl zqo ?_|refine WL.nf rfl rfl rfl zqo ?_|refine WL.e1 rfl ?_|refine WL.gyes rfl rfl rfl rfl ?_|refine WL.opno rfl rfl rfl rfl rfl rfl rfl ?_|refine WL.len rfl rfl rfl ?_|refine W.condT rfl ?_|refine W.condF rfl ?_)
  (first|refine (?_:W _ _ _ _ _)|refine (?_:WL _ _ _ _ _ _)|skip)
  try dsimp only [St.put,Nat.reduceAdd]
  refine WL.vl rfl (zqc Tryz.func41 hK) ?_
  repeat (first|refine WL.vl rfl (WV.nch rfl rfl) ?_|refine W.gob rfl ?_|refine WL.nil ?_|refine WL.bt rfl rfl rfl zqo ?_|refine WL.bf rfl rfl rfl zqo ?_|refine WL.nt rfl rfl rfl zqo ?_|refine WL.nf rfl rfl rfl zqo ?_|refine WL.e1 rfl ?_|refine WL.gyes rfl rfl rfl rfl ?_|refine WL.opno rfl rfl rfl rfl rfl rfl rfl ?_|refine WL.len rfl rfl rfl ?_|refine W.condT rfl ?_|refine W.condF rfl ?_)
  (first|refine (?_:W _ _ _ _ _)|refine (?_:WL _ _ _ _ _ _)|skip)
  try dsimp only [St.put,Nat.reduceAdd]
  refine W.of_wa zqk ?_
  refine WA.dt [false,false,false,false,false,false,false,false,false,true,true,false] [0,1] [0,1] 10 zqk zqk zqk ⟨rfl,rfl,trivial⟩ ⟨rfl,rfl,trivial⟩ ?_
  refine DTK.v0 rfl (stepV_of rfl rfl) ?_
  refine DTK.v0 rfl (stepV_of rfl rfl) ?_
  refine DTK.v0 rfl (stepV_of rfl rfl) ?_
  refine DTK.v0 rfl (zqc Tryz.func35 hIc) ?_
  refine DTK.v0 rfl (stepV_of rfl rfl) ?_
  refine DTK.v0 rfl (zqc Tryz.func34 hRel) ?_
  refine DTK.v0 rfl (stepV_of rfl rfl) ?_
  refine DTK.v0 rfl (stepV_of rfl rfl) ?_
  refine DTK.v0 rfl (stepV_of rfl rfl) ?_
  refine DTK.al rfl rfl rfl rfl ⟨rfl,rfl,trivial⟩ (fun _=>⟨rfl,rfl,trivial⟩) ?_
  refine DTK.sto rfl rfl rfl rfl rfl rfl rfl rfl rfl rfl rfl rfl rfl rfl ⟨rfl,rfl,trivial⟩ (fun h=>by cases h) ?_
  refine DTK.v0 rfl (stepV_of rfl rfl) ?_
  refine DTK.nil ?_
  repeat (first|refine WL.vl rfl (WV.nch rfl rfl) ?_|refine W.gob rfl ?_|refine WL.nil ?_|refine WL.bt rfl rfl rfl zqo ?_|refine WL.bf rfl rfl rfl zqo ?_|refine WL.nt rfl rfl rfl zqo ?_|refine WL.nf rfl rfl rfl zqo ?_|refine WL.e1 rfl ?_|refine WL.gyes rfl rfl rfl rfl ?_|refine WL.opno rfl rfl rfl rfl rfl rfl rfl ?_|refine WL.len rfl rfl rfl ?_|refine W.condT rfl ?_|refine W.condF rfl ?_)
  (first|refine (?_:W _ _ _ _ _)|refine (?_:WL _ _ _ _ _ _)|skip)
  try dsimp only [St.put,Nat.reduceAdd]
  refine WL.vl rfl (zqc Tryz.func42 hSm) ?_
  repeat (first|refine WL.vl rfl (WV.nch rfl rfl) ?_|refine W.gob rfl ?_|refine WL.nil ?_|refine WL.bt rfl rfl rfl zqo ?_|refine WL.bf rfl rfl rfl zqo ?_|refine WL.nt rfl rfl rfl zqo ?_|refine WL.nf rfl rfl rfl zqo ?_|refine WL.e1 rfl ?_|refine WL.gyes rfl rfl rfl rfl ?_|refine WL.opno rfl rfl rfl rfl rfl rfl rfl ?_|refine WL.len rfl rfl rfl ?_|refine W.condT rfl ?_|refine W.condF rfl ?_)
  (first|refine (?_:W _ _ _ _ _)|refine (?_:WL _ _ _ _ _ _)|skip)
  try dsimp only [St.put,Nat.reduceAdd]
  refine WL.vl rfl (zqc Tryz.func14 works04_FS) ?_
  repeat (first|refine WL.vl rfl (WV.nch rfl rfl) ?_|refine W.gob rfl ?_|refine WL.nil ?_|refine WL.bt rfl rfl rfl zqo ?_|refine WL.bf rfl rfl rfl zqo ?_|refine WL.nt rfl rfl rfl zqo ?_|refine WL.nf rfl rfl rfl zqo ?_|refine WL.e1 rfl ?_|refine WL.gyes rfl rfl rfl rfl ?_|refine WL.opno rfl rfl rfl rfl rfl rfl rfl ?_|refine WL.len rfl rfl rfl ?_|refine W.condT rfl ?_|refine W.condF rfl ?_)
  (first|refine (?_:W _ _ _ _ _)|refine (?_:WL _ _ _ _ _ _)|skip)
  try dsimp only [St.put,Nat.reduceAdd]
  exact W.ret zqr
theorem capoed_walk (p:Pce) (v:Value) (f:Int) (w:World) (h:RP (fun q=>w.cell? q) (ePce p) v):Calls Tryz.prog 12 #[v,.int .i64 f] w (Ret (.bool true) w):=by
 refine (capoed_FS p f w (fun q=>w.cell? q) [v,.int .i64 f] (fun _ _ h=>h) ⟨rfl,fun i av u a b=>?_⟩).mono fun e w' ⟨u,F',he,hb,_,_,_,hr⟩=>⟨?_,hb⟩
 ·match i with
  | 0=>cases a;cases b;exact h
  | 1=>cases a;cases b;exact .sc _
  | i+2=>simp at a
 ·rw [he,hr.sc_eq]
end Go.Proofs.YtaeelcfjkhfpkaaGreat
