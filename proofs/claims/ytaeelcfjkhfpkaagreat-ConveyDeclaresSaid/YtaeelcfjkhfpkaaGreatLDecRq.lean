/- ConveyDeclares: the walk. -/
import Derived.Test.YtaeelcfjkhfpkaaGreatZ9Rq
import Derived.Test.YtaeelcfjkhfpkaaGreatEORq
set_option maxHeartbeats 8000000
set_option maxRecDepth 100000
set_option linter.unusedVariables false
set_option linter.unusedSimpArgs false
namespace Go.Proofs.YtaeelcfjkhfpkaaGreat
open Go.RowKit
theorem z25i {z:Int} (h:I64 z:=by unfold I64;omega):I64 z:=h
theorem smallD_FS (p:Pce):Ctr Tryz.prog 13 [ePce p] (.sc (.bool (!longB p))):=by
 refine zqe Tryz.func13 Tryz.ntmps13 fun w0 F0=>?_;dsimp only [St.init,number,Nat.reduceAdd]
 repeat (first|refine W.go rfl ?_|refine WL.ev rfl ?_)
 (first|refine (?_:W _ _ _ _ _)|refine (?_:WL _ _ _ _ _ _)|skip)
 try dsimp only [St.put,Nat.reduceAdd]
 refine WL.vl rfl (WV.call rfl (callF Tryz.func43 rfl rfl) rfl rfl (long_FS p)) ?_
 repeat (first|refine W.go rfl ?_|refine WL.ev rfl ?_)
 (first|refine (?_:W _ _ _ _ _)|refine (?_:WL _ _ _ _ _ _)|skip)
 try dsimp only [St.put,Nat.reduceAdd]
 exact W.ret zqr
theorem redQ_same {s:Int} {p:Pce} {i:Nat} (h:i<p.evs.length)(h2:i<(redQ s p).length):(redQ s p)[i].stops=p.evs[i].stops∧(redQ s p)[i].tie=p.evs[i].tie:=by
 by_cases h4:s=4
 ·have e:(redQ s p)[i]?=some (sgW p.evs[i] (sgF p.evs (i+1))):=by
   rw [show redQ s p=plE p from if_pos h4]
   rw [List.getElem?_eq_getElem (by rw [plE_length];exact h)]
   exact congrArg some (plN_get (evs:=p.evs) h (Nat.le_refl _))
  rw [List.getElem?_eq_getElem h2] at e
  rw [Option.some.inj e]
  exact⟨rfl,rfl⟩
 ·have e:redQ s p=p.evs:=if_neg h4
  have e2:(redQ s p)[i]?=p.evs[i]?:=by rw [e]
  rw [List.getElem?_eq_getElem h2,List.getElem?_eq_getElem h] at e2
  rw [Option.some.inj e2]
  exact⟨rfl,rfl⟩
theorem redC_pl {s:Int} (x y:Stp)(h:(redC s).mv x=some y):y.1=x.1∧y.2.1=x.2.1:=by
 obtain⟨_,rfl⟩:=redC_mv h;exact⟨rfl,rfl⟩
theorem declares_FS (s:Int) (p:Pce):Ctr Tryz.prog 4 [.sc (.int .u8 s),ePce p] (.sc (.bool true)):=by
 have hS:=smallD_FS p
 by_cases hl:longB p=true
 ·rw [hl] at hS
  refine zqe Tryz.func4 Tryz.ntmps4 fun w0 F0=>?_;dsimp only [St.init,number,Nat.reduceAdd]
  repeat (first|refine WL.vl rfl (WV.nch rfl rfl) ?_|refine W.gob rfl ?_|refine WL.nil ?_|refine WL.bt rfl rfl rfl zqo ?_|refine WL.bf rfl rfl rfl zqo ?_|refine WL.nt rfl rfl rfl zqo ?_|refine WL.nf rfl rfl rfl zqo ?_|refine WL.e1 rfl ?_|refine WL.gyes rfl rfl rfl rfl ?_|refine WL.opno rfl rfl rfl rfl rfl rfl rfl ?_|refine WL.ar rfl rfl z25i ?_|refine WL.len rfl rfl rfl ?_|refine W.condT rfl ?_|refine W.condF rfl ?_)
  (first|refine (?_:W _ _ _ _ _)|refine (?_:WL _ _ _ _ _ _)|skip)
  try dsimp only [St.put,Nat.reduceAdd]
  refine WL.vl rfl (zqc Tryz.func13 hS) ?_
  repeat (first|refine WL.vl rfl (WV.nch rfl rfl) ?_|refine W.gob rfl ?_|refine WL.nil ?_|refine WL.bt rfl rfl rfl zqo ?_|refine WL.bf rfl rfl rfl zqo ?_|refine WL.nt rfl rfl rfl zqo ?_|refine WL.nf rfl rfl rfl zqo ?_|refine WL.e1 rfl ?_|refine WL.gyes rfl rfl rfl rfl ?_|refine WL.opno rfl rfl rfl rfl rfl rfl rfl ?_|refine WL.ar rfl rfl z25i ?_|refine WL.len rfl rfl rfl ?_|refine W.condT rfl ?_|refine W.condF rfl ?_)
  (first|refine (?_:W _ _ _ _ _)|refine (?_:WL _ _ _ _ _ _)|skip)
  try dsimp only [St.put,Nat.reduceAdd]
  refine WL.vl rfl (zqc Tryz.func14 works04_FS) ?_
  repeat (first|refine WL.vl rfl (WV.nch rfl rfl) ?_|refine W.gob rfl ?_|refine WL.nil ?_|refine WL.bt rfl rfl rfl zqo ?_|refine WL.bf rfl rfl rfl zqo ?_|refine WL.nt rfl rfl rfl zqo ?_|refine WL.nf rfl rfl rfl zqo ?_|refine WL.e1 rfl ?_|refine WL.gyes rfl rfl rfl rfl ?_|refine WL.opno rfl rfl rfl rfl rfl rfl rfl ?_|refine WL.ar rfl rfl z25i ?_|refine WL.len rfl rfl rfl ?_|refine W.condT rfl ?_|refine W.condF rfl ?_)
  (first|refine (?_:W _ _ _ _ _)|refine (?_:WL _ _ _ _ _ _)|skip)
  try dsimp only [St.put,Nat.reduceAdd]
  exact W.ret zqr
 have hl:longB p=false:=by simpa using hl
 rw [hl] at hS
 have hO:=pcOk_of3 hl
 have hC:=rCheck_FS p hO
 by_cases h0:pceE p=0
 rotate_left
 ·obtain ⟨E,hE⟩:∃ z,pceE p=z:=⟨_,rfl⟩
  rw [hE] at hC h0
  refine zqe Tryz.func4 Tryz.ntmps4 fun w0 F0=>?_;dsimp only [St.init,number,Nat.reduceAdd]
  repeat (first|refine WL.vl rfl (WV.nch rfl rfl) ?_|refine W.gob rfl ?_|refine WL.nil ?_|refine WL.bt rfl rfl rfl zqo ?_|refine WL.bf rfl rfl rfl zqo ?_|refine WL.nt rfl rfl rfl zqo ?_|refine WL.nf rfl rfl rfl zqo ?_|refine WL.e1 rfl ?_|refine WL.gyes rfl rfl rfl rfl ?_|refine WL.opno rfl rfl rfl rfl rfl rfl rfl ?_|refine WL.ar rfl rfl z25i ?_|refine WL.len rfl rfl rfl ?_|refine W.condT rfl ?_|refine W.condF rfl ?_)
  (first|refine (?_:W _ _ _ _ _)|refine (?_:WL _ _ _ _ _ _)|skip)
  try dsimp only [St.put,Nat.reduceAdd]
  refine WL.vl rfl (zqc Tryz.func13 hS) ?_
  repeat (first|refine WL.vl rfl (WV.nch rfl rfl) ?_|refine W.gob rfl ?_|refine WL.nil ?_|refine WL.bt rfl rfl rfl zqo ?_|refine WL.bf rfl rfl rfl zqo ?_|refine WL.nt rfl rfl rfl zqo ?_|refine WL.nf rfl rfl rfl zqo ?_|refine WL.e1 rfl ?_|refine WL.gyes rfl rfl rfl rfl ?_|refine WL.opno rfl rfl rfl rfl rfl rfl rfl ?_|refine WL.ar rfl rfl z25i ?_|refine WL.len rfl rfl rfl ?_|refine W.condT rfl ?_|refine W.condF rfl ?_)
  (first|refine (?_:W _ _ _ _ _)|refine (?_:WL _ _ _ _ _ _)|skip)
  try dsimp only [St.put,Nat.reduceAdd]
  refine WL.vl rfl (zqc Tryz.func20 hC) ?_
  repeat (first|refine WL.vl rfl (WV.nch rfl rfl) ?_|refine W.gob rfl ?_|refine WL.nil ?_|refine WL.bt rfl rfl rfl zqo ?_|refine WL.bf rfl rfl rfl zqo ?_|refine WL.nt rfl rfl rfl zqo ?_|refine WL.nf rfl rfl rfl zqo ?_|refine WL.e1 rfl ?_|refine WL.gyes rfl rfl rfl rfl ?_|refine WL.opno rfl rfl rfl rfl rfl rfl rfl ?_|refine WL.ar rfl rfl z25i ?_|refine WL.len rfl rfl rfl ?_|refine W.condT rfl ?_|refine W.condF rfl ?_)
  (first|refine (?_:W _ _ _ _ _)|refine (?_:WL _ _ _ _ _ _)|skip)
  try dsimp only [St.put,Nat.reduceAdd]
  refine WL.vl rfl (zqc Tryz.func14 works04_FS) ?_
  repeat (first|refine WL.vl rfl (WV.nch rfl rfl) ?_|refine W.gob rfl ?_|refine WL.nil ?_|refine WL.bt rfl rfl rfl zqo ?_|refine WL.bf rfl rfl rfl zqo ?_|refine WL.nt rfl rfl rfl zqo ?_|refine WL.nf rfl rfl rfl zqo ?_|refine WL.e1 rfl ?_|refine WL.gyes rfl rfl rfl rfl ?_|refine WL.opno rfl rfl rfl rfl rfl rfl rfl ?_|refine WL.ar rfl rfl z25i ?_|refine WL.len rfl rfl rfl ?_|refine W.condT rfl ?_|refine W.condF rfl ?_)
  (first|refine (?_:W _ _ _ _ _)|refine (?_:WL _ _ _ _ _ _)|skip)
  try dsimp only [St.put,Nat.reduceAdd]
  exact W.ret zqr
 rw [h0] at hC
 have hR:=pReduce_FS s p hO
 have hCp:=pcCopy_FS p hO
 by_cases hX:redX s p=0
 rotate_left
 ·obtain ⟨E,hE⟩:∃ z,redX s p=z:=⟨_,rfl⟩
  rw [hE] at hR hX
  rw [show redP s p=noP from if_neg (by rw [hE];exact hX)] at hR
  have hR:Ctr Tryz.prog 16 [.sc (.int .u8 s),ePce p] (.tu [.ag [.ls 3 [],.ls 1 [],.ls 6 []],.ls 3 ((redL s p).map eLk),.sc (.int .i64 E)]):=hR
  refine zqe Tryz.func4 Tryz.ntmps4 fun w0 F0=>?_;dsimp only [St.init,number,Nat.reduceAdd]
  repeat (first|refine WL.vl rfl (WV.nch rfl rfl) ?_|refine W.gob rfl ?_|refine WL.nil ?_|refine WL.bt rfl rfl rfl zqo ?_|refine WL.bf rfl rfl rfl zqo ?_|refine WL.nt rfl rfl rfl zqo ?_|refine WL.nf rfl rfl rfl zqo ?_|refine WL.e1 rfl ?_|refine WL.gyes rfl rfl rfl rfl ?_|refine WL.opno rfl rfl rfl rfl rfl rfl rfl ?_|refine WL.ar rfl rfl z25i ?_|refine WL.len rfl rfl rfl ?_|refine W.condT rfl ?_|refine W.condF rfl ?_)
  (first|refine (?_:W _ _ _ _ _)|refine (?_:WL _ _ _ _ _ _)|skip)
  try dsimp only [St.put,Nat.reduceAdd]
  refine WL.vl rfl (zqc Tryz.func13 hS) ?_
  repeat (first|refine WL.vl rfl (WV.nch rfl rfl) ?_|refine W.gob rfl ?_|refine WL.nil ?_|refine WL.bt rfl rfl rfl zqo ?_|refine WL.bf rfl rfl rfl zqo ?_|refine WL.nt rfl rfl rfl zqo ?_|refine WL.nf rfl rfl rfl zqo ?_|refine WL.e1 rfl ?_|refine WL.gyes rfl rfl rfl rfl ?_|refine WL.opno rfl rfl rfl rfl rfl rfl rfl ?_|refine WL.ar rfl rfl z25i ?_|refine WL.len rfl rfl rfl ?_|refine W.condT rfl ?_|refine W.condF rfl ?_)
  (first|refine (?_:W _ _ _ _ _)|refine (?_:WL _ _ _ _ _ _)|skip)
  try dsimp only [St.put,Nat.reduceAdd]
  refine WL.vl rfl (zqc Tryz.func20 hC) ?_
  repeat (first|refine WL.vl rfl (WV.nch rfl rfl) ?_|refine W.gob rfl ?_|refine WL.nil ?_|refine WL.bt rfl rfl rfl zqo ?_|refine WL.bf rfl rfl rfl zqo ?_|refine WL.nt rfl rfl rfl zqo ?_|refine WL.nf rfl rfl rfl zqo ?_|refine WL.e1 rfl ?_|refine WL.gyes rfl rfl rfl rfl ?_|refine WL.opno rfl rfl rfl rfl rfl rfl rfl ?_|refine WL.ar rfl rfl z25i ?_|refine WL.len rfl rfl rfl ?_|refine W.condT rfl ?_|refine W.condF rfl ?_)
  (first|refine (?_:W _ _ _ _ _)|refine (?_:WL _ _ _ _ _ _)|skip)
  try dsimp only [St.put,Nat.reduceAdd]
  refine WL.vl rfl (zqc Tryz.func15 hCp) ?_
  repeat (first|refine WL.vl rfl (WV.nch rfl rfl) ?_|refine W.gob rfl ?_|refine WL.nil ?_|refine WL.bt rfl rfl rfl zqo ?_|refine WL.bf rfl rfl rfl zqo ?_|refine WL.nt rfl rfl rfl zqo ?_|refine WL.nf rfl rfl rfl zqo ?_|refine WL.e1 rfl ?_|refine WL.gyes rfl rfl rfl rfl ?_|refine WL.opno rfl rfl rfl rfl rfl rfl rfl ?_|refine WL.ar rfl rfl z25i ?_|refine WL.len rfl rfl rfl ?_|refine W.condT rfl ?_|refine W.condF rfl ?_)
  (first|refine (?_:W _ _ _ _ _)|refine (?_:WL _ _ _ _ _ _)|skip)
  try dsimp only [St.put,Nat.reduceAdd]
  refine WL.vl rfl (zqc Tryz.func16 hR) ?_
  repeat (first|refine WL.vl rfl (WV.nch rfl rfl) ?_|refine W.gob rfl ?_|refine WL.nil ?_|refine WL.bt rfl rfl rfl zqo ?_|refine WL.bf rfl rfl rfl zqo ?_|refine WL.nt rfl rfl rfl zqo ?_|refine WL.nf rfl rfl rfl zqo ?_|refine WL.e1 rfl ?_|refine WL.gyes rfl rfl rfl rfl ?_|refine WL.opno rfl rfl rfl rfl rfl rfl rfl ?_|refine WL.ar rfl rfl z25i ?_|refine WL.len rfl rfl rfl ?_|refine W.condT rfl ?_|refine W.condF rfl ?_)
  (first|refine (?_:W _ _ _ _ _)|refine (?_:WL _ _ _ _ _ _)|skip)
  try dsimp only [St.put,Nat.reduceAdd]
  refine WL.vl rfl (zqc Tryz.func14 works04_FS) ?_
  repeat (first|refine WL.vl rfl (WV.nch rfl rfl) ?_|refine W.gob rfl ?_|refine WL.nil ?_|refine WL.bt rfl rfl rfl zqo ?_|refine WL.bf rfl rfl rfl zqo ?_|refine WL.nt rfl rfl rfl zqo ?_|refine WL.nf rfl rfl rfl zqo ?_|refine WL.e1 rfl ?_|refine WL.gyes rfl rfl rfl rfl ?_|refine WL.opno rfl rfl rfl rfl rfl rfl rfl ?_|refine WL.ar rfl rfl z25i ?_|refine WL.len rfl rfl rfl ?_|refine W.condT rfl ?_|refine W.condF rfl ?_)
  (first|refine (?_:W _ _ _ _ _)|refine (?_:WL _ _ _ _ _ _)|skip)
  try dsimp only [St.put,Nat.reduceAdd]
  exact W.ret zqr
 rw [hX] at hR
 have hPr:redP s p=⟨p.cs,p.st,fnL (znH s (redN s p)) (redN s p)⟩:=if_pos hX
 have hLr:redL s p=lsL (redC s) (znH s (redN s p)) (redQ s p) (redQ s p).length:=if_pos hX
 rw [hPr,hLr] at hR
 have hR:Ctr Tryz.prog 16 [.sc (.int .u8 s),ePce p] (.tu [.ag [.ls 3 (p.cs.map eCrs),.ls 1 (p.st.map eInt),.ls 6 ((fnL (znH s (redN s p)) (redN s p)).map eEv)],.ls 3 ((lsL (redC s) (znH s (redN s p)) (redQ s p) (redQ s p).length).map eLk),.sc (.int .i64 0)]):=hR
 have hQl:=redQ_len s p
 have hn:=(pceE_zero h0).2.1
 have hQ0:=redI_valid (s:=s) h0
 have hEo:∀ i (h:i < (redQ s p).length),EvOk (redI s p) i (redQ s p)[i]:=fun i h=>evOk_of hQ0 h
 have hQ20:=redQ_20 (s:=s) hO
 have hRl:((fnL (znH s (redN s p)) (redN s p)).map eEv).length=p.evs.length:=by
  rw [List.length_map,fnL_len];unfold redN;rw [nwL_len];exact hQl
 have hEv:∀ k (h:k < p.evs.length),(p.evs.map eEv)[((k:Nat):Int).toNat]?=some [.sc (.bool p.evs[k].bar),.sc (.int .i64 p.evs[k].val),.sc (.bool p.evs[k].dot),.sc (.bool p.evs[k].three),.sc (.bool p.evs[k].tie),.ls 5 (p.evs[k].stops.map eStp)]:=fun k h=>by
  rw [Int.toNat_natCast,List.getElem?_map,List.getElem?_eq_getElem h];rfl
 have hRv:∀ k (h:k < p.evs.length) (h2:k < (redQ s p).length),((fnL (znH s (redN s p)) (redN s p)).map eEv)[((k:Nat):Int).toNat]?=some (eEv (fnE (znH s (redN s p)) k (nwE (redC s) k (redQ s p)[k]))):=fun k h h2=>by
  have h3:k < (redN s p).length:=by unfold redN;rw [nwL_len];exact h2
  rw [Int.toNat_natCast,List.getElem?_map,List.getElem?_eq_getElem (by rw [fnL_len];exact h3),fnL_get h3,show (redN s p)[k]=nwE (redC s) k (redQ s p)[k] from nwL_get h2];rfl
 have hEl:(p.evs.map eEv).length=p.evs.length:=List.length_map _
 have hsame:∀ k (h:k < p.evs.length) (h2:k < (redQ s p).length),(redQ s p)[k].stops=p.evs[k].stops∧(redQ s p)[k].tie=p.evs[k].tie:=fun k h h2=>redQ_same h h2
 obtain ⟨H,hH⟩:∃ z,znH s (redN s p)=z:=⟨_,rfl⟩
 rw [hH] at hR hRl
 simp only [hH] at hRv
 have hLl:∀ k,k≤(redQ s p).length→(lsL (redC s) H (redQ s p) k).length≤61*k:=fun k hk=>lsL_len (C:=redC s) (H:=H) (redC_ml s) hQ20 k hk
 have hTo:∀ i (h:i < (redQ s p).length) (c w:Int),Ctr Tryz.prog 21 [.ls 3 ((lsL (redC s) H (redQ s p) (redQ s p).length).map eLk),.sc (.int .i64 i),.sc (.int .i64 c),.sc (.int .i64 w)] (.sc (.bool (toldB (lsE (redC s) H i (redQ s p)[i]) i c w))):=fun i h c w=>by
  have h1:=ztold_FS (lsL (redC s) H (redQ s p) (redQ s p).length) (by have:=hLl _ (Nat.le_refl _);omega) i c w
  rw [told_at h] at h1
  exact h1
 have hat:=fun k (h:k < (redQ s p).length)=>lsL_at (C:=redC s) (H:=H) h
 have hLLl:((lsL (redC s) H (redQ s p) (redQ s p).length).map eLk).length=(lsL (redC s) H (redQ s p) (redQ s p).length).length:=List.length_map _
 obtain ⟨Q,hQ⟩:∃ z,redQ s p=z:=⟨_,rfl⟩
 simp only [hQ] at hR hQl hEo hQ20 hRv hsame hLl hTo hat hLLl
 obtain ⟨LL,hLL⟩:∃ z,(lsL (redC s) H Q Q.length).map eLk=z:=⟨_,rfl⟩
 simp only [hLL] at hR hTo hLLl
 obtain ⟨RV,hRV⟩:∃ z,(fnL H (redN s p)).map eEv=z:=⟨_,rfl⟩
 rw [hRV] at hR hRl
 simp only [hRV] at hRv
 have hPe:ePce p=.ag [.ls 3 (p.cs.map eCrs),.ls 1 (p.st.map eInt),.ls 6 (p.evs.map eEv)]:=rfl
 rw [hPe] at hS hC hCp hR ⊢
 obtain ⟨EV,hEV⟩:∃ z,p.evs.map eEv=z:=⟨_,rfl⟩
 rw [hEV] at hS hC hCp hR hEl ⊢
 simp only [hEV] at hEv
 clear hRV hLL hEV hPr hLr
 refine zqe Tryz.func4 Tryz.ntmps4 fun w0 F0=>?_;dsimp only [St.init,number,Nat.reduceAdd]
 repeat (first|refine WL.vl rfl (WV.nch rfl rfl) ?_|refine W.gob rfl ?_|refine WL.nil ?_|refine WL.bt rfl rfl rfl zqo ?_|refine WL.bf rfl rfl rfl zqo ?_|refine WL.nt rfl rfl rfl zqo ?_|refine WL.nf rfl rfl rfl zqo ?_|refine WL.e1 rfl ?_|refine WL.gyes rfl rfl rfl rfl ?_|refine WL.opno rfl rfl rfl rfl rfl rfl rfl ?_|refine WL.ar rfl rfl z25i ?_|refine WL.len rfl rfl rfl ?_|refine W.condT rfl ?_|refine W.condF rfl ?_)
 (first|refine (?_:W _ _ _ _ _)|refine (?_:WL _ _ _ _ _ _)|skip)
 try dsimp only [St.put,Nat.reduceAdd]
 refine WL.vl rfl (zqc Tryz.func13 hS) ?_
 repeat (first|refine WL.vl rfl (WV.nch rfl rfl) ?_|refine W.gob rfl ?_|refine WL.nil ?_|refine WL.bt rfl rfl rfl zqo ?_|refine WL.bf rfl rfl rfl zqo ?_|refine WL.nt rfl rfl rfl zqo ?_|refine WL.nf rfl rfl rfl zqo ?_|refine WL.e1 rfl ?_|refine WL.gyes rfl rfl rfl rfl ?_|refine WL.opno rfl rfl rfl rfl rfl rfl rfl ?_|refine WL.ar rfl rfl z25i ?_|refine WL.len rfl rfl rfl ?_|refine W.condT rfl ?_|refine W.condF rfl ?_)
 (first|refine (?_:W _ _ _ _ _)|refine (?_:WL _ _ _ _ _ _)|skip)
 try dsimp only [St.put,Nat.reduceAdd]
 refine WL.vl rfl (zqc Tryz.func20 hC) ?_
 repeat (first|refine WL.vl rfl (WV.nch rfl rfl) ?_|refine W.gob rfl ?_|refine WL.nil ?_|refine WL.bt rfl rfl rfl zqo ?_|refine WL.bf rfl rfl rfl zqo ?_|refine WL.nt rfl rfl rfl zqo ?_|refine WL.nf rfl rfl rfl zqo ?_|refine WL.e1 rfl ?_|refine WL.gyes rfl rfl rfl rfl ?_|refine WL.opno rfl rfl rfl rfl rfl rfl rfl ?_|refine WL.ar rfl rfl z25i ?_|refine WL.len rfl rfl rfl ?_|refine W.condT rfl ?_|refine W.condF rfl ?_)
 (first|refine (?_:W _ _ _ _ _)|refine (?_:WL _ _ _ _ _ _)|skip)
 try dsimp only [St.put,Nat.reduceAdd]
 refine WL.vl rfl (zqc Tryz.func15 hCp) ?_
 repeat (first|refine WL.vl rfl (WV.nch rfl rfl) ?_|refine W.gob rfl ?_|refine WL.nil ?_|refine WL.bt rfl rfl rfl zqo ?_|refine WL.bf rfl rfl rfl zqo ?_|refine WL.nt rfl rfl rfl zqo ?_|refine WL.nf rfl rfl rfl zqo ?_|refine WL.e1 rfl ?_|refine WL.gyes rfl rfl rfl rfl ?_|refine WL.opno rfl rfl rfl rfl rfl rfl rfl ?_|refine WL.ar rfl rfl z25i ?_|refine WL.len rfl rfl rfl ?_|refine W.condT rfl ?_|refine W.condF rfl ?_)
 (first|refine (?_:W _ _ _ _ _)|refine (?_:WL _ _ _ _ _ _)|skip)
 try dsimp only [St.put,Nat.reduceAdd]
 refine WL.vl rfl (zqc Tryz.func16 hR) ?_
 repeat (first|refine WL.vl rfl (WV.nch rfl rfl) ?_|refine W.gob rfl ?_|refine WL.nil ?_|refine WL.bt rfl rfl rfl zqo ?_|refine WL.bf rfl rfl rfl zqo ?_|refine WL.nt rfl rfl rfl zqo ?_|refine WL.nf rfl rfl rfl zqo ?_|refine WL.e1 rfl ?_|refine WL.gyes rfl rfl rfl rfl ?_|refine WL.opno rfl rfl rfl rfl rfl rfl rfl ?_|refine WL.ar rfl rfl z25i ?_|refine WL.len rfl rfl rfl ?_|refine W.condT rfl ?_|refine W.condF rfl ?_)
 (first|refine (?_:W _ _ _ _ _)|refine (?_:WL _ _ _ _ _ _)|skip)
 try dsimp only [St.put,Nat.reduceAdd]
 refine W.loop (fun i:Nat=>i≤p.evs.length) (fun i=>⟨[(3,.pt 0 0 0),(5,.pt 1 0 0),(6,.ls 3 LL),(8,.sc (.int .i64 ((lsL (redC s) H Q i).length:Nat))),(9,.sc (.int .i64 i))],[(0,.box 29 [.ls 3 (p.cs.map eCrs),.ls 1 (p.st.map eInt),.ls 6 EV]),(1,.box 29 [.ls 3 (p.cs.map eCrs),.ls 1 (p.st.map eInt),.ls 6 RV])],2⟩) (fun i=>p.evs.length - i) 0 zqo (zqt id) fun i hi=>?_
 by_cases hlt:i < p.evs.length
 ·have hlq:i < Q.length:=by omega
  have h1:=hEv i hlt
  have h2:=hRv i hlt hlq
  have hQe:=hEo i hlq
  have hQ2:=hQ20 _ (List.getElem_mem hlq)
  obtain ⟨hs1,hs2⟩:=hsame i hlt hlq
  have hT:=hTo i hlq
  have hat2:=hat i hlq
  have hll:=hLl (i+1) zqo
  have hEx:∃ (a:Bool) (b:Int) (c d:Bool),EV[((i:Nat):Int).toNat]?=some [.sc (.bool a),.sc (.int .i64 b),.sc (.bool c),.sc (.bool d),.sc (.bool Q[i].tie),.ls 5 (Q[i].stops.map eStp)]:=⟨_,_,_,_,by rw [hs1,hs2];exact h1⟩
  have hHs:∀ x:Stp,Ctr Tryz.prog 22 [.ag (eEv (fnE H i (nwE (redC s) i Q[i]))),.ag (eStp x)] (.sc (.bool (hasX ((nwS (redC s) Q[i].stops).map fun y=>stH y (H i y)) x))):=fun x=>zhas_FS (fnE H i (nwE (redC s) i Q[i])) (by
   show ((nwS (redC s) Q[i].stops).map _).length≤20
   rw [List.length_map]
   have:=nwS_len (redC s) Q[i].stops
   omega) x
  clear h1 hs1 hs2 hEv hRv hEo hQ20 hsame hTo hat hLl
  rw [hat2,List.length_append] at hll
  have hlen:(lsL (redC s) H Q (i+1)).length=(lsL (redC s) H Q i).length+(lsE (redC s) H i Q[i]).length:=by rw [hat2,List.length_append]
  clear hat2
  obtain ⟨xa,xb,xc,xd,hE1⟩:=hEx
  have hR1:=h2
  have hYe:eEv (fnE H i (nwE (redC s) i Q[i]))=[.sc (.bool Q[i].bar),.sc (.int .i64 Q[i].val),.sc (.bool Q[i].dot),.sc (.bool Q[i].three),.sc (.bool (nwT (redC s) i Q[i])),.ls 5 (((nwS (redC s) Q[i].stops).map fun y=>stH y (H i y)).map eStp)]:=rfl
  rw [hYe] at hR1
  simp only [hYe] at hHs
  have hSl:(Q[i].stops.map eStp).length=Q[i].stops.length:=List.length_map _
  have hYl:(((nwS (redC s) Q[i].stops).map fun y=>stH y (H i y)).map eStp).length=(nwS (redC s) Q[i].stops).length:=by rw [List.length_map,List.length_map]
  have hYn:=nwS_len (redC s) Q[i].stops
  have hSt2:∀ k (h:k < Q[i].stops.length),(Q[i].stops.map eStp)[((k:Nat):Int).toNat]?=some [.sc (.int .i64 Q[i].stops[k].1),.sc (.int .i64 Q[i].stops[k].2.1),.sc (.int .i64 Q[i].stops[k].2.2.1),.sc (.int .i64 Q[i].stops[k].2.2.2.1),.sc (.int .i64 Q[i].stops[k].2.2.2.2)]:=fun k h=>by
   rw [Int.toNat_natCast,List.getElem?_map,List.getElem?_eq_getElem h];rfl
  have hYt:∀ k (h:k < (nwS (redC s) Q[i].stops).length),∃ y:Stp,((nwS (redC s) Q[i].stops).map fun y=>stH y (H i y))[k]?=some y∧(((nwS (redC s) Q[i].stops).map fun y=>stH y (H i y)).map eStp)[((k:Nat):Int).toNat]?=some [.sc (.int .i64 y.1),.sc (.int .i64 y.2.1),.sc (.int .i64 y.2.2.1),.sc (.int .i64 y.2.2.2.1),.sc (.int .i64 y.2.2.2.2)]:=fun k h=>by
   refine ⟨_,List.getElem?_eq_getElem (by rw [List.length_map];exact h),?_⟩
   rw [Int.toNat_natCast,List.getElem?_map,List.getElem?_eq_getElem (by rw [List.length_map];exact h)];rfl
  have hev:=told_ev (C:=redC s) (H:=H) (i:=i) (e:=Q[i])
  have hevl:=ls_ev_len (C:=redC s) (H:=H) (i:=i) (e:=Q[i])
  have hst:=fun {x:Stp} (hx:x∈Q[i].stops) (w:Int)=>told_st (C:=redC s) (H:=H) (i:=i) hQe.asc (fun x hx=>(hQe.stops x hx).crs.1) hx w
  obtain ⟨ti,hti⟩:∃ z,Q[i].tie=z:=⟨_,rfl⟩
  rw [hti] at hE1 hev hevl
  obtain ⟨ty,hty⟩:∃ z,nwT (redC s) i Q[i]=z:=⟨_,rfl⟩
  rw [hty] at hR1 hev hevl
  simp only [hty] at hHs
  obtain ⟨SE,hSE⟩:∃ z,Q[i].stops.map eStp=z:=⟨_,rfl⟩
  rw [hSE] at hE1 hSl
  simp only [hSE] at hSt2
  obtain ⟨YE,hYE⟩:∃ z,((nwS (redC s) Q[i].stops).map fun y=>stH y (H i y)).map eStp=z:=⟨_,rfl⟩
  rw [hYE] at hR1 hYl
  simp only [hYE] at hHs hYt
  generalize Q[i].bar=ya at hR1 hHs
  generalize Q[i].val=yb at hR1 hHs
  generalize Q[i].dot=yc at hR1 hHs
  generalize Q[i].three=yd at hR1 hHs
  clear hYe h2
  repeat (first|refine WL.vl rfl (WV.nch rfl rfl) ?_|refine W.gob rfl ?_|refine WL.nil ?_|refine WL.bt rfl rfl rfl zqo ?_|refine WL.bf rfl rfl rfl zqo ?_|refine WL.nt rfl rfl rfl zqo ?_|refine WL.nf rfl rfl rfl zqo ?_|refine WL.e1 rfl ?_|refine WL.gyes rfl rfl rfl rfl ?_|refine WL.opno rfl rfl rfl rfl rfl rfl rfl ?_|refine WL.ar rfl rfl z25i ?_|refine WL.len rfl rfl rfl ?_|refine W.condT rfl ?_|refine W.condF rfl ?_)
  (first|refine (?_:W _ _ _ _ _)|refine (?_:WL _ _ _ _ _ _)|skip)
  try dsimp only [St.put,Nat.reduceAdd]
  refine W.meet ⟨[(3,.pt 0 0 0),(5,.pt 1 0 0),(6,.ls 3 LL),(8,.sc (.int .i64 (((lsL (redC s) H Q i).length:Nat)))),(9,.sc (.int .i64 i)),(10,.pt 2 0 0),(11,.pt 3 0 0)],[(0,.box 29 [.ls 3 (p.cs.map eCrs),.ls 1 (p.st.map eInt),.ls 6 EV]),(1,.box 29 [.ls 3 (p.cs.map eCrs),.ls 1 (p.st.map eInt),.ls 6 RV]),(2,.box 45 [.sc (.bool xa),.sc (.int .i64 xb),.sc (.bool xc),.sc (.bool xd),.sc (.bool ti),.ls 5 SE]),(3,.box 45 [.sc (.bool ya),.sc (.int .i64 yb),.sc (.bool yc),.sc (.bool yd),.sc (.bool ty),.ls 5 YE])],4⟩ ?_ ?_
  ·refine W.of_wa zqk ?_
   refine WA.eitherL2 [0,1,2,3,4,5,6,7,8,9,10,11,12,13] [0,1,2,3,4,5,6,7,8,9,10,11,12,13] [0,1,2,3,4,5,6,7,8,9,11,10,12,13] [0,1,2,3,4,5,6,7,8,9,11,10,12,13] 10 11 zqk zqk rfl ?_ ?_
   ·refine WA.ds [false,false,false,false,false,false,false,false,false,false,true,true,true,true] [0,1] zqk zqk ⟨rfl,rfl,trivial⟩ ?_
    repeat (first|refine DSK.st rfl rfl ?_|refine DSK.idx rfl rfl zqo (by first|exact hE1|exact hR1) ?_|refine DSK.al rfl rfl rfl rfl ⟨rfl,rfl,trivial⟩ ?_|refine DSK.sto rfl rfl rfl rfl rfl rfl rfl rfl rfl rfl rfl rfl rfl rfl ⟨rfl,rfl,trivial⟩ ?_|refine DSK.nil ?_)
    refine (?_:Tr _ _ _)
    exact (zqt id)
   ·refine WA.ds [false,false,false,false,false,false,false,false,false,false,true,true,true,true] [0,1] zqk zqk ⟨rfl,rfl,trivial⟩ ?_
    repeat (first|refine DSK.st rfl rfl ?_|refine DSK.idx rfl rfl zqo (by first|exact hE1|exact hR1) ?_|refine DSK.al rfl rfl rfl rfl ⟨rfl,rfl,trivial⟩ ?_|refine DSK.sto rfl rfl rfl rfl rfl rfl rfl rfl rfl rfl rfl rfl rfl rfl ⟨rfl,rfl,trivial⟩ ?_|refine DSK.nil ?_)
    refine (?_:Tr _ _ _)
    exact (zqt (fun q=>bif Nat.beq q 2 then 3 else bif Nat.beq q 3 then 2 else q))
  by_cases hS0:Q[i].stops.length=0
  ·obtain ⟨_,ht7,ht8⟩:=hev hS0
   have hel:=hevl hS0
   have hT7:=hT 0 7
   have hT8:=hT 0 8
   rw [ht7] at hT7
   rw [ht8] at hT8
   have hY0:YE.length=0:=by omega
   have hq0:ti=ty→(((lsL (redC s) H Q (i+1)).length:Nat):Int)=(((lsL (redC s) H Q i).length:Nat):Int):=fun h=>by rw [if_pos h] at hel;omega
   have hq1:ti≠ty→(((lsL (redC s) H Q (i+1)).length:Nat):Int)=(((lsL (redC s) H Q i).length:Nat):Int)+1:=fun h=>by rw [if_neg h] at hel;omega
   clear hev hevl hst hHs hYt hSt2 hT hel
   cases ti
   all_goals
    cases ty
    all_goals
     refine (?_:W _ _ _ _ _)
     repeat (first|refine WL.vl rfl (WV.nch rfl rfl) ?_|refine W.gob rfl ?_|refine WL.nil ?_|refine WL.bt rfl rfl rfl zqo ?_|refine WL.bf rfl rfl rfl zqo ?_|refine WL.nt rfl rfl rfl zqo ?_|refine WL.nf rfl rfl rfl zqo ?_|refine WL.e1 rfl ?_|refine WL.gyes rfl rfl rfl rfl ?_|refine WL.opno rfl rfl rfl rfl rfl rfl rfl ?_|refine WL.ar rfl rfl z25i ?_|refine WL.len rfl rfl rfl ?_|refine W.condT rfl ?_|refine W.condF rfl ?_)
     (first|refine (?_:W _ _ _ _ _)|refine (?_:WL _ _ _ _ _ _)|skip)
     try dsimp only [St.put,Nat.reduceAdd]
     refine W.drawK zqk zqk ?_
     repeat (first|refine DK.bt rfl rfl zqo ?_|refine DK.bf rfl rfl zqo ?_|refine DK.no rfl rfl rfl ?_|refine DK.st rfl ?_|refine DK.vl rfl (zqc Tryz.func21 hT7) ?_|refine DK.vl rfl (zqc Tryz.func21 hT8) ?_|refine DK.len rfl rfl rfl ?_|refine DK.nil ?_)
     repeat (first|refine WL.vl rfl (WV.nch rfl rfl) ?_|refine W.gob rfl ?_|refine WL.nil ?_|refine WL.bt rfl rfl rfl zqo ?_|refine WL.bf rfl rfl rfl zqo ?_|refine WL.nt rfl rfl rfl zqo ?_|refine WL.nf rfl rfl rfl zqo ?_|refine WL.e1 rfl ?_|refine WL.gyes rfl rfl rfl rfl ?_|refine WL.opno rfl rfl rfl rfl rfl rfl rfl ?_|refine WL.ar rfl rfl z25i ?_|refine WL.len rfl rfl rfl ?_|refine W.condT rfl ?_|refine W.condF rfl ?_)
     (first|refine (?_:W _ _ _ _ _)|refine (?_:WL _ _ _ _ _ _)|skip)
     try dsimp only [St.put,Nat.reduceAdd]
     refine ⟨i+1,by omega,by omega,?_⟩
     first
      | (rw [hq0 rfl];exact (zqt id))
      | (rw [hq1 Bool.noConfusion];exact (zqt id))
  ·have hfl:(lsE (redC s) H i Q[i]).length=(Q[i].stops.flatMap (lsS (redC s) H i)).length:=by
    unfold lsE lsH evT
    rw [if_neg hS0,if_pos rfl,List.nil_append]
   have hkp:=fun k (h:k < Q[i].stops.length)=>crs_kept (C:=redC s) redC_crs hQe.asc h
   have hkb:=fun k=>lsF_len (C:=redC s) (H:=H) (redC_ml s) i (Q[i].stops.take k)
   have hasc:=hQe.asc
   clear hev hevl
   refine (?_:W _ _ _ _ _)
   repeat (first|refine WL.vl rfl (WV.nch rfl rfl) ?_|refine W.gob rfl ?_|refine WL.nil ?_|refine WL.bt rfl rfl rfl zqo ?_|refine WL.bf rfl rfl rfl zqo ?_|refine WL.nt rfl rfl rfl zqo ?_|refine WL.nf rfl rfl rfl zqo ?_|refine WL.e1 rfl ?_|refine WL.gyes rfl rfl rfl rfl ?_|refine WL.opno rfl rfl rfl rfl rfl rfl rfl ?_|refine WL.ar rfl rfl z25i ?_|refine WL.len rfl rfl rfl ?_|refine W.condT rfl ?_|refine W.condF rfl ?_)
   (first|refine (?_:W _ _ _ _ _)|refine (?_:WL _ _ _ _ _ _)|skip)
   try dsimp only [St.put,Nat.reduceAdd]
   refine W.loop (fun k:Nat=>k≤Q[i].stops.length) (fun k=>⟨[(3,.pt 0 0 0),(5,.pt 1 0 0),(6,.ls 3 LL),(8,.sc (.int .i64 (((lsL (redC s) H Q i).length+((Q[i].stops.take k).flatMap (lsS (redC s) H i)).length:Nat)))),(9,.sc (.int .i64 i)),(10,.pt 2 0 0),(11,.pt 3 0 0),(12,.sc (.int .i64 k))],[(0,.box 29 [.ls 3 (p.cs.map eCrs),.ls 1 (p.st.map eInt),.ls 6 EV]),(1,.box 29 [.ls 3 (p.cs.map eCrs),.ls 1 (p.st.map eInt),.ls 6 RV]),(2,.box 45 [.sc (.bool xa),.sc (.int .i64 xb),.sc (.bool xc),.sc (.bool xd),.sc (.bool ti),.ls 5 SE]),(3,.box 45 [.sc (.bool ya),.sc (.int .i64 yb),.sc (.bool yc),.sc (.bool yd),.sc (.bool ty),.ls 5 YE])],4⟩) (fun k=>Q[i].stops.length - k) 0 zqo (zqt id) fun k hk=>?_
   by_cases hkl:k < Q[i].stops.length
   ·have g1:=hSt2 k hkl
    have hx:=List.getElem_mem hkl
    have g2:=hHs Q[i].stops[k]
    have hb:=hkb k
    have hb1:=hkb (k+1)
    rw [List.length_take] at hb hb1
    have hnx:((Q[i].stops.take (k+1)).flatMap (lsS (redC s) H i)).length=((Q[i].stops.take k).flatMap (lsS (redC s) H i)).length+(lsS (redC s) H i Q[i].stops[k]).length:=by
     rw [List.take_succ_eq_append_getElem hkl,List.flatMap_append,List.length_append,List.flatMap_cons,List.flatMap_nil,List.append_nil]
    have g3:=fun w=>hT Q[i].stops[k].1 w
    simp only [hst hx] at g3
    cases hc:((redC s).ch Q[i].stops[k]).2 with
    | true =>
     obtain ⟨l1,l2⟩:=told_lost (H:=H) (i:=i) hc
     rw [has_lost redC_crs hasc hx hc] at g2
     have g4:=g3 1
     rw [l2] at g4
     rw [l1] at hnx
     have hq:(((lsL (redC s) H Q i).length+((Q[i].stops.take (k+1)).flatMap (lsS (redC s) H i)).length:Nat):Int)=(((lsL (redC s) H Q i).length+((Q[i].stops.take k).flatMap (lsS (redC s) H i)).length:Nat):Int)+1:=by omega
     obtain ⟨X,hX2⟩:∃ z,Q[i].stops[k]=z:=⟨_,rfl⟩
     rw [hX2] at g1 g2 g4
     obtain ⟨NB,hNB⟩:∃ z,(lsL (redC s) H Q i).length+((Q[i].stops.take k).flatMap (lsS (redC s) H i)).length=z:=⟨_,rfl⟩
     rw [hNB] at hq ⊢
     clear hst hHs hT g3 hkp hSt2 hYt
     repeat (first|refine WL.vl rfl (WV.nch rfl rfl) ?_|refine W.gob rfl ?_|refine WL.nil ?_|refine WL.bt rfl rfl rfl zqo ?_|refine WL.bf rfl rfl rfl zqo ?_|refine WL.nt rfl rfl rfl zqo ?_|refine WL.nf rfl rfl rfl zqo ?_|refine WL.e1 rfl ?_|refine WL.gyes rfl rfl rfl rfl ?_|refine WL.opno rfl rfl rfl rfl rfl rfl rfl ?_|refine WL.ar rfl rfl z25i ?_|refine WL.len rfl rfl rfl ?_|refine W.condT rfl ?_|refine W.condF rfl ?_)
     (first|refine (?_:W _ _ _ _ _)|refine (?_:WL _ _ _ _ _ _)|skip)
     try dsimp only [St.put,Nat.reduceAdd]
     refine WL.idx rfl rfl zqo g1 ?_
     repeat (first|refine WL.vl rfl (WV.nch rfl rfl) ?_|refine W.gob rfl ?_|refine WL.nil ?_|refine WL.bt rfl rfl rfl zqo ?_|refine WL.bf rfl rfl rfl zqo ?_|refine WL.nt rfl rfl rfl zqo ?_|refine WL.nf rfl rfl rfl zqo ?_|refine WL.e1 rfl ?_|refine WL.gyes rfl rfl rfl rfl ?_|refine WL.opno rfl rfl rfl rfl rfl rfl rfl ?_|refine WL.ar rfl rfl z25i ?_|refine WL.len rfl rfl rfl ?_|refine W.condT rfl ?_|refine W.condF rfl ?_)
     (first|refine (?_:W _ _ _ _ _)|refine (?_:WL _ _ _ _ _ _)|skip)
     try dsimp only [St.put,Nat.reduceAdd]
     refine W.drawK zqk zqk ?_
     repeat (first|refine DK.st rfl ?_|refine DK.idx rfl rfl zqo g1 ?_|refine DK.vl rfl (zqc Tryz.func22 g2) ?_|refine DK.vl rfl (zqc Tryz.func21 g4) ?_|refine DK.nil ?_)
     repeat (first|refine WL.vl rfl (WV.nch rfl rfl) ?_|refine W.gob rfl ?_|refine WL.nil ?_|refine WL.bt rfl rfl rfl zqo ?_|refine WL.bf rfl rfl rfl zqo ?_|refine WL.nt rfl rfl rfl zqo ?_|refine WL.nf rfl rfl rfl zqo ?_|refine WL.e1 rfl ?_|refine WL.gyes rfl rfl rfl rfl ?_|refine WL.opno rfl rfl rfl rfl rfl rfl rfl ?_|refine WL.ar rfl rfl z25i ?_|refine WL.len rfl rfl rfl ?_|refine W.condT rfl ?_|refine W.condF rfl ?_)
     (first|refine (?_:W _ _ _ _ _)|refine (?_:WL _ _ _ _ _ _)|skip)
     try dsimp only [St.put,Nat.reduceAdd]
     refine W.drawK zqk zqk ?_
     repeat (first|refine DK.st rfl ?_|refine DK.idx rfl rfl zqo g1 ?_|refine DK.vl rfl (zqc Tryz.func22 g2) ?_|refine DK.nil ?_)
     repeat (first|refine WL.vl rfl (WV.nch rfl rfl) ?_|refine W.gob rfl ?_|refine WL.nil ?_|refine WL.bt rfl rfl rfl zqo ?_|refine WL.bf rfl rfl rfl zqo ?_|refine WL.nt rfl rfl rfl zqo ?_|refine WL.nf rfl rfl rfl zqo ?_|refine WL.e1 rfl ?_|refine WL.gyes rfl rfl rfl rfl ?_|refine WL.opno rfl rfl rfl rfl rfl rfl rfl ?_|refine WL.ar rfl rfl z25i ?_|refine WL.len rfl rfl rfl ?_|refine W.condT rfl ?_|refine W.condF rfl ?_)
     (first|refine (?_:W _ _ _ _ _)|refine (?_:WL _ _ _ _ _ _)|skip)
     try dsimp only [St.put,Nat.reduceAdd]
     refine ⟨k+1,by omega,by omega,?_⟩
     rw [hq]
     exact (zqt id)
    | false =>
     obtain ⟨d1,d2,d3,d4,d5⟩:=told_kept (redC_ls s) (H:=H) (i:=i) hc
     rw [has_kept redC_pl hx hc] at g2
     have t1:=g3 1
     have t2:=g3 2
     have t3:=g3 3
     have t4:=g3 4
     rw [d2] at t1
     rw [d3] at t2
     rw [d4] at t3
     rw [d5] at t4
     obtain ⟨N,hN1,hN2⟩:=hkp k hkl hc (H i)
     have hNl:N < (nwS (redC s) Q[i].stops).length:=by
      have:=(List.getElem?_eq_some_iff.1 hN1).1
      rw [List.length_map] at this;exact this
     rw [d1] at hnx
     obtain ⟨Y,hY⟩:∃ z,(redC s).mr ((redC s).ch Q[i].stops[k]).1=z:=⟨_,rfl⟩
     rw [hY] at hN1 hnx t2 t3 t4
     obtain ⟨X,hX2⟩:∃ z,Q[i].stops[k]=z:=⟨_,rfl⟩
     rw [hX2] at g1 g2 t1 t2 t3 t4 hnx
     simp only [hX2] at hN2
     obtain ⟨h,hh⟩:∃ z,H i Y=z:=⟨_,rfl⟩
     rw [hh] at hN1 hnx t4
     have hZ:=hYt N hNl
     obtain ⟨NB,hNB⟩:∃ z,(lsL (redC s) H Q i).length+((Q[i].stops.take k).flatMap (lsS (redC s) H i)).length=z:=⟨_,rfl⟩
     have hnq:(((lsL (redC s) H Q i).length+((Q[i].stops.take (k+1)).flatMap (lsS (redC s) H i)).length:Nat):Int)=(NB:Int)+(((((if Y.2.2.1=X.2.2.1 then 0 else 1)+(if Y.2.2.2.1=X.2.2.2.1 then 0 else 1))+(if h=X.2.2.2.2 then 0 else 1):Nat)):Int):=by rw [hnx];omega
     have hNBl:NB≤31000:=by omega
     obtain ⟨D,hD⟩:∃ z,(((if Y.2.2.1=X.2.2.1 then 0 else 1)+(if Y.2.2.2.1=X.2.2.2.1 then 0 else 1))+(if h=X.2.2.2.2 then 0 else 1):Nat)=z:=⟨_,rfl⟩
     rw [hD] at hnq
     rw [hNB]
     have hD2:=fun _:Unit=>hD
     clear hD hst hHs hT g3 hkp hSt2 hnx hY hX2 hh hNB hkb d1 d2 d3 d4 d5
     repeat (first|refine WL.vl rfl (WV.nch rfl rfl) ?_|refine W.gob rfl ?_|refine WL.nil ?_|refine WL.bt rfl rfl rfl zqo ?_|refine WL.bf rfl rfl rfl zqo ?_|refine WL.nt rfl rfl rfl zqo ?_|refine WL.nf rfl rfl rfl zqo ?_|refine WL.e1 rfl ?_|refine WL.gyes rfl rfl rfl rfl ?_|refine WL.opno rfl rfl rfl rfl rfl rfl rfl ?_|refine WL.ar rfl rfl z25i ?_|refine WL.len rfl rfl rfl ?_|refine W.condT rfl ?_|refine W.condF rfl ?_)
     (first|refine (?_:W _ _ _ _ _)|refine (?_:WL _ _ _ _ _ _)|skip)
     try dsimp only [St.put,Nat.reduceAdd]
     refine WL.idx rfl rfl zqo g1 ?_
     repeat (first|refine WL.vl rfl (WV.nch rfl rfl) ?_|refine W.gob rfl ?_|refine WL.nil ?_|refine WL.bt rfl rfl rfl zqo ?_|refine WL.bf rfl rfl rfl zqo ?_|refine WL.nt rfl rfl rfl zqo ?_|refine WL.nf rfl rfl rfl zqo ?_|refine WL.e1 rfl ?_|refine WL.gyes rfl rfl rfl rfl ?_|refine WL.opno rfl rfl rfl rfl rfl rfl rfl ?_|refine WL.ar rfl rfl z25i ?_|refine WL.len rfl rfl rfl ?_|refine W.condT rfl ?_|refine W.condF rfl ?_)
     (first|refine (?_:W _ _ _ _ _)|refine (?_:WL _ _ _ _ _ _)|skip)
     try dsimp only [St.put,Nat.reduceAdd]
     refine W.drawK zqk zqk ?_
     repeat (first|refine DK.st rfl ?_|refine DK.idx rfl rfl zqo g1 ?_|refine DK.vl rfl (zqc Tryz.func22 g2) ?_|refine DK.vl rfl (zqc Tryz.func21 t1) ?_|refine DK.nil ?_)
     repeat (first|refine WL.vl rfl (WV.nch rfl rfl) ?_|refine W.gob rfl ?_|refine WL.nil ?_|refine WL.bt rfl rfl rfl zqo ?_|refine WL.bf rfl rfl rfl zqo ?_|refine WL.nt rfl rfl rfl zqo ?_|refine WL.nf rfl rfl rfl zqo ?_|refine WL.e1 rfl ?_|refine WL.gyes rfl rfl rfl rfl ?_|refine WL.opno rfl rfl rfl rfl rfl rfl rfl ?_|refine WL.ar rfl rfl z25i ?_|refine WL.len rfl rfl rfl ?_|refine W.condT rfl ?_|refine W.condF rfl ?_)
     (first|refine (?_:W _ _ _ _ _)|refine (?_:WL _ _ _ _ _ _)|skip)
     try dsimp only [St.put,Nat.reduceAdd]
     refine W.drawK zqk zqk ?_
     repeat (first|refine DK.st rfl ?_|refine DK.idx rfl rfl zqo g1 ?_|refine DK.vl rfl (zqc Tryz.func22 g2) ?_|refine DK.nil ?_)
     repeat (first|refine WL.vl rfl (WV.nch rfl rfl) ?_|refine W.gob rfl ?_|refine WL.nil ?_|refine WL.bt rfl rfl rfl zqo ?_|refine WL.bf rfl rfl rfl zqo ?_|refine WL.nt rfl rfl rfl zqo ?_|refine WL.nf rfl rfl rfl zqo ?_|refine WL.e1 rfl ?_|refine WL.gyes rfl rfl rfl rfl ?_|refine WL.opno rfl rfl rfl rfl rfl rfl rfl ?_|refine WL.ar rfl rfl z25i ?_|refine WL.len rfl rfl rfl ?_|refine W.condT rfl ?_|refine W.condF rfl ?_)
     (first|refine (?_:W _ _ _ _ _)|refine (?_:WL _ _ _ _ _ _)|skip)
     try dsimp only [St.put,Nat.reduceAdd]
     refine W.loop (fun j:Nat=>j≤(nwS (redC s) Q[i].stops).length) (fun j=>⟨[(3,.pt 0 0 0),(5,.pt 1 0 0),(6,.ls 3 LL),(8,.sc (.int .i64 (((if N < j then NB+D else NB:Nat))))),(9,.sc (.int .i64 i)),(10,.pt 2 0 0),(11,.pt 3 0 0),(12,.sc (.int .i64 k)),(13,.sc (.int .i64 X.1)),(14,.sc (.int .i64 j))],[(0,.box 29 [.ls 3 (p.cs.map eCrs),.ls 1 (p.st.map eInt),.ls 6 EV]),(1,.box 29 [.ls 3 (p.cs.map eCrs),.ls 1 (p.st.map eInt),.ls 6 RV]),(2,.box 45 [.sc (.bool xa),.sc (.int .i64 xb),.sc (.bool xc),.sc (.bool xd),.sc (.bool ti),.ls 5 SE]),(3,.box 45 [.sc (.bool ya),.sc (.int .i64 yb),.sc (.bool yc),.sc (.bool yd),.sc (.bool ty),.ls 5 YE])],4⟩) (fun j=>(nwS (redC s) Q[i].stops).length - j) 0 zqo (zqt id) fun j hj=>?_
     by_cases hjl:j < (nwS (redC s) Q[i].stops).length
     ·obtain ⟨y,y1,g6⟩:=hYt j hjl
      have y2:=hN2 j y y1
      by_cases hjN:j=N
      ·subst hjN
       have hye:y=stH Y h:=by
        rw [hN1] at y1
        exact (Option.some.inj y1).symm
       subst hye
       have hcx:Y.1=X.1:=y2.2 rfl
       have g7:YE[((j:Nat):Int).toNat]?=some [.sc (.int .i64 Y.1),.sc (.int .i64 Y.2.1),.sc (.int .i64 Y.2.2.1),.sc (.int .i64 Y.2.2.2.1),.sc (.int .i64 h)]:=g6
       rw [if_neg (Nat.lt_irrefl j)]
       have hDv:=hD2 ()
       clear hN2 hYt g6 y1 y2 hN1 hZ hD2 g2 t1 hasc
       by_cases e2:Y.2.2.1=X.2.2.1<;>by_cases e3:Y.2.2.2.1=X.2.2.2.1<;>by_cases e4:h=X.2.2.2.2
       all_goals
        first|rw [if_pos e2] at hDv|rw [if_neg e2] at hDv
        first|rw [if_pos e3] at hDv|rw [if_neg e3] at hDv
        first|rw [if_pos e4] at hDv|rw [if_neg e4] at hDv
        first|rw [decide_eq_true e2] at t2|rw [decide_eq_false e2] at t2
        first|rw [decide_eq_true e3] at t3|rw [decide_eq_false e3] at t3
        first|rw [decide_eq_true e4] at t4|rw [decide_eq_false e4] at t4
        subst hDv
        repeat (first|refine WL.vl rfl (WV.nch rfl rfl) ?_|refine W.gob rfl ?_|refine WL.nil ?_|refine WL.bt rfl rfl rfl zqo ?_|refine WL.bf rfl rfl rfl zqo ?_|refine WL.nt rfl rfl rfl zqo ?_|refine WL.nf rfl rfl rfl zqo ?_|refine WL.e1 rfl ?_|refine WL.gyes rfl rfl rfl rfl ?_|refine WL.opno rfl rfl rfl rfl rfl rfl rfl ?_|refine WL.ar rfl rfl z25i ?_|refine WL.len rfl rfl rfl ?_|refine W.condT rfl ?_|refine W.condF rfl ?_)
        (first|refine (?_:W _ _ _ _ _)|refine (?_:WL _ _ _ _ _ _)|skip)
        try dsimp only [St.put,Nat.reduceAdd]
        refine WL.idx rfl rfl zqo g7 ?_
        repeat (first|refine WL.vl rfl (WV.nch rfl rfl) ?_|refine W.gob rfl ?_|refine WL.nil ?_|refine WL.bt rfl rfl rfl zqo ?_|refine WL.bf rfl rfl rfl zqo ?_|refine WL.nt rfl rfl rfl zqo ?_|refine WL.nf rfl rfl rfl zqo ?_|refine WL.e1 rfl ?_|refine WL.gyes rfl rfl rfl rfl ?_|refine WL.opno rfl rfl rfl rfl rfl rfl rfl ?_|refine WL.ar rfl rfl z25i ?_|refine WL.len rfl rfl rfl ?_|refine W.condT rfl ?_|refine W.condF rfl ?_)
        (first|refine (?_:W _ _ _ _ _)|refine (?_:WL _ _ _ _ _ _)|skip)
        try dsimp only [St.put,Nat.reduceAdd]
        refine W.drawK zqk zqk ?_
        repeat (first|refine DK.bt rfl rfl zqo ?_|refine DK.bf rfl rfl zqo ?_|refine DK.no rfl rfl rfl ?_|refine DK.st rfl ?_|refine DK.idx rfl rfl zqo g7 ?_|refine DK.idx rfl rfl zqo g1 ?_|refine DK.vl rfl (zqc Tryz.func21 t2) ?_|refine DK.vl rfl (zqc Tryz.func21 t3) ?_|refine DK.vl rfl (zqc Tryz.func21 t4) ?_|refine DK.nil ?_)
        repeat (first|refine WL.vl rfl (WV.nch rfl rfl) ?_|refine W.gob rfl ?_|refine WL.nil ?_|refine WL.bt rfl rfl rfl zqo ?_|refine WL.bf rfl rfl rfl zqo ?_|refine WL.nt rfl rfl rfl zqo ?_|refine WL.nf rfl rfl rfl zqo ?_|refine WL.e1 rfl ?_|refine WL.gyes rfl rfl rfl rfl ?_|refine WL.opno rfl rfl rfl rfl rfl rfl rfl ?_|refine WL.ar rfl rfl z25i ?_|refine WL.len rfl rfl rfl ?_|refine W.condT rfl ?_|refine W.condF rfl ?_)
        (first|refine (?_:W _ _ _ _ _)|refine (?_:WL _ _ _ _ _ _)|skip)
        try dsimp only [St.put,Nat.reduceAdd]
        refine W.drawK zqk zqk ?_
        repeat (first|refine DK.st rfl ?_|refine DK.idx rfl rfl zqo g7 ?_|refine DK.idx rfl rfl zqo g1 ?_|refine DK.nil ?_)
        first|rw [decide_eq_true e2]|rw [decide_eq_false e2]
        repeat (first|refine WL.vl rfl (WV.nch rfl rfl) ?_|refine W.gob rfl ?_|refine WL.nil ?_|refine WL.bt rfl rfl rfl zqo ?_|refine WL.bf rfl rfl rfl zqo ?_|refine WL.nt rfl rfl rfl zqo ?_|refine WL.nf rfl rfl rfl zqo ?_|refine WL.e1 rfl ?_|refine WL.gyes rfl rfl rfl rfl ?_|refine WL.opno rfl rfl rfl rfl rfl rfl rfl ?_|refine WL.ar rfl rfl z25i ?_|refine WL.len rfl rfl rfl ?_|refine W.condT rfl ?_|refine W.condF rfl ?_)
        (first|refine (?_:W _ _ _ _ _)|refine (?_:WL _ _ _ _ _ _)|skip)
        try dsimp only [St.put,Nat.reduceAdd]
        refine W.drawK zqk zqk ?_
        repeat (first|refine DK.st rfl ?_|refine DK.idx rfl rfl zqo g7 ?_|refine DK.idx rfl rfl zqo g1 ?_|refine DK.nil ?_)
        first|rw [decide_eq_true e3]|rw [decide_eq_false e3]
        repeat (first|refine WL.vl rfl (WV.nch rfl rfl) ?_|refine W.gob rfl ?_|refine WL.nil ?_|refine WL.bt rfl rfl rfl zqo ?_|refine WL.bf rfl rfl rfl zqo ?_|refine WL.nt rfl rfl rfl zqo ?_|refine WL.nf rfl rfl rfl zqo ?_|refine WL.e1 rfl ?_|refine WL.gyes rfl rfl rfl rfl ?_|refine WL.opno rfl rfl rfl rfl rfl rfl rfl ?_|refine WL.ar rfl rfl z25i ?_|refine WL.len rfl rfl rfl ?_|refine W.condT rfl ?_|refine W.condF rfl ?_)
        (first|refine (?_:W _ _ _ _ _)|refine (?_:WL _ _ _ _ _ _)|skip)
        try dsimp only [St.put,Nat.reduceAdd]
        refine W.drawK zqk zqk ?_
        repeat (first|refine DK.st rfl ?_|refine DK.idx rfl rfl zqo g7 ?_|refine DK.idx rfl rfl zqo g1 ?_|refine DK.nil ?_)
        first|rw [decide_eq_true e4]|rw [decide_eq_false e4]
        repeat (first|refine WL.vl rfl (WV.nch rfl rfl) ?_|refine W.gob rfl ?_|refine WL.nil ?_|refine WL.bt rfl rfl rfl zqo ?_|refine WL.bf rfl rfl rfl zqo ?_|refine WL.nt rfl rfl rfl zqo ?_|refine WL.nf rfl rfl rfl zqo ?_|refine WL.e1 rfl ?_|refine WL.gyes rfl rfl rfl rfl ?_|refine WL.opno rfl rfl rfl rfl rfl rfl rfl ?_|refine WL.ar rfl rfl z25i ?_|refine WL.len rfl rfl rfl ?_|refine W.condT rfl ?_|refine W.condF rfl ?_)
        (first|refine (?_:W _ _ _ _ _)|refine (?_:WL _ _ _ _ _ _)|skip)
        try dsimp only [St.put,Nat.reduceAdd]
        refine ⟨j+1,by omega,by omega,?_⟩
        rw [if_pos (Nat.lt_succ_self j)]
        exact (zqt id)
      ·have hne:y.1≠X.1:=fun e=>hjN (y2.1 e)
       have hv:(if N < j+1 then NB+D else NB)=(if N < j then NB+D else NB):=by
        by_cases e:N < j
        ·rw [if_pos e,if_pos (by omega)]
        ·rw [if_neg e,if_neg (by omega)]
       clear hN2 hYt y1 y2 hN1 hZ hD2 g2 t1 hasc
       obtain ⟨NV,hNV⟩:∃ z,(if N < j then NB+D else NB)=z:=⟨_,rfl⟩
       rw [hNV] at hv ⊢
       repeat (first|refine WL.vl rfl (WV.nch rfl rfl) ?_|refine W.gob rfl ?_|refine WL.nil ?_|refine WL.bt rfl rfl rfl zqo ?_|refine WL.bf rfl rfl rfl zqo ?_|refine WL.nt rfl rfl rfl zqo ?_|refine WL.nf rfl rfl rfl zqo ?_|refine WL.e1 rfl ?_|refine WL.gyes rfl rfl rfl rfl ?_|refine WL.opno rfl rfl rfl rfl rfl rfl rfl ?_|refine WL.ar rfl rfl z25i ?_|refine WL.len rfl rfl rfl ?_|refine W.condT rfl ?_|refine W.condF rfl ?_)
       (first|refine (?_:W _ _ _ _ _)|refine (?_:WL _ _ _ _ _ _)|skip)
       try dsimp only [St.put,Nat.reduceAdd]
       refine WL.idx rfl rfl zqo g6 ?_
       repeat (first|refine WL.vl rfl (WV.nch rfl rfl) ?_|refine W.gob rfl ?_|refine WL.nil ?_|refine WL.bt rfl rfl rfl zqo ?_|refine WL.bf rfl rfl rfl zqo ?_|refine WL.nt rfl rfl rfl zqo ?_|refine WL.nf rfl rfl rfl zqo ?_|refine WL.e1 rfl ?_|refine WL.gyes rfl rfl rfl rfl ?_|refine WL.opno rfl rfl rfl rfl rfl rfl rfl ?_|refine WL.ar rfl rfl z25i ?_|refine WL.len rfl rfl rfl ?_|refine W.condT rfl ?_|refine W.condF rfl ?_)
       (first|refine (?_:W _ _ _ _ _)|refine (?_:WL _ _ _ _ _ _)|skip)
       try dsimp only [St.put,Nat.reduceAdd]
       refine ⟨j+1,by omega,by omega,?_⟩
       rw [hv]
       exact (zqt id)
     ·obtain rfl:j=(nwS (redC s) Q[i].stops).length:=by omega
      rw [if_pos hNl]
      repeat (first|refine WL.vl rfl (WV.nch rfl rfl) ?_|refine W.gob rfl ?_|refine WL.nil ?_|refine WL.bt rfl rfl rfl zqo ?_|refine WL.bf rfl rfl rfl zqo ?_|refine WL.nt rfl rfl rfl zqo ?_|refine WL.nf rfl rfl rfl zqo ?_|refine WL.e1 rfl ?_|refine WL.gyes rfl rfl rfl rfl ?_|refine WL.opno rfl rfl rfl rfl rfl rfl rfl ?_|refine WL.ar rfl rfl z25i ?_|refine WL.len rfl rfl rfl ?_|refine W.condT rfl ?_|refine W.condF rfl ?_)
      (first|refine (?_:W _ _ _ _ _)|refine (?_:WL _ _ _ _ _ _)|skip)
      try dsimp only [St.put,Nat.reduceAdd]
      refine ⟨k+1,by omega,by omega,?_⟩
      rw [hnq]
      exact (zqt id)
   ·obtain rfl:k=Q[i].stops.length:=by omega
    have hq:(((lsL (redC s) H Q (i+1)).length:Nat):Int)=(((lsL (redC s) H Q i).length+((Q[i].stops.take Q[i].stops.length).flatMap (lsS (redC s) H i)).length:Nat):Int):=by rw [List.take_length];omega
    repeat (first|refine WL.vl rfl (WV.nch rfl rfl) ?_|refine W.gob rfl ?_|refine WL.nil ?_|refine WL.bt rfl rfl rfl zqo ?_|refine WL.bf rfl rfl rfl zqo ?_|refine WL.nt rfl rfl rfl zqo ?_|refine WL.nf rfl rfl rfl zqo ?_|refine WL.e1 rfl ?_|refine WL.gyes rfl rfl rfl rfl ?_|refine WL.opno rfl rfl rfl rfl rfl rfl rfl ?_|refine WL.ar rfl rfl z25i ?_|refine WL.len rfl rfl rfl ?_|refine W.condT rfl ?_|refine W.condF rfl ?_)
    (first|refine (?_:W _ _ _ _ _)|refine (?_:WL _ _ _ _ _ _)|skip)
    try dsimp only [St.put,Nat.reduceAdd]
    refine ⟨i+1,by omega,by omega,?_⟩
    rw [hq]
    exact (zqt id)
 ·obtain rfl:i=p.evs.length:=by omega
  have hll:=hLl p.evs.length zqo
  rw [hQl] at hLLl
  repeat (first|refine WL.vl rfl (WV.nch rfl rfl) ?_|refine W.gob rfl ?_|refine WL.nil ?_|refine WL.bt rfl rfl rfl zqo ?_|refine WL.bf rfl rfl rfl zqo ?_|refine WL.nt rfl rfl rfl zqo ?_|refine WL.nf rfl rfl rfl zqo ?_|refine WL.e1 rfl ?_|refine WL.gyes rfl rfl rfl rfl ?_|refine WL.opno rfl rfl rfl rfl rfl rfl rfl ?_|refine WL.ar rfl rfl z25i ?_|refine WL.len rfl rfl rfl ?_|refine W.condT rfl ?_|refine W.condF rfl ?_)
  (first|refine (?_:W _ _ _ _ _)|refine (?_:WL _ _ _ _ _ _)|skip)
  try dsimp only [St.put,Nat.reduceAdd]
  refine WL.vl rfl (zqc Tryz.func14 works04_FS) ?_
  repeat (first|refine WL.vl rfl (WV.nch rfl rfl) ?_|refine W.gob rfl ?_|refine WL.nil ?_|refine WL.bt rfl rfl rfl zqo ?_|refine WL.bf rfl rfl rfl zqo ?_|refine WL.nt rfl rfl rfl zqo ?_|refine WL.nf rfl rfl rfl zqo ?_|refine WL.e1 rfl ?_|refine WL.gyes rfl rfl rfl rfl ?_|refine WL.opno rfl rfl rfl rfl rfl rfl rfl ?_|refine WL.ar rfl rfl z25i ?_|refine WL.len rfl rfl rfl ?_|refine W.condT rfl ?_|refine W.condF rfl ?_)
  (first|refine (?_:W _ _ _ _ _)|refine (?_:WL _ _ _ _ _ _)|skip)
  try dsimp only [St.put,Nat.reduceAdd]
  exact W.ret zqr
theorem declares_walk (s:Int) (p:Pce) (v:Value) (w:World) (h:RP (fun q=>w.cell? q) (ePce p) v):Calls Tryz.prog 4 #[.int .u8 s,v] w (Ret (.bool true) w):=by
 refine (declares_FS s p w (fun q=>w.cell? q) [.int .u8 s,v] (fun _ _ h=>h) ⟨rfl,fun i av u a b=>?_⟩).mono fun e w' ⟨u,F',he,hb,_,_,_,hr⟩=>⟨?_,hb⟩
 ·match i with
  | 0=>cases a;cases b;exact .sc _
  | 1=>cases a;cases b;exact h
  | i+2=>simp at a
 ·rw [he,hr.sc_eq]
end Go.Proofs.YtaeelcfjkhfpkaaGreat
