/- The concordances of a book: Concordances of the program. -/
import Derived.Test.YtgelfflighgajaaGreatDoorCc3Pq
import Derived.Test.YtgelfflighgajaaGreatDoorTsQPq
set_option maxHeartbeats 8000000
set_option maxRecDepth 100000
set_option linter.unusedVariables false
set_option linter.unusedSimpArgs false
namespace Go.Proofs.YtgelfflighgajaaGreatDoor
section
open Go.RowKit
theorem z4o {p:Prop} (h:p:=by omega):p:=h
theorem z4k {α:Sort _} {a b:α} (h:a = b:=by kernel_rfl):a = b:=h
theorem z4i {z:Int} (h:I64 z:=by unfold I64;omega):I64 z:=h
theorem DTK.rd {P:Program} {C:Cx} {σ:St} {o:Oper} {d:Tmp} {ops:Array Oper} {rest:List Oper} {Q:Exit→St→Prop} {mem:List Bool} {Mc McB:List (Nat×AO)} {e0 nk0 k:Nat} {av:AV} (hd:wrB mem C.N k o=some d) (hs:msSub Mc σ.M) (hsB:Nat.blt k e0=true→msSub McB σ.M) (h:∀ t,(∀ q∈o.looksAt ops,look q t=look q σ.t)→WV P C o ⟨t,σ.M,σ.nk⟩ av) (K:DTK P C ops mem Mc McB e0 nk0 (k+1) rest (σ.put d av) Q):DTK P C ops mem Mc McB e0 nk0 k (o::rest) σ Q:=by
 obtain ⟨a,b,c,e⟩:=wrB_of hd
 exact DTK.of_m a b (Nat.ble_eq_true_of_le (Nat.le_refl _)) hs hsB ⟨c,fun t H=>WO.of_wv b e (h t H)⟩ K
theorem DTK.bs {P:Program} {C:Cx} {σ:St} {o:Oper} {d:Tmp} {ops:Array Oper} {rest:List Oper} {Q:Exit→St→Prop} {mem:List Bool} {Mc McB:List (Nat×AO)} {e0 nk0 k:Nat} {T:TypeId} {parts:Array (Nat×Operand)} {z:Value} {places:List (Nat×Nat)} {avs l:List AV} (hd:wrB mem C.N k o=some d) (ho:o.op=.build T parts) (hz:(P.info? T).bind (·.zero)=some z) (hpl:placesB P T=some places)
  (hx:σ.evs (parts.toList.map (·.2))=some avs) (hl:fillA places (z.cells.toList.map .sc) (pairUp parts.toList avs)=some l) (hs:msSub Mc σ.M) (hsB:Nat.blt k e0=true→msSub McB σ.M) (K:DTK P C ops mem Mc McB e0 nk0 (k+1) rest (σ.put d (.ag l)) Q):DTK P C ops mem Mc McB e0 nk0 k (o::rest) σ Q :=
 DTK.rd hd hs hsB (fun t H=>WV.build ho hz hpl ((evs_agree H fun x hx=>by rw [ho];simp only [Op.operands];simpa using hx).trans hx) hl) K
theorem insCopyO_FS (cs:List (Int×Int×Bool)) (st:List Int) (h1:cs.length≤64) (h2:st.length≤64):Cto truB 0 Tryz.prog 53 [.ag [.ls 3 (cs.map eCrs),.ls 1 (st.map eInt)]] [] 0 (.ag [.sl 0,.ls 1 (st.map eInt)])
  [(0,.row 98 3 (cs.map eCrs)),(1,.box 25 [.sl 0,.ls 1 (st.map eInt)])] 2:=by
 have hCl:(cs.map eCrs).length=cs.length:=List.length_map _
 have hSl:(st.map eInt).length=st.length:=List.length_map _
 obtain ⟨CS,hCS⟩:∃ z,cs.map eCrs=z:=⟨_,rfl⟩
 obtain ⟨ST,hST⟩:∃ z,st.map eInt=z:=⟨_,rfl⟩
 rw [hCS] at hCl ⊢
 rw [hST] at hSl ⊢
 refine Cto.intro truS Tryz.func53 rfl Tryz.ntmps53 (Nat.le_of_ble_eq_true rfl) rfl fun w0 F0 fp pg hB=>?_
 dsimp only [number,Nat.reduceAdd]
 repeat (first|refine W.go rfl ?_)
 (first|refine (?_:W _ _ _ _ _)|refine (?_:WL _ _ _ _ _ _)|skip)
 try dsimp only [St.put,Nat.reduceAdd]
 refine W.of_wa z4k ?_
 refine WA.eitherL2 [0,1,2,3,4,5,6,7,8,9] [0,1,2,3,4,5,6,7,8,9] [0,1,2,4,3,5,6,7,8,9] [0,1,2,4,3,5,6,7,8,9] 3 4 z4k z4k rfl ?_ ?_
 ·refine WA.dt [true,false,false,true,true,false,false,true,true,true] [0] [0,1] 9 z4k z4k z4k ⟨rfl,trivial⟩ ⟨rfl,rfl,trivial⟩ ?_
  refine DTK.bd rfl rfl rfl ⟨rfl,trivial⟩ (fun _=>⟨rfl,rfl,trivial⟩) ?_
  refine DTK.st rfl z4k rfl ?_
  refine DTK.st rfl z4k rfl ?_
  refine DTK.ap rfl rfl (by simp;omega) ⟨rfl,trivial⟩ (fun _=>⟨rfl,rfl,trivial⟩) ?_
  refine DTK.bd rfl rfl rfl ⟨rfl,trivial⟩ (fun _=>⟨rfl,rfl,trivial⟩) ?_
  refine DTK.st rfl z4k rfl ?_
  refine DTK.st rfl z4k rfl ?_
  refine DTK.ap rfl rfl (by simp;omega) ⟨rfl,trivial⟩ (fun _=>⟨rfl,rfl,trivial⟩) ?_
  refine DTK.bs rfl rfl rfl rfl rfl rfl ⟨rfl,trivial⟩ (fun _=>⟨rfl,rfl,trivial⟩) ?_
  refine DTK.sto rfl rfl rfl rfl rfl rfl rfl rfl rfl rfl rfl rfl rfl rfl ⟨rfl,trivial⟩ (fun h=>by cases h) ?_
  refine DTK.nil ?_
  refine W.tr (Tr.freeze 5 rfl) ?_
  dsimp only [St.freeze]
  refine W.tr (σ':=⟨[(2,.pt 1 0 0)],[(0,.row 98 3 CS),(1,.box 25 [.sl 0,.ls 1 ST])],2⟩) (zqu (fun q=>bif Nat.beq q 0 then 3 else q) (by repeat (first|exact trivial|refine ⟨⟨?_,?_,?_⟩,?_⟩|rfl|exact congrArg (fun q=>some (AO.row _ _ q)) (by first|rfl|(simp;done)|(simp [eInt];done)|(simp [eLk];done)))) rfl) ?_
  exact W.ret (finM rfl rfl rfl rfl rfl)
 ·refine WA.eitherL2 [0,1,2,3,4,5,6,7,8,9] [0,1,2,3,4,5,6,7,8,9] [1,2,3,0,4,5,6,7,8,9] [3,0,1,2,4,5,6,7,8,9] 0 3 z4k z4k rfl ?_ ?_
  ·refine WA.dt [true,false,false,true,true,false,false,true,true,true] [0] [0,1] 9 z4k z4k z4k ⟨rfl,trivial⟩ ⟨rfl,rfl,trivial⟩ ?_
   refine DTK.bd rfl rfl rfl ⟨rfl,trivial⟩ (fun _=>⟨rfl,rfl,trivial⟩) ?_
   refine DTK.st rfl z4k rfl ?_
   refine DTK.st rfl z4k rfl ?_
   refine DTK.bd rfl rfl rfl ⟨rfl,trivial⟩ (fun _=>⟨rfl,rfl,trivial⟩) ?_
   refine DTK.ap rfl rfl (by simp;omega) ⟨rfl,trivial⟩ (fun _=>⟨rfl,rfl,trivial⟩) ?_
   refine DTK.st rfl z4k rfl ?_
   refine DTK.st rfl z4k rfl ?_
   refine DTK.ap rfl rfl (by simp;omega) ⟨rfl,trivial⟩ (fun _=>⟨rfl,rfl,trivial⟩) ?_
   refine DTK.bs rfl rfl rfl rfl rfl rfl ⟨rfl,trivial⟩ (fun _=>⟨rfl,rfl,trivial⟩) ?_
   refine DTK.sto rfl rfl rfl rfl rfl rfl rfl rfl rfl rfl rfl rfl rfl rfl ⟨rfl,trivial⟩ (fun h=>by cases h) ?_
   refine DTK.nil ?_
   refine W.tr (Tr.freeze 5 rfl) ?_
   dsimp only [St.freeze]
   refine W.tr (σ':=⟨[(2,.pt 1 0 0)],[(0,.row 98 3 CS),(1,.box 25 [.sl 0,.ls 1 ST])],2⟩) (zqu (fun q=>bif Nat.beq q 0 then 4 else q) (by repeat (first|exact trivial|refine ⟨⟨?_,?_,?_⟩,?_⟩|rfl|exact congrArg (fun q=>some (AO.row _ _ q)) (by first|rfl|(simp;done)|(simp [eInt];done)|(simp [eLk];done)))) rfl) ?_
   exact W.ret (finM rfl rfl rfl rfl rfl)
  ·refine WA.dt [true,true,false,false,true,false,false,true,true,true] [0] [0,1] 9 z4k z4k z4k ⟨rfl,trivial⟩ ⟨rfl,rfl,trivial⟩ ?_
   refine DTK.bd rfl rfl rfl ⟨rfl,trivial⟩ (fun _=>⟨rfl,rfl,trivial⟩) ?_
   refine DTK.bd rfl rfl rfl ⟨rfl,trivial⟩ (fun _=>⟨rfl,rfl,trivial⟩) ?_
   refine DTK.st rfl z4k rfl ?_
   refine DTK.st rfl z4k rfl ?_
   refine DTK.ap rfl rfl (by simp;omega) ⟨rfl,trivial⟩ (fun _=>⟨rfl,rfl,trivial⟩) ?_
   refine DTK.st rfl z4k rfl ?_
   refine DTK.st rfl z4k rfl ?_
   refine DTK.ap rfl rfl (by simp;omega) ⟨rfl,trivial⟩ (fun _=>⟨rfl,rfl,trivial⟩) ?_
   refine DTK.bs rfl rfl rfl rfl rfl rfl ⟨rfl,trivial⟩ (fun _=>⟨rfl,rfl,trivial⟩) ?_
   refine DTK.sto rfl rfl rfl rfl rfl rfl rfl rfl rfl rfl rfl rfl rfl rfl ⟨rfl,trivial⟩ (fun h=>by cases h) ?_
   refine DTK.nil ?_
   refine W.tr (Tr.freeze 5 rfl) ?_
   dsimp only [St.freeze]
   refine W.tr (σ':=⟨[(2,.pt 1 0 0)],[(0,.row 98 3 CS),(1,.box 25 [.sl 0,.ls 1 ST])],2⟩) (zqu (fun q=>bif Nat.beq q 0 then 4 else q) (by repeat (first|exact trivial|refine ⟨⟨?_,?_,?_⟩,?_⟩|rfl|exact congrArg (fun q=>some (AO.row _ _ q)) (by first|rfl|(simp;done)|(simp [eInt];done)|(simp [eLk];done)))) rfl) ?_
   exact W.ret (finM rfl rfl rfl rfl rfl)
theorem rChkd_FS (cs:List (Int×Int×Bool)) (st:List Int):Ctr Tryz.prog 106 [.ag [.ls 3 (cs.map eCrs),.ls 1 (st.map eInt)]] (.tu [.ag [.ls 3 ((if insE cs st=0 then cs else []).map eCrs),.ls 1 ((if insE cs st=0 then st else []).map eInt)],.sc (.int .i64 (insE cs st))]):=by
 have hI:Ctr Tryz.prog 66 [.ag [.ls 3 (cs.map eCrs),.ls 1 (st.map eInt)]] (.sc (.int .i64 (insE cs st))):=rInsCheck_FS cs st
 by_cases h:insE cs st=0
 ·rw [if_pos h,if_pos h,h]
  rw [h] at hI
  refine Ctr.intro Tryz.func106 rfl Tryz.ntmps106 (Nat.le_of_ble_eq_true rfl) (bd_all rfl) fun w0 F0=>?_;dsimp only [St.init,number,Nat.reduceAdd]
  repeat (first|refine W.go rfl ?_|refine WL.nil ?_|refine W.condT rfl ?_|refine W.condF rfl ?_)
  (first|refine (?_:W _ _ _ _ _)|refine (?_:WL _ _ _ _ _ _)|skip)
  try dsimp only [St.put,Nat.reduceAdd]
  refine WL.vl rfl (WV.call rfl (callF Tryz.func66 rfl rfl) rfl rfl hI) ?_
  repeat (first|refine W.gob rfl ?_|refine WL.nil ?_|refine WL.nt rfl rfl rfl z4o ?_|refine WL.nf rfl rfl rfl z4o ?_|refine WL.e1 rfl ?_|refine W.condT rfl ?_|refine W.condF rfl ?_)
  (first|refine (?_:W _ _ _ _ _)|refine (?_:WL _ _ _ _ _ _)|skip)
  try dsimp only [St.put,Nat.reduceAdd]
  exact W.ret (finN rfl rfl rfl rfl)
 ·rw [if_neg h,if_neg h]
  obtain ⟨E,hE⟩:∃ z,insE cs st=z:=⟨_,rfl⟩
  rw [hE] at hI h ⊢
  refine Ctr.intro Tryz.func106 rfl Tryz.ntmps106 (Nat.le_of_ble_eq_true rfl) (bd_all rfl) fun w0 F0=>?_;dsimp only [St.init,number,Nat.reduceAdd]
  repeat (first|refine W.go rfl ?_|refine WL.nil ?_|refine W.condT rfl ?_|refine W.condF rfl ?_)
  (first|refine (?_:W _ _ _ _ _)|refine (?_:WL _ _ _ _ _ _)|skip)
  try dsimp only [St.put,Nat.reduceAdd]
  refine WL.vl rfl (WV.call rfl (callF Tryz.func66 rfl rfl) rfl rfl hI) ?_
  repeat (first|refine W.gob rfl ?_|refine WL.nil ?_|refine WL.nt rfl rfl rfl z4o ?_|refine WL.nf rfl rfl rfl z4o ?_|refine WL.e1 rfl ?_|refine W.condT rfl ?_|refine W.condF rfl ?_)
  (first|refine (?_:W _ _ _ _ _)|refine (?_:WL _ _ _ _ _ _)|skip)
  try dsimp only [St.put,Nat.reduceAdd]
  refine W.tr (Tr.nilC 1 0 3 rfl rfl rfl) ?_
  refine W.tr (Tr.nilC 1 1 1 rfl rfl rfl) ?_
  exact W.ret (finN rfl rfl rfl rfl)
theorem crs_set {cs:List (Int×Int×Bool)} {k:Nat} (h:k<cs.length)(d:Int):((trC (cs.take k) d++cs.drop k).map eCrs).set k (putL 0 [.sc (.int .i64 (cs[k].1+d))] (eCrs cs[k]))=(trC (cs.take (k+1)) d++cs.drop (k+1)).map eCrs:=by
 have e:putL 0 [.sc (.int .i64 (cs[k].1+d))] (eCrs cs[k])=eCrs (cs[k].1+d,cs[k].2):=rfl
 rw [e,← List.map_set]
 congr 1
 rw [List.drop_eq_getElem_cons h,List.take_succ_eq_append_getElem h]
 have hl:(trC (cs.take k) d).length=k:=by rw [trC_len,List.length_take];omega
 rw [List.set_append_right _ _ (by omega),hl,Nat.sub_self,List.set_cons_zero]
 unfold trC
 rw [List.map_append]
 simp
theorem trC_mid {cs:List (Int×Int×Bool)} {k:Nat} (h:k<cs.length)(d:Int):((trC (cs.take k) d++cs.drop k).map eCrs)[k]?=some (eCrs cs[k]):=by
 have hl:(trC (cs.take k) d).length=k:=by rw [trC_len,List.length_take];omega
 rw [List.getElem?_map,List.getElem?_append_right (by omega),hl,Nat.sub_self,List.drop_eq_getElem_cons h];rfl
theorem rTranspose_FS (cs:List (Int×Int×Bool)) (st:List Int) (d:Int):Ctr Tryz.prog 47 [.ag [.ls 3 (cs.map eCrs),.ls 1 (st.map eInt)],.sc (.int .i64 d)]
  (.tu [.ag [.ls 3 ((if trE cs st d=0 then trC cs d else []).map eCrs),.ls 1 ((if trE cs st d=0 then st else []).map eInt)],.sc (.int .i64 (trE cs st d))]):=by
 have hI:Ctr Tryz.prog 66 [.ag [.ls 3 (cs.map eCrs),.ls 1 (st.map eInt)]] (.sc (.int .i64 (insE cs st))):=rInsCheck_FS cs st
 by_cases h:insE cs st=0
 rotate_left
 ·have e:trE cs st d=insE cs st:=if_pos h
  rw [e,if_neg h,if_neg h]
  obtain ⟨E,hE⟩:∃ z,insE cs st=z:=⟨_,rfl⟩
  rw [hE] at hI h ⊢
  refine Ctr.intro Tryz.func47 rfl Tryz.ntmps47 (Nat.le_of_ble_eq_true rfl) (bd_all rfl) fun w0 F0=>?_;dsimp only [St.init,number,Nat.reduceAdd]
  repeat (first|refine W.go rfl ?_|refine WL.nil ?_|refine WL.gyes rfl rfl rfl rfl ?_|refine WL.opno rfl rfl rfl rfl rfl rfl rfl ?_|refine WL.ar rfl rfl z4i ?_|refine WL.len rfl rfl zql ?_|refine W.condT rfl ?_|refine W.condF rfl ?_)
  (first|refine (?_:W _ _ _ _ _)|refine (?_:WL _ _ _ _ _ _)|skip)
  try dsimp only [St.put,Nat.reduceAdd]
  refine WL.vl rfl (WV.call rfl (callF Tryz.func66 rfl rfl) rfl rfl hI) ?_
  repeat (first|refine W.gob rfl ?_|refine WL.nil ?_|refine WL.bt rfl rfl rfl z4o ?_|refine WL.bf rfl rfl rfl z4o ?_|refine WL.nt rfl rfl rfl z4o ?_|refine WL.nf rfl rfl rfl z4o ?_|refine WL.e1 rfl ?_|refine WL.gyes rfl rfl rfl rfl ?_|refine WL.opno rfl rfl rfl rfl rfl rfl rfl ?_|refine WL.ar rfl rfl z4i ?_|refine WL.len rfl rfl zql ?_|refine W.condT rfl ?_|refine W.condF rfl ?_)
  (first|refine (?_:W _ _ _ _ _)|refine (?_:WL _ _ _ _ _ _)|skip)
  try dsimp only [St.put,Nat.reduceAdd]
  refine W.tr (Tr.nilC 1 0 3 rfl rfl rfl) ?_
  refine W.tr (Tr.nilC 1 1 1 rfl rfl rfl) ?_
  exact W.ret (finN rfl rfl rfl rfl)
 rw [h] at hI
 by_cases hd:d < -127∨127 < d
 ·have e:trE cs st d=1:=by unfold trE;rw [if_neg (fun x=>x h),if_pos hd]
  rw [e,if_neg (by decide),if_neg (by decide)]
  have hd2:d < -127∨(¬ d < -127∧127 < d):=by omega
  rcases hd2 with hd2|hd2
  all_goals
   refine Ctr.intro Tryz.func47 rfl Tryz.ntmps47 (Nat.le_of_ble_eq_true rfl) (bd_all rfl) fun w0 F0=>?_;dsimp only [St.init,number,Nat.reduceAdd]
   repeat (first|refine W.go rfl ?_|refine WL.nil ?_|refine WL.gyes rfl rfl rfl rfl ?_|refine WL.opno rfl rfl rfl rfl rfl rfl rfl ?_|refine WL.ar rfl rfl z4i ?_|refine WL.len rfl rfl zql ?_|refine W.condT rfl ?_|refine W.condF rfl ?_)
   (first|refine (?_:W _ _ _ _ _)|refine (?_:WL _ _ _ _ _ _)|skip)
   try dsimp only [St.put,Nat.reduceAdd]
   refine WL.vl rfl (WV.call rfl (callF Tryz.func66 rfl rfl) rfl rfl hI) ?_
   repeat (first|refine W.gob rfl ?_|refine WL.nil ?_|refine WL.bt rfl rfl rfl z4o ?_|refine WL.bf rfl rfl rfl z4o ?_|refine WL.nt rfl rfl rfl z4o ?_|refine WL.nf rfl rfl rfl z4o ?_|refine WL.e1 rfl ?_|refine WL.gyes rfl rfl rfl rfl ?_|refine WL.opno rfl rfl rfl rfl rfl rfl rfl ?_|refine WL.ar rfl rfl z4i ?_|refine WL.len rfl rfl zql ?_|refine W.condT rfl ?_|refine W.condF rfl ?_)
   (first|refine (?_:W _ _ _ _ _)|refine (?_:WL _ _ _ _ _ _)|skip)
   try dsimp only [St.put,Nat.reduceAdd]
   refine W.tr (Tr.nilC 1 0 3 rfl rfl rfl) ?_
   refine W.tr (Tr.nilC 1 1 1 rfl rfl rfl) ?_
   exact W.ret (finN rfl rfl rfl rfl)
 have e:trE cs st d=insE (trC cs d) st:=by unfold trE;rw [if_neg (fun x=>x h),if_neg hd]
 have hK:=rChkd_FS (trC cs d) st
 rw [← e] at hK
 obtain ⟨l1,l2,l3,l4,l5⟩:=insE_len h
 have hp:=crsE_p l5
 have hCO:=insCopyO_FS cs st z4o z4o
 obtain ⟨E,hE⟩:∃ z,trE cs st d=z:=⟨_,rfl⟩
 rw [hE] at hK ⊢
 clear e hE
 obtain ⟨R1,hR1⟩:∃ z,(if E=0 then trC cs d else []).map eCrs=z:=⟨_,rfl⟩
 obtain ⟨R2,hR2⟩:∃ z,(if E=0 then st else []).map eInt=z:=⟨_,rfl⟩
 rw [hR1,hR2] at hK ⊢
 obtain ⟨ST,hST⟩:∃ z,st.map eInt=z:=⟨_,rfl⟩
 rw [hST] at hI hCO hK ⊢
 refine Ctr.intro Tryz.func47 rfl Tryz.ntmps47 (Nat.le_of_ble_eq_true rfl) (bd_all rfl) fun w0 F0=>?_;dsimp only [St.init,number,Nat.reduceAdd]
 repeat (first|refine W.go rfl ?_|refine WL.nil ?_|refine WL.gyes rfl rfl rfl rfl ?_|refine WL.opno rfl rfl rfl rfl rfl rfl rfl ?_|refine WL.ar rfl rfl z4i ?_|refine WL.len rfl rfl zql ?_|refine W.condT rfl ?_|refine W.condF rfl ?_)
 (first|refine (?_:W _ _ _ _ _)|refine (?_:WL _ _ _ _ _ _)|skip)
 try dsimp only [St.put,Nat.reduceAdd]
 refine WL.vl rfl (WV.call rfl (callF Tryz.func66 rfl rfl) rfl rfl hI) ?_
 repeat (first|refine W.gob rfl ?_|refine WL.nil ?_|refine WL.bt rfl rfl rfl z4o ?_|refine WL.bf rfl rfl rfl z4o ?_|refine WL.nt rfl rfl rfl z4o ?_|refine WL.nf rfl rfl rfl z4o ?_|refine WL.e1 rfl ?_|refine WL.gyes rfl rfl rfl rfl ?_|refine WL.opno rfl rfl rfl rfl rfl rfl rfl ?_|refine WL.ar rfl rfl z4i ?_|refine WL.len rfl rfl zql ?_|refine W.condT rfl ?_|refine W.condF rfl ?_)
 (first|refine (?_:W _ _ _ _ _)|refine (?_:WL _ _ _ _ _ _)|skip)
 try dsimp only [St.put,Nat.reduceAdd]
 refine WL.cto (truH _) [] rfl rfl (callF Tryz.func53 rfl rfl) hCO rfl rfl rfl trivial rfl rfl rfl rfl ?_
 repeat (first|refine W.gob rfl ?_|refine WL.nil ?_|refine WL.bt rfl rfl rfl z4o ?_|refine WL.bf rfl rfl rfl z4o ?_|refine WL.nt rfl rfl rfl z4o ?_|refine WL.nf rfl rfl rfl z4o ?_|refine WL.e1 rfl ?_|refine WL.gyes rfl rfl rfl rfl ?_|refine WL.opno rfl rfl rfl rfl rfl rfl rfl ?_|refine WL.ar rfl rfl z4i ?_|refine WL.len rfl rfl zql ?_|refine W.condT rfl ?_|refine W.condF rfl ?_)
 (first|refine (?_:W _ _ _ _ _)|refine (?_:WL _ _ _ _ _ _)|skip)
 try dsimp only [St.put,Nat.reduceAdd]
 refine W.loop (fun k:Nat=>k≤cs.length) (fun k=>⟨[(1,.sc (.int .i64 d)),(4,.pt 1 0 0),(7,.pt 3 0 0),(8,.sc (.int .i64 k))],[(1,.box 25 [.sc (.slice none 0 0),.sc (.slice none 0 0)]),(2,.row 98 3 ((trC (cs.take k) d++cs.drop k).map eCrs)),(3,.box 25 [.sl 2,.ls 1 ST])],4⟩) (fun k=>cs.length - k) 0 z4o (zqu (fun q=>bif Nat.beq q 3 then 4 else q) (by repeat (first|exact trivial|refine ⟨⟨?_,?_,?_⟩,?_⟩|rfl|exact congrArg (fun q=>some (AO.row _ _ q)) rfl)) rfl) fun k hk=>?_
 have hml:((trC (cs.take k) d++cs.drop k).map eCrs).length=cs.length:=by rw [List.length_map,List.length_append,trC_len,List.length_take,List.length_drop];omega
 by_cases hlt:k < cs.length
 ·have hat:=trC_mid hlt d
  have hst:=crs_set hlt d
  have hpk:=hp k hlt
  obtain ⟨x,hx⟩:∃ z,cs[k]=z:=⟨_,rfl⟩
  rw [hx] at hat hst hpk
  obtain ⟨D,hD⟩:∃ z,(trC (cs.take k) d++cs.drop k).map eCrs=z:=⟨_,rfl⟩
  rw [hD] at hml hat hst ⊢
  clear hp
  repeat (first|refine W.gob rfl ?_|refine WL.nil ?_|refine WL.bt rfl rfl rfl z4o ?_|refine WL.bf rfl rfl rfl z4o ?_|refine WL.nt rfl rfl rfl z4o ?_|refine WL.nf rfl rfl rfl z4o ?_|refine WL.e1 rfl ?_|refine WL.gyes rfl rfl rfl rfl ?_|refine WL.opno rfl rfl rfl rfl rfl rfl rfl ?_|refine WL.ar rfl rfl z4i ?_|refine WL.len rfl rfl zql ?_|refine W.condT rfl ?_|refine W.condF rfl ?_)
  (first|refine (?_:W _ _ _ _ _)|refine (?_:WL _ _ _ _ _ _)|skip)
  try dsimp only [St.put,Nat.reduceAdd]
  refine W.of_wa z4k ?_
  refine WA.dt [false,false,false,false,false,false,false,false,false,false,false,false,false,true] [1,3] [1,3,2] 13 z4k z4k z4k ⟨rfl,rfl,trivial⟩ ⟨rfl,rfl,rfl,trivial⟩ ?_
  refine DTK.st rfl z4k rfl ?_
  refine DTK.st rfl z4k rfl ?_
  refine DTK.st rfl z4k rfl ?_
  refine DTK.st rfl z4k rfl ?_
  refine DTK.st rfl z4k rfl ?_
  refine DTK.st rfl z4k rfl ?_
  refine DTK.ixs rfl z4k rfl ⟨by omega,by omega⟩ ?_
  refine DTK.st rfl z4k rfl ?_
  refine DTK.ldr rfl z4k rfl hat rfl rfl ?_
  refine DTK.st rfl z4k rfl ?_
  refine DTK.ar rfl z4k rfl z4i ?_
  refine DTK.ixs rfl z4k rfl ⟨by omega,by omega⟩ ?_
  refine DTK.st rfl z4k rfl ?_
  refine DTK.sto rfl rfl rfl rfl rfl rfl rfl rfl rfl rfl rfl rfl (put_row hat (by show 0+1≤3;omega) rfl) rfl ⟨rfl,rfl,trivial⟩ (fun h=>by cases h) ?_
  refine DTK.nil ?_
  repeat (first|refine W.gob rfl ?_|refine WL.nil ?_|refine WL.bt rfl rfl rfl z4o ?_|refine WL.bf rfl rfl rfl z4o ?_|refine WL.nt rfl rfl rfl z4o ?_|refine WL.nf rfl rfl rfl z4o ?_|refine WL.e1 rfl ?_|refine WL.gyes rfl rfl rfl rfl ?_|refine WL.opno rfl rfl rfl rfl rfl rfl rfl ?_|refine WL.ar rfl rfl z4i ?_|refine WL.len rfl rfl zql ?_|refine W.condT rfl ?_|refine W.condF rfl ?_)
  (first|refine (?_:W _ _ _ _ _)|refine (?_:WL _ _ _ _ _ _)|skip)
  try dsimp only [St.put,Nat.reduceAdd]
  exact ⟨k+1,by omega,by omega,(zqu (fun q=>q) (by repeat (first|exact trivial|refine ⟨⟨?_,?_,?_⟩,?_⟩|rfl|exact congrArg (fun q=>some (AO.row _ _ q)) hst)) rfl)⟩
 ·obtain rfl:k=cs.length:=by omega
  rw [List.take_length,List.drop_length,List.append_nil] at hml ⊢
  have htl:=trC_len cs d
  repeat (first|refine W.gob rfl ?_|refine WL.nil ?_|refine WL.bt rfl rfl rfl z4o ?_|refine WL.bf rfl rfl rfl z4o ?_|refine WL.nt rfl rfl rfl z4o ?_|refine WL.nf rfl rfl rfl z4o ?_|refine WL.e1 rfl ?_|refine WL.gyes rfl rfl rfl rfl ?_|refine WL.opno rfl rfl rfl rfl rfl rfl rfl ?_|refine WL.ar rfl rfl z4i ?_|refine WL.len rfl rfl zql ?_|refine W.condT rfl ?_|refine W.condF rfl ?_)
  (first|refine (?_:W _ _ _ _ _)|refine (?_:WL _ _ _ _ _ _)|skip)
  try dsimp only [St.put,Nat.reduceAdd]
  first|refine W.tr (Tr.freeze 2 rfl) ?_|refine WL.tr (Tr.freeze 2 rfl) ?_
  dsimp only [St.freeze]
  repeat (first|refine W.gob rfl ?_|refine WL.nil ?_|refine WL.bt rfl rfl rfl z4o ?_|refine WL.bf rfl rfl rfl z4o ?_|refine WL.nt rfl rfl rfl z4o ?_|refine WL.nf rfl rfl rfl z4o ?_|refine WL.e1 rfl ?_|refine WL.gyes rfl rfl rfl rfl ?_|refine WL.opno rfl rfl rfl rfl rfl rfl rfl ?_|refine WL.ar rfl rfl z4i ?_|refine WL.len rfl rfl zql ?_|refine W.condT rfl ?_|refine W.condF rfl ?_)
  (first|refine (?_:W _ _ _ _ _)|refine (?_:WL _ _ _ _ _ _)|skip)
  try dsimp only [St.put,Nat.reduceAdd]
  refine WL.vl rfl (WV.call rfl (callF Tryz.func106 rfl rfl) rfl rfl hK) ?_
  repeat (first|refine W.gob rfl ?_|refine WL.nil ?_|refine WL.bt rfl rfl rfl z4o ?_|refine WL.bf rfl rfl rfl z4o ?_|refine WL.nt rfl rfl rfl z4o ?_|refine WL.nf rfl rfl rfl z4o ?_|refine WL.e1 rfl ?_|refine WL.gyes rfl rfl rfl rfl ?_|refine WL.opno rfl rfl rfl rfl rfl rfl rfl ?_|refine WL.ar rfl rfl z4i ?_|refine WL.len rfl rfl zql ?_|refine W.condT rfl ?_|refine W.condF rfl ?_)
  (first|refine (?_:W _ _ _ _ _)|refine (?_:WL _ _ _ _ _ _)|skip)
  try dsimp only [St.put,Nat.reduceAdd]
  exact W.ret (finN rfl rfl rfl rfl)
end
section
open Go.RowKit
theorem con2_FS (a b:Rw):Ctr Tryz.prog 101 [.ag (eRw a),.ag (eRw b)] (.sc (.int .i64 (cmN a b))):=by
 have hE:=cmpZ_FS a.1 b.1
 refine Ctr.intro Tryz.func101 rfl Tryz.ntmps101 (Nat.le_of_ble_eq_true rfl) (bd_all rfl) fun w0 F0=>?_;dsimp only [St.init,number,Nat.reduceAdd]
 repeat refine W.go rfl ?_
 refine (?_:WL _ _ _ _ _ _)
 refine WL.vl rfl (WV.call rfl (callF Tryz.func102 rfl rfl) rfl rfl hE) ?_
 repeat refine WL.ev rfl ?_
 refine (?_:W _ _ _ _ _)
 exact W.ret (fin1 rfl rfl rfl rfl)
def posR (M:List Rw)(r:Rw):Int:=((M.findIdx fun y=>decide (y.1=r.1):Nat):Int)
theorem posR_asc {M:List Rw} (h:Dis (fun r:Rw=>r.1) M):Asc (posR M) M:=by
 have hp:=List.pairwise_iff_getElem.1 h
 have key:∀ i (hi:i<M.length),posR M M[i]=i:=fun i hi=>by
  unfold posR
  congr 1
  rw [List.findIdx_eq hi]
  refine⟨decide_eq_true rfl,fun j hj=>decide_eq_false fun e=>?_⟩
  exact hp j i z4o hi hj e
 rw [Asc,List.pairwise_iff_getElem]
 intro i j hi hj hij
 rw [key i hi,key j hj];omega
theorem srtN (b:List En) (n:Int):srt cmN (posR ((srt cmR (fun r:Rw=>r.1) (rwK b n b.length)).filter (lng n))) ((srt cmR (fun r:Rw=>r.1) (rwK b n b.length)).filter (lng n))=rwL b n b.length ∧
  Asc (posR ((srt cmR (fun r:Rw=>r.1) (rwK b n b.length)).filter (lng n))) ((srt cmR (fun r:Rw=>r.1) (rwK b n b.length)).filter (lng n)):=by
 have hp:(rwL b n b.length).Perm ((srt cmR (fun r:Rw=>r.1) (rwK b n b.length)).filter (lng n)):=(List.Perm.filter (lng n) (srt_perm (rwK b n b.length))).symm
 have hd0:Dis (fun r:Rw=>r.1) (rwL b n b.length):=Asc.dis ((rwK_asc b n b.length).sublist List.filter_sublist)
 have ha:=posR_asc (hd0.perm hp.symm)
 refine ⟨(srt_uniq cmN_ok ha.dis hp ?_).symm,ha⟩
 refine ((rwK_asc b n b.length).sublist List.filter_sublist).imp fun {x y} hxy=>le_lt ?_
 have hxy:x.1 < y.1:=hxy
 unfold cmN
 have:=cmpZ_b x.1 y.1
 omega
def eIL (g:List Int):List AV:=[.ls 1 (g.map eInt)]
theorem pConc_FS (b:List En) (hB:BkOk b) (n:Int):Ctr Tryz.prog 45 [eBk b,.sc (.int .i64 n)] (.tu [.ls 1 ((conL b n).map eIL),.sc (.int .i64 (ixE b n))]):=by
 by_cases h:ixE b n=0
 rotate_left
 ·have hI:=pIndex_no b hB n h
  rw [show conL b n=[] from if_neg h]
  obtain ⟨E,hE⟩:∃ z,ixE b n=z:=⟨_,rfl⟩
  rw [hE] at h hI ⊢
  refine Ctr.intro Tryz.func45 rfl Tryz.ntmps45 (Nat.le_of_ble_eq_true rfl) (bd_all rfl) fun w0 F0=>?_;dsimp only [St.init,number,Nat.reduceAdd]
  repeat refine W.go rfl ?_
  refine (?_:WL _ _ _ _ _ _)
  refine WL.vl rfl (WV.call rfl (callF Tryz.func42 rfl rfl) rfl rfl hI) ?_
  repeat (first|refine W.gob rfl ?_|refine WL.nil ?_|refine WL.nt rfl rfl rfl z4o ?_|refine WL.e1 rfl ?_|refine W.condT rfl ?_)
  refine (?_:W _ _ _ _ _)
  refine W.tr (Tr.nilR (t:=4) 1 rfl) ?_
  exact W.ret (finN rfl rfl rfl rfl)
 have hBn:=hB.n
 have h0:bkE b=0:=Classical.byContradiction fun h0=>h0 ((ix_1 (n:=n) h0).1.symm.trans h)
 have hn:¬ (n < 1∨16 < n):=fun hn=>by have:=(ix_2 h0 hn).1;omega
 have hI:=pIndexO_FS b hB n h0 hn
 rw [show conL b n=cnc (rwL b n b.length) from if_pos h,h]
 obtain ⟨hs1,hs2⟩:=srtN b n
 have hkl:=rwK_len (b:=b) (n:=n) (Nat.le_refl _)
 have hSl:=srt_len (cm:=cmR) (en:=fun r:Rw=>r.1) (rwK b n b.length)
 have hLl:(rwL b n b.length).length≤b.length:=by
  have:=List.length_filter_le (lng n) (rwK b n b.length)
  unfold rwL;omega
 obtain ⟨S,hS⟩:∃ z,srt cmR (fun r:Rw=>r.1) (rwK b n b.length)=z:=⟨_,rfl⟩
 rw [hS] at hI hs1 hs2 hSl
 have hD:=dlR_G S n z4o
 have hFl:=List.length_filter_le (lng n) S
 obtain ⟨M,hM⟩:∃ z,S.filter (lng n)=z:=⟨_,rfl⟩
 rw [hM] at hs1 hs2 hD hFl
 have hT:=srtr_G cmN_ok (callF Tryz.func101 rfl rfl) con2_FS M z4o hs2
 rw [hs1] at hT
 obtain ⟨L,hL⟩:∃ z,rwL b n b.length=z:=⟨_,rfl⟩
 rw [hL] at hT hLl ⊢
 have hG:=groups_FS L z4o
 have hgg:∀ g∈(cnG L).filter two,g.length≤L.length:=fun g hg=>by
  obtain ⟨r,_,rfl⟩:=List.mem_map.1 (List.mem_filter.1 hg).1
  exact grp_len L r
 have hGn:((cnG L).filter two).length≤L.length:=by
  have:=List.length_filter_le two (cnG L)
  have:=cnG_len L
  have:=fsT_len L
  omega
 have hcc:cnc L=((cnG L).filter two).map ens:=rfl
 rw [hcc]
 obtain ⟨Gs,hGs⟩:∃ z,(cnG L).filter two=z:=⟨_,rfl⟩
 rw [hGs] at hG hgg hGn ⊢
 have hGl:(Gs.map eGr).length=Gs.length:=List.length_map _
 have hGa:∀ k (h:k < Gs.length),(Gs.map eGr)[((k:Nat):Int).toNat]?=some [.ls 2 (Gs[k].map eRw)]:=fun k h=>map_at h
 obtain ⟨GR,hGR⟩:∃ z,Gs.map eGr=z:=⟨_,rfl⟩
 rw [hGR] at hG hGl hGa
 refine Ctr.intro Tryz.func45 rfl Tryz.ntmps45 (Nat.le_of_ble_eq_true rfl) (bd_all rfl) fun w0 F0=>?_;dsimp only [St.init,number,Nat.reduceAdd]
 repeat refine W.go rfl ?_
 refine (?_:WL _ _ _ _ _ _)
 refine WL.cto (truH _) [] rfl rfl (callF Tryz.func42 rfl rfl) hI rfl rfl rfl trivial rfl rfl rfl rfl ?_
 repeat (first|refine W.gob rfl ?_|refine WL.nil ?_|refine WL.nf rfl rfl rfl z4o ?_|refine WL.e1 rfl ?_|refine W.condF rfl ?_)
 refine (?_:WL _ _ _ _ _ _)
 refine WL.vl rfl (WV.mkf rfl rfl) ?_
 refine (?_:WL _ _ _ _ _ _)
 refine WL.cto (truH _) [2,1] rfl rfl (callF Tryz.func99 rfl rfl) hD rfl rfl rfl ⟨⟨rfl,rfl,rfl⟩,⟨rfl,rfl,rfl⟩,trivial⟩ rfl rfl rfl rfl ?_
 repeat (first|refine W.gob rfl ?_|refine WL.nil ?_|refine WL.e1 rfl ?_)
 refine (?_:WL _ _ _ _ _ _)
 refine WL.cto (truH _) [3] rfl rfl (callF Tryz.func96 rfl rfl) hT rfl rfl rfl ⟨⟨rfl,rfl,rfl⟩,trivial⟩ rfl rfl rfl rfl ?_
 repeat (first|refine W.gob rfl ?_|refine WL.nil ?_|refine WL.e1 rfl ?_)
 refine (?_:WL _ _ _ _ _ _)
 first|refine W.tr (Tr.nil (t:=8) 23 1 rfl rfl) ?_|refine WL.tr (Tr.nil (t:=8) 23 1 rfl rfl) ?_
 dsimp only [St.put,St.new,St.upd,Nat.reduceAdd]
 first|refine W.tr (Tr.freeze 3 rfl) ?_|refine WL.tr (Tr.freeze 3 rfl) ?_
 dsimp only [St.freeze]
 refine (?_:WL _ _ _ _ _ _)
 refine WL.vl rfl (WV.call rfl (callF Tryz.func103 rfl rfl) rfl rfl hG) ?_
 repeat (first|refine W.gob rfl ?_|refine WL.nil ?_|refine WL.e1 rfl ?_|refine WL.len rfl rfl zql ?_)
 refine (?_:W _ _ _ _ _)
 refine W.loop (fun k:Nat=>k≤Gs.length) (fun k=>⟨[(8,.sl 0),(30,.ls 1 GR),(31,.sc (.int .i64 GR.length)),(32,.sc (.int .i64 k))],[(0,.row 23 1 (((Gs.take k).map ens).map eIL))],1⟩) (fun k=>Gs.length - k) 0 z4o (zqu (fun q=>bif Nat.beq q 0 then 4 else q) (by repeat (first|exact trivial|refine ⟨⟨?_,?_,?_⟩,?_⟩|rfl|exact congrArg (fun q=>some (AO.row _ _ q)) rfl)) rfl) fun k hk=>?_
 by_cases hlt:k < Gs.length
 rotate_left
 ·obtain rfl:k=Gs.length:=by omega
  rw [List.take_length]
  clear hGa hgg
  repeat (first|refine W.gob rfl ?_|refine WL.nil ?_|refine WL.bf rfl rfl rfl z4o ?_|refine WL.e1 rfl ?_|refine W.condF rfl ?_)
  refine (?_:W _ _ _ _ _)
  refine W.tr (Tr.freeze 0 rfl) ?_
  exact W.ret (finN rfl rfl rfl rfl)
 have hat:=hGa k hlt
 have hgl:=hgg _ (List.getElem_mem hlt)
 have hts:(Gs.take (k+1)).map ens=(Gs.take k).map ens++[ens Gs[k]]:=by rw [List.take_succ_eq_append_getElem hlt,List.map_append];rfl
 have hkl2:(((Gs.take k).map ens).map eIL).length=k:=by simp;omega
 obtain ⟨g,hg⟩:∃ z,Gs[k]=z:=⟨_,rfl⟩
 rw [hg] at hat hgl hts
 have hmm:((Gs.take k).map ens).map eIL++[[.ls 1 ((ens g).map eInt)]]=((Gs.take (k+1)).map ens).map eIL:=by rw [hts,List.map_append];rfl
 have hrl:(g.map eRw).length=g.length:=List.length_map _
 have hra:∀ j (h:j < g.length),(g.map eRw)[((j:Nat):Int).toNat]?=some [.sc (.int .i64 g[j].1),.ls 1 (g[j].2.map eInt)]:=fun j h=>map_at h
 obtain ⟨RG,hRG⟩:∃ z,g.map eRw=z:=⟨_,rfl⟩
 rw [hRG] at hat hrl hra
 clear hGa hgg hts
 repeat (first|refine W.gob rfl ?_|refine WL.nil ?_|refine WL.bt rfl rfl rfl z4o ?_|refine W.condT rfl ?_)
 refine (?_:WL _ _ _ _ _ _)
 refine WL.idx rfl rfl z4o hat ?_
 repeat (first|refine W.gob rfl ?_|refine WL.nil ?_|refine WL.e1 rfl ?_|refine WL.len rfl rfl zql ?_)
 refine (?_:W _ _ _ _ _)
 first|refine W.tr (Tr.nil (t:=11) 3 1 rfl rfl) ?_|refine WL.tr (Tr.nil (t:=11) 3 1 rfl rfl) ?_
 dsimp only [St.put,St.new,St.upd,Nat.reduceAdd]
 refine (?_:W _ _ _ _ _)
 refine W.loop (fun j:Nat=>j≤g.length) (fun j=>⟨[(8,.sl 0),(30,.ls 1 GR),(31,.sc (.int .i64 GR.length)),(32,.sc (.int .i64 k)),(11,.sl 1),(36,.ls 2 RG),(37,.sc (.int .i64 RG.length)),(38,.sc (.int .i64 j))],[(0,.row 23 1 (((Gs.take k).map ens).map eIL)),(1,.row 3 1 ((ens (g.take j)).map eInt))],2⟩) (fun j=>g.length - j) 0 z4o (zqu (fun q=>q) (by repeat (first|exact trivial|refine ⟨⟨?_,?_,?_⟩,?_⟩|rfl|exact congrArg (fun q=>some (AO.row _ _ q)) rfl)) rfl) fun j hj=>?_
 by_cases hjt:j < g.length
 ·have hr:=hra j hjt
  have htk:(ens (g.take j)).map eInt++[[.sc (.int .i64 g[j].1)]]=(ens (g.take (j+1))).map eInt:=by
   rw [List.take_succ_eq_append_getElem hjt]
   unfold ens
   rw [List.map_append,List.map_append];rfl
  have hjl2:(ens (g.take j)).length=j:=by unfold ens;simp;omega
  have hjl:((ens (g.take j)).map eInt).length=j:=by rw [List.length_map];exact hjl2
  clear hra
  repeat (first|refine W.gob rfl ?_|refine WL.nil ?_|refine WL.bt rfl rfl rfl z4o ?_|refine W.condT rfl ?_)
  refine (?_:WL _ _ _ _ _ _)
  refine WL.idx rfl rfl z4o hr ?_
  repeat (first|refine W.gob rfl ?_|refine WL.nil ?_|refine WL.e1 rfl ?_|refine WL.ar rfl rfl z4i ?_|refine WL.app rfl rfl rfl (by first|omega|(simp;done)|(simp;omega)) ?_)
  exact ⟨j+1,by omega,by omega,(zqu (fun q=>bif Nat.beq q 1 then 4 else q) (by repeat (first|exact trivial|refine ⟨⟨?_,?_,?_⟩,?_⟩|rfl|exact congrArg (fun q=>some (AO.row _ _ q)) htk)) rfl)⟩
 ·obtain rfl:j=g.length:=by omega
  rw [List.take_length]
  clear hra
  repeat (first|refine W.gob rfl ?_|refine WL.nil ?_|refine WL.bf rfl rfl rfl z4o ?_|refine WL.e1 rfl ?_|refine W.condF rfl ?_)
  refine (?_:WL _ _ _ _ _ _)
  first|refine W.tr (Tr.freeze 1 rfl) ?_|refine WL.tr (Tr.freeze 1 rfl) ?_
  dsimp only [St.freeze]
  repeat (first|refine W.gob rfl ?_|refine WL.nil ?_|refine WL.e1 rfl ?_|refine WL.ar rfl rfl z4i ?_|refine WL.app rfl rfl rfl (by first|omega|(simp;done)|(simp;omega)) ?_)
  exact ⟨k+1,by omega,by omega,(zqu (fun q=>bif Nat.beq q 0 then 3 else q) (by repeat (first|exact trivial|refine ⟨⟨?_,?_,?_⟩,?_⟩|rfl|exact congrArg (fun q=>some (AO.row _ _ q)) hmm)) rfl)⟩
end
end Go.Proofs.YtgelfflighgajaaGreatDoor
