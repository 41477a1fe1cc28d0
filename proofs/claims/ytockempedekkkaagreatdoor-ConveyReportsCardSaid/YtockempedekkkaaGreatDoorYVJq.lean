/- What the program finds lost (losses). -/
import Derived.Test.YtockempedekkkaaGreatDoorYFJq
set_option maxHeartbeats 8000000
set_option maxRecDepth 100000
set_option linter.unusedVariables false
set_option linter.unusedSimpArgs false
namespace Go.Proofs.YtockempedekkkaaGreatDoor
open Go.RowKit
theorem z52i {z:Int} (h:I64 z:=by unfold I64;omega):I64 z:=h
theorem loss1_FS (x:Stp) (r:Nte):Ctr Tryz.prog 99 [.ag (eStp x),.pr (eNt r)] (.sc (.bool (x.1 == r.1.1))):=by
 refine zqe Tryz.func99 Tryz.ntmps99 fun w0 F0=>?_;dsimp only [St.init,number,Nat.reduceAdd]
 repeat (first|refine W.go rfl ?_)
 (first|refine (?_:W _ _ _ _ _)|refine (?_:WL _ _ _ _ _ _)|skip)
 try dsimp only [St.put,Nat.reduceAdd]
 refine W.ret (fin1 rfl rfl (sc_bool ?_) rfl)
 rfl
theorem idxC_FS (l:List Stp) (r:Nte) (hl:l.length≤100000):Ctr Tryz.prog 69 [.ls 5 (l.map eStp),.fn 99 [.pr (eNt r)]] (.sc (.int .i64 (ixB (fun x:Stp=>x.1 == r.1.1) l))):=by
 refine zqe Tryz.func69 Tryz.ntmps69 fun w0 F0=>?_;dsimp only [St.init,number,Nat.reduceAdd]
 repeat (first|refine W.go rfl ?_|refine WL.nil ?_|refine WL.ev rfl ?_|refine WL.ar rfl rfl z52i ?_|refine WL.len rfl rfl zql ?_|refine WL.idx rfl rfl zqo zqm ?_|refine W.condT rfl ?_|refine W.condF rfl ?_)
 (first|refine (?_:W _ _ _ _ _)|refine (?_:WL _ _ _ _ _ _)|skip)
 try dsimp only [St.put,Nat.reduceAdd]
 refine W.loop (fun k:Nat=>k≤l.length∧∀ i (hi:i < k) (h:i < l.length),(l[i].1 == r.1.1)=false) (fun k=>⟨[(0,.ls 5 (l.map eStp)),(1,.fn 99 [.pr (eNt r)]),(7,.sc (.int .i64 l.length)),(8,.sc (.int .i64 k))],[],0⟩) (fun k=>l.length - k) 0 ⟨by omega,fun i hi=>by omega⟩ (zqt id) fun k hk=>?_
 obtain ⟨hk,hno⟩:=hk
 by_cases hlt:k < l.length
 ·repeat (first|refine W.gob rfl ?_|refine WL.nil ?_|refine WL.bt rfl rfl rfl zqo ?_|refine WL.bf rfl rfl rfl zqo ?_|refine WL.e1 rfl ?_|refine WL.ar rfl rfl z52i ?_|refine WL.len rfl rfl zql ?_|refine WL.idx rfl rfl zqo zqm ?_|refine W.condT rfl ?_|refine W.condF rfl ?_)
  (first|refine (?_:W _ _ _ _ _)|refine (?_:WL _ _ _ _ _ _)|skip)
  try dsimp only [St.put,Nat.reduceAdd]
  refine WL.vl rfl (WV.callV (truH _) rfl (callF Tryz.func99 rfl rfl) rfl rfl rfl rfl rfl (loss1_FS l[k] r).g) ?_
  cases he:l[k].1 == r.1.1 with
  | true =>
   rw [ixB_at (t:=fun x:Stp=>x.1 == r.1.1) hlt he fun i hi=>hno i hi (by omega)]
   repeat (first|refine W.gob rfl ?_|refine WL.nil ?_|refine WL.bt rfl rfl rfl zqo ?_|refine WL.bf rfl rfl rfl zqo ?_|refine WL.e1 rfl ?_|refine WL.ar rfl rfl z52i ?_|refine WL.len rfl rfl zql ?_|refine WL.idx rfl rfl zqo zqm ?_|refine W.condT rfl ?_|refine W.condF rfl ?_)
   (first|refine (?_:W _ _ _ _ _)|refine (?_:WL _ _ _ _ _ _)|skip)
   try dsimp only [St.put,Nat.reduceAdd]
   exact W.ret zqr
  | false =>
   repeat (first|refine W.gob rfl ?_|refine WL.nil ?_|refine WL.bt rfl rfl rfl zqo ?_|refine WL.bf rfl rfl rfl zqo ?_|refine WL.e1 rfl ?_|refine WL.ar rfl rfl z52i ?_|refine WL.len rfl rfl zql ?_|refine WL.idx rfl rfl zqo zqm ?_|refine W.condT rfl ?_|refine W.condF rfl ?_)
   (first|refine (?_:W _ _ _ _ _)|refine (?_:WL _ _ _ _ _ _)|skip)
   try dsimp only [St.put,Nat.reduceAdd]
   exact ⟨k+1,⟨by omega,fun i hi h=>by
    by_cases e:i=k
    ·subst e;exact he
    ·exact hno i zqo h⟩,by omega,(zqt id)⟩
 ·rw [ixB_no (t:=fun x:Stp=>x.1 == r.1.1) fun i hi=>hno i (by omega) hi]
  repeat (first|refine W.gob rfl ?_|refine WL.nil ?_|refine WL.bt rfl rfl rfl zqo ?_|refine WL.bf rfl rfl rfl zqo ?_|refine WL.e1 rfl ?_|refine WL.ar rfl rfl z52i ?_|refine WL.len rfl rfl zql ?_|refine WL.idx rfl rfl zqo zqm ?_|refine W.condT rfl ?_|refine W.condF rfl ?_)
  (first|refine (?_:W _ _ _ _ _)|refine (?_:WL _ _ _ _ _ _)|skip)
  try dsimp only [St.put,Nat.reduceAdd]
  exact W.ret zqr
def ocA (C:Cg)(evs:List Ev):List (Int×List Nte×List Bool):=evs.mapIdx fun i e=>(evT C i e,ocN C e.stops,ocG C e.stops)
def eOcR(o:Int×List Nte×List Bool):List AV:=eOc o.1 o.2.1 o.2.2
theorem ocA_len(C:Cg)(evs:List Ev):(ocA C evs).length=evs.length:=List.length_mapIdx
theorem ocA_at {C:Cg} {evs:List Ev} {k:Nat} (h:k<evs.length):((ocA C evs).map eOcR)[((k:Nat):Int).toNat]?=some [.sc (.int .i64 (evT C k evs[k])),.ls 8 ((ocN C evs[k].stops).map eNt),.ls 1 ((ocG C evs[k].stops).map eBl)]:=by
 rw [Int.toNat_natCast,List.getElem?_map,List.getElem?_eq_getElem (by rw [ocA_len];exact h)]
 simp only [ocA,List.getElem_mapIdx]
 rfl
theorem ix_found {C:Cg} {f:Stp→Int} {l:List Stp} (ha:l.Pairwise fun x y=>x.1<y.1) (hcr:∀ x y,C.mv x=some y→y.1=x.1∧y.2.2.2.2=x.2.2.2.2) {x y:Stp} (hx:x∈l) (hy:C.mv x=some y) :
  ∃ m,∃ h:m<((nwS C l).map fun z=>stH z (f z)).length,ixB (fun z:Stp=>z.1 == y.1) ((nwS C l).map fun z=>stH z (f z))=(m:Int)∧((nwS C l).map fun z=>stH z (f z))[m]=stH y (f y):=by
 have hm:y∈nwS C l:=List.mem_filterMap.2 ⟨x,hx,hy⟩
 obtain ⟨m,h,rfl⟩:=List.getElem_of_mem hm
 have hA:=nwS_asc hcr ha
 have hM:=map_stH_asc (f:=f) hA
 refine ⟨m,by rw [List.length_map];exact h,?_,by rw [List.getElem_map]⟩
 refine ixB_at (by rw [List.length_map];exact h) (by rw [List.getElem_map];show ((nwS C l)[m].1 == (nwS C l)[m].1)=true;simp) fun i hi=>?_
 rw [List.getElem_map]
 have:=List.pairwise_iff_getElem.1 hA i m (by omega) h hi
 show ((nwS C l)[i].1 == (nwS C l)[m].1)=false
 simp;omega
theorem lsF_snoc {C:Cg} {H:Nat→Stp→Int} {i:Nat} {l:List Stp} {k:Nat} (h:k<l.length):(l.take (k+1)).flatMap (lsS C H i)=(l.take k).flatMap (lsS C H i)++lsS C H i l[k]:=by
 rw [List.take_succ_eq_append_getElem h,List.flatMap_append];simp
theorem yLoss_FS (C:Cg) (H:Nat→Stp→Int) (evs:List Ev) (cs:List (Int×Int×Bool)) (st:List Int) (hn:evs.length≤420) (h20:∀ e∈evs,e.stops.length≤20) (hml:∀ y,(C.ml y).length≤2) (hcr:∀ x y,C.mv x=some y→y.1=x.1∧y.2.2.2.2=x.2.2.2.2)
  (ha:∀ e∈evs,e.stops.Pairwise fun x y=>x.1 < y.1):Ctr Tryz.prog 71 [ePce ⟨cs,st,fnL H (nwL C evs)⟩,.ls 3 ((ocA C evs).map eOcR)] (.ls 3 ((lsL C H evs evs.length).map eLk)):=by
 have hAl:((ocA C evs).map eOcR).length=evs.length:=by rw [List.length_map,ocA_len]
 have hAa:=fun k (h:k < evs.length)=>ocA_at (C:=C) h
 obtain ⟨ALL,hALL⟩:∃ z,(ocA C evs).map eOcR=z:=⟨_,rfl⟩
 rw [hALL] at hAl hAa ⊢
 clear hALL
 have hFl:((fnL H (nwL C evs)).map eEv).length=evs.length:=by rw [List.length_map,fnL_len,nwL_len]
 have hFa:∀ k (h:k < evs.length),((fnL H (nwL C evs)).map eEv)[((k:Nat):Int).toNat]?=some (eEv (fnE H k (nwE C k evs[k]))):=fun k h=>by
  rw [Int.toNat_natCast,List.getElem?_map,List.getElem?_eq_getElem (by rw [fnL_len,nwL_len];exact h),fnL_get (by rw [nwL_len];exact h),nwL_get h];rfl
 show Ctr Tryz.prog 71 [.ag [.ls 3 (cs.map eCrs),.ls 1 (st.map eInt),.ls 6 ((fnL H (nwL C evs)).map eEv)],.ls 3 ALL] _
 obtain ⟨FF,hFF⟩:∃ z,(fnL H (nwL C evs)).map eEv=z:=⟨_,rfl⟩
 rw [hFF] at hFl hFa ⊢
 clear hFF
 refine zqe Tryz.func71 Tryz.ntmps71 fun w0 F0=>?_;dsimp only [St.init,number,Nat.reduceAdd]
 repeat (first|refine W.go rfl ?_|refine WL.nil ?_|refine WL.ev rfl ?_|refine WL.ar rfl rfl z52i ?_|refine WL.len rfl rfl zql ?_|refine WL.idx rfl rfl zqo zqm ?_|refine WL.app rfl rfl rfl zqs ?_|refine W.condT rfl ?_|refine W.condF rfl ?_)
 (first|refine (?_:W _ _ _ _ _)|refine (?_:WL _ _ _ _ _ _)|skip)
 try dsimp only [St.put,Nat.reduceAdd]
 refine W.tr (Tr.nil (t:=5) 53 3 rfl rfl) ?_
 dsimp only [St.put,St.new,St.upd,Nat.reduceAdd]
 repeat (first|refine W.go rfl ?_|refine WL.nil ?_|refine WL.ev rfl ?_|refine WL.ar rfl rfl z52i ?_|refine WL.len rfl rfl zql ?_|refine WL.idx rfl rfl zqo zqm ?_|refine WL.app rfl rfl rfl zqs ?_|refine W.condT rfl ?_|refine W.condF rfl ?_)
 (first|refine (?_:W _ _ _ _ _)|refine (?_:WL _ _ _ _ _ _)|skip)
 try dsimp only [St.put,Nat.reduceAdd]
 refine W.loop (fun k:Nat=>k≤evs.length) (fun k=>⟨[(2,.pt 0 0 0),(5,.sl 1),(13,.ls 3 ALL),(14,.sc (.int .i64 ALL.length)),(15,.sc (.int .i64 k))],[(0,.box 47 [.ls 3 (cs.map eCrs),.ls 1 (st.map eInt),.ls 6 FF]),(1,.row 53 3 ((lsL C H evs k).map eLk))],2⟩) (fun k=>evs.length - k) 0 zqo (zqt id) fun i hi=>?_
 by_cases hlt:i < evs.length
 rotate_left
 ·obtain rfl:i=evs.length:=by omega
  repeat (first|refine W.gob rfl ?_|refine WL.nil ?_|refine WL.bt rfl rfl rfl zqo ?_|refine WL.bf rfl rfl rfl zqo ?_|refine WL.e1 rfl ?_|refine WL.ar rfl rfl z52i ?_|refine WL.len rfl rfl zql ?_|refine WL.idx rfl rfl zqo zqm ?_|refine WL.app rfl rfl rfl zqs ?_|refine W.condT rfl ?_|refine W.condF rfl ?_)
  (first|refine (?_:W _ _ _ _ _)|refine (?_:WL _ _ _ _ _ _)|skip)
  try dsimp only [St.put,Nat.reduceAdd]
  refine W.tr (Tr.freeze 1 rfl) ?_
  exact W.ret zqr
 have hb:=lsL_len (H:=H) hml h20 i hi
 have hAi:=hAa i hlt
 have hFi:=hFa i hlt
 have he20:=h20 _ (List.getElem_mem hlt)
 have hea:=ha _ (List.getElem_mem hlt)
 have hnx:=lsL_at (C:=C) (H:=H) hlt
 have hNl:((ocN C evs[i].stops).map eNt).length=evs[i].stops.length:=by rw [List.length_map,ocN_len]
 have hGl:((ocG C evs[i].stops).map eBl).length=evs[i].stops.length:=by rw [List.length_map,ocG_len]
 have hNa:∀ k (h:k < evs[i].stops.length),((ocN C evs[i].stops).map eNt)[((k:Nat):Int).toNat]?=some (eNt (oc1 C evs[i].stops[k])):=fun k h=>by
  rw [Int.toNat_natCast,List.getElem?_map,List.getElem?_eq_getElem (by rw [ocN_len];exact h)];simp only [ocN,List.getElem_map];rfl
 have hGa:∀ k (h:k < evs[i].stops.length),((ocG C evs[i].stops).map eBl)[((k:Nat):Int).toNat]?=some [.sc (.bool (C.ch evs[i].stops[k]).2)]:=fun k h=>by
  rw [Int.toNat_natCast,List.getElem?_map,List.getElem?_eq_getElem (by rw [ocG_len];exact h)];simp only [ocG,List.getElem_map];rfl
 obtain ⟨LL,hLL⟩:∃ z,lsL C H evs i=z:=⟨_,rfl⟩
 rw [hLL] at hb hnx ⊢
 have hFi2:FF[((i:Nat):Int).toNat]?=some [.sc (.bool evs[i].bar),.sc (.int .i64 evs[i].val),.sc (.bool evs[i].dot),.sc (.bool evs[i].three),.sc (.bool (nwT C i evs[i])),.ls 5 (((nwS C evs[i].stops).map fun z=>stH z (H i z)).map eStp)]:=hFi
 clear hAa hFa hFi hLL
 have hE:lsE C H i evs[i]=lsH C i evs[i]++evs[i].stops.flatMap (lsS C H i):=rfl
 have hHd:lsH C i evs[i]=if evT C i evs[i]=0 then [] else [((i:Int),0,evT C i evs[i])]:=rfl
 rw [hE] at hnx
 obtain ⟨E,hEv⟩:∃ z,evs[i]=z:=⟨_,rfl⟩
 rw [hEv] at hAi he20 hea hnx hNl hGl hNa hGa hFi2 hHd
 clear hE hEv
 obtain ⟨NN,hNN⟩:∃ z,(ocN C E.stops).map eNt=z:=⟨_,rfl⟩
 obtain ⟨GG,hGG⟩:∃ z,(ocG C E.stops).map eBl=z:=⟨_,rfl⟩
 rw [hNN] at hAi hNl hNa
 rw [hGG] at hAi hGl hGa
 clear hNN hGG
 obtain ⟨HD,hHD⟩:∃ z,lsH C i E=z:=⟨_,rfl⟩
 rw [hHD] at hHd hnx
 have hHl:HD.length≤1:=by rw [hHd];split<;>simp
 obtain ⟨X,hX⟩:∃ z,evT C i E=z:=⟨_,rfl⟩
 rw [hX] at hAi hHd
 clear hX hHD
 repeat (first|refine W.gob rfl ?_|refine WL.nil ?_|refine WL.bt rfl rfl rfl zqo ?_|refine WL.bf rfl rfl rfl zqo ?_|refine WL.e1 rfl ?_|refine WL.ar rfl rfl z52i ?_|refine WL.len rfl rfl zql ?_|refine WL.idx rfl rfl zqo zqm ?_|refine WL.app rfl rfl rfl zqs ?_|refine W.condT rfl ?_|refine W.condF rfl ?_)
 (first|refine (?_:W _ _ _ _ _)|refine (?_:WL _ _ _ _ _ _)|skip)
 try dsimp only [St.put,Nat.reduceAdd]
 refine WL.idx rfl rfl zqo hAi ?_
 repeat (first|refine W.gob rfl ?_|refine WL.nil ?_|refine WL.bt rfl rfl rfl zqo ?_|refine WL.bf rfl rfl rfl zqo ?_|refine WL.e1 rfl ?_|refine WL.ar rfl rfl z52i ?_|refine WL.len rfl rfl zql ?_|refine WL.idx rfl rfl zqo zqm ?_|refine WL.app rfl rfl rfl zqs ?_|refine W.condT rfl ?_|refine W.condF rfl ?_)
 (first|refine (?_:W _ _ _ _ _)|refine (?_:WL _ _ _ _ _ _)|skip)
 try dsimp only [St.put,Nat.reduceAdd]
 have hmm:LL.map eLk++HD.map eLk=(LL++HD).map eLk:=(List.map_append).symm
 refine W.meet ⟨[(2,.pt 0 0 0),(5,.sl 1),(6,.sc (.int .i64 i)),(7,.pt 2 0 0),(13,.ls 3 ALL),(14,.sc (.int .i64 ALL.length)),(15,.sc (.int .i64 i))],[(0,.box 47 [.ls 3 (cs.map eCrs),.ls 1 (st.map eInt),.ls 6 FF]),(1,.row 53 3 ((LL++HD).map eLk)),(2,.box 136 [.sc (.int .i64 X),.ls 8 NN,.ls 1 GG])],3⟩ ?_ ?_
 ·have hLl:(LL.map eLk).length=LL.length:=List.length_map _
  (refine W.cond rfl (fun hif=>?_) (fun hif=>?_)<;>(try simp only [decide_eq_true_eq,decide_eq_false_iff_not,Int.not_lt,Int.not_le,Bool.not_eq_true',Bool.not_eq_false'] at hif))
  ·have hX:¬ X=0:=by simpa using hif
   rw [if_neg hX] at hHd
   subst hHd
   repeat (first|refine W.gob rfl ?_|refine WL.nil ?_|refine WL.bt rfl rfl rfl zqo ?_|refine WL.bf rfl rfl rfl zqo ?_|refine WL.e1 rfl ?_|refine WL.ar rfl rfl z52i ?_|refine WL.len rfl rfl zql ?_|refine WL.idx rfl rfl zqo zqm ?_|refine WL.app rfl rfl rfl zqs ?_|refine W.condT rfl ?_|refine W.condF rfl ?_)
   (first|refine (?_:W _ _ _ _ _)|refine (?_:WL _ _ _ _ _ _)|skip)
   try dsimp only [St.put,Nat.reduceAdd]
   refine (?_:Tr _ _ _)
   exact (zqu (fun q=>bif Nat.beq q 1 then 4 else q) (by repeat (first|exact trivial|refine ⟨⟨?_,?_,?_⟩,?_⟩|rfl|exact congrArg (fun q=>some (AO.row _ _ q)) hmm)) rfl)
  ·have hX:X=0:=by simpa using hif
   rw [if_pos hX] at hHd
   subst hHd
   have hmm0:LL.map eLk=(LL++[]).map eLk:=by rw [List.append_nil]
   repeat (first|refine W.gob rfl ?_|refine WL.nil ?_|refine WL.bt rfl rfl rfl zqo ?_|refine WL.bf rfl rfl rfl zqo ?_|refine WL.e1 rfl ?_|refine WL.ar rfl rfl z52i ?_|refine WL.len rfl rfl zql ?_|refine WL.idx rfl rfl zqo zqm ?_|refine WL.app rfl rfl rfl zqs ?_|refine W.condT rfl ?_|refine W.condF rfl ?_)
   (first|refine (?_:W _ _ _ _ _)|refine (?_:WL _ _ _ _ _ _)|skip)
   try dsimp only [St.put,Nat.reduceAdd]
   refine (?_:Tr _ _ _)
   exact (zqu (fun q=>q) (by repeat (first|exact trivial|refine ⟨⟨?_,?_,?_⟩,?_⟩|rfl|exact congrArg (fun q=>some (AO.row _ _ q)) hmm0)) rfl)
 clear hHd hmm
 obtain ⟨M0,hM0⟩:∃ z,LL++HD=z:=⟨_,rfl⟩
 have hMl:M0.length≤61*i+1:=by rw [← hM0,List.length_append];omega
 rw [← List.append_assoc,hM0] at hnx
 rw [hM0]
 clear hM0 hb hHl
 repeat (first|refine W.gob rfl ?_|refine WL.nil ?_|refine WL.bt rfl rfl rfl zqo ?_|refine WL.bf rfl rfl rfl zqo ?_|refine WL.e1 rfl ?_|refine WL.ar rfl rfl z52i ?_|refine WL.len rfl rfl zql ?_|refine WL.idx rfl rfl zqo zqm ?_|refine WL.app rfl rfl rfl zqs ?_|refine W.condT rfl ?_|refine W.condF rfl ?_)
 (first|refine (?_:W _ _ _ _ _)|refine (?_:WL _ _ _ _ _ _)|skip)
 try dsimp only [St.put,Nat.reduceAdd]
 refine W.loop (fun k:Nat=>k≤E.stops.length) (fun k=>⟨[(2,.pt 0 0 0),(5,.sl 1),(6,.sc (.int .i64 i)),(7,.pt 2 0 0),(13,.ls 3 ALL),(14,.sc (.int .i64 ALL.length)),(15,.sc (.int .i64 i)),(31,.ls 8 NN),(32,.sc (.int .i64 NN.length)),(33,.sc (.int .i64 k))],[(0,.box 47 [.ls 3 (cs.map eCrs),.ls 1 (st.map eInt),.ls 6 FF]),(1,.row 53 3 ((M0++(E.stops.take k).flatMap (lsS C H i)).map eLk)),(2,.box 136 [.sc (.int .i64 X),.ls 8 NN,.ls 1 GG])],3⟩) (fun k=>E.stops.length - k) 0 (by omega) (zqu (fun q=>q) (by repeat (first|exact trivial|refine ⟨⟨?_,?_,?_⟩,?_⟩|rfl|exact congrArg (fun q=>some (AO.row _ _ q)) (by simp))) rfl) fun k hk=>?_
 by_cases hkt:k < E.stops.length
 rotate_left
 ·obtain rfl:k=E.stops.length:=by omega
  rw [List.take_length,← hnx]
  repeat (first|refine W.gob rfl ?_|refine WL.nil ?_|refine WL.bt rfl rfl rfl zqo ?_|refine WL.bf rfl rfl rfl zqo ?_|refine WL.e1 rfl ?_|refine WL.ar rfl rfl z52i ?_|refine WL.len rfl rfl zql ?_|refine WL.idx rfl rfl zqo zqm ?_|refine WL.app rfl rfl rfl zqs ?_|refine W.condT rfl ?_|refine W.condF rfl ?_)
  (first|refine (?_:W _ _ _ _ _)|refine (?_:WL _ _ _ _ _ _)|skip)
  try dsimp only [St.put,Nat.reduceAdd]
  refine ⟨i+1,by omega,by omega,?_⟩
  exact (zqt id)
 have hNk:=hNa k hkt
 have hGk:=hGa k hkt
 have hsn:=lsF_snoc (C:=C) (H:=H) (i:=i) hkt
 have hfl:=lsF_len (C:=C) (H:=H) hml i (E.stops.take k)
 have htl:(E.stops.take k).length=k:=by rw [List.length_take];omega
 have hfound:=fun y hy=>ix_found (C:=C) (f:=H i) hea hcr (List.getElem_mem hkt) (y:=y) hy
 have hmlk:=hml (C.ch E.stops[k]).1
 clear hNa hGa
 obtain ⟨P0,hP0⟩:∃ z,(E.stops.take k).flatMap (lsS C H i)=z:=⟨_,rfl⟩
 rw [hP0] at hsn hfl ⊢
 have hnext:M0++(E.stops.take (k+1)).flatMap (lsS C H i)=M0++P0++lsS C H i E.stops[k]:=by rw [hsn,List.append_assoc]
 have hPl:(M0++P0).length≤30000:=by rw [List.length_append];omega
 obtain ⟨Q0,hQ0⟩:∃ z,M0++P0=z:=⟨_,rfl⟩
 rw [hQ0] at hPl hnext ⊢
 clear hsn hfl hP0 hQ0
 have hQl:(Q0.map eLk).length=Q0.length:=List.length_map _
 obtain ⟨x,hx⟩:∃ z,E.stops[k]=z:=⟨_,rfl⟩
 rw [hx] at hNk hGk hfound hmlk hnext
 clear hx
 cases hlo:(C.ch x).2 with
 | true =>
  have hmv:C.mv x=none:=if_pos hlo
  have hS:lsS C H i x=[((i:Int),x.1,1)]:=by unfold lsS;rw [hmv]
  have ho1:oc1 C x=((C.ch x).1,x.1,x.2.2.2.2,[]):=if_pos hlo
  rw [hS] at hnext
  rw [ho1] at hNk
  rw [hlo] at hGk
  have hfin:Q0.map eLk++[eLk ((i:Int),x.1,1)]=(M0++(E.stops.take (k+1)).flatMap (lsS C H i)).map eLk:=by rw [hnext,List.map_append];rfl
  repeat (first|refine W.gob rfl ?_|refine WL.nil ?_|refine WL.bt rfl rfl rfl zqo ?_|refine WL.bf rfl rfl rfl zqo ?_|refine WL.e1 rfl ?_|refine WL.ar rfl rfl z52i ?_|refine WL.len rfl rfl zql ?_|refine WL.idx rfl rfl zqo zqm ?_|refine WL.app rfl rfl rfl zqs ?_|refine W.condT rfl ?_|refine W.condF rfl ?_)
  (first|refine (?_:W _ _ _ _ _)|refine (?_:WL _ _ _ _ _ _)|skip)
  try dsimp only [St.put,Nat.reduceAdd]
  refine WL.idx rfl rfl zqo hNk ?_
  repeat (first|refine W.gob rfl ?_|refine WL.nil ?_|refine WL.bt rfl rfl rfl zqo ?_|refine WL.bf rfl rfl rfl zqo ?_|refine WL.e1 rfl ?_|refine WL.ar rfl rfl z52i ?_|refine WL.len rfl rfl zql ?_|refine WL.idx rfl rfl zqo zqm ?_|refine WL.app rfl rfl rfl zqs ?_|refine W.condT rfl ?_|refine W.condF rfl ?_)
  (first|refine (?_:W _ _ _ _ _)|refine (?_:WL _ _ _ _ _ _)|skip)
  try dsimp only [St.put,Nat.reduceAdd]
  refine WL.idx rfl rfl zqo hGk ?_
  repeat (first|refine W.gob rfl ?_|refine WL.nil ?_|refine WL.bt rfl rfl rfl zqo ?_|refine WL.bf rfl rfl rfl zqo ?_|refine WL.e1 rfl ?_|refine WL.ar rfl rfl z52i ?_|refine WL.len rfl rfl zql ?_|refine WL.idx rfl rfl zqo zqm ?_|refine WL.app rfl rfl rfl zqs ?_|refine W.condT rfl ?_|refine W.condF rfl ?_)
  (first|refine (?_:W _ _ _ _ _)|refine (?_:WL _ _ _ _ _ _)|skip)
  try dsimp only [St.put,Nat.reduceAdd]
  refine ⟨k+1,by omega,by omega,?_⟩
  exact (zqu (fun q=>bif Nat.beq q 1 then 5 else q) (by repeat (first|exact trivial|refine ⟨⟨?_,?_,?_⟩,?_⟩|rfl|exact congrArg (fun q=>some (AO.row _ _ q)) hfin)) rfl)
 | false =>
  obtain ⟨y,hy⟩:∃ y,C.mr (C.ch x).1=y:=⟨_,rfl⟩
  have hmv:C.mv x=some y:=(if_neg (by rw [hlo];simp)).trans (by rw [hy])
  have ho1:oc1 C x=(y,x.1,x.2.2.2.2,C.ml (C.ch x).1):=(if_neg (by rw [hlo];simp)).trans (by rw [hy])
  obtain ⟨m,hm,hix,hgm⟩:=hfound y hmv
  have hS:lsS C H i x=(C.ml (C.ch x).1).map (fun w=>((i:Int),x.1,w))++if H i y=x.2.2.2.2 then [] else [((i:Int),x.1,4)]:=by unfold lsS;rw [hmv]
  rw [hS,← List.append_assoc] at hnext
  rw [ho1] at hNk
  rw [hlo] at hGk
  clear hS ho1 hfound
  obtain ⟨ML,hML⟩:∃ z,C.ml (C.ch x).1=z:=⟨_,rfl⟩
  rw [hML] at hmlk hNk hnext
  clear hML
  have hgq:((nwS C E.stops).map fun z=>stH z (H i z))[m]?=some (stH y (H i y)):=by rw [List.getElem?_eq_getElem hm,hgm]
  clear hgm
  obtain ⟨FS,hFS⟩:∃ z,((nwS C E.stops).map fun z=>stH z (H i z))=z:=⟨_,rfl⟩
  rw [hFS] at hFi2 hm hix hgq
  have hFSl:FS.length≤20:=by
   rw [← hFS,List.length_map]
   exact Nat.le_trans (nwS_len _ _) he20
  have hIx:=idxC_FS FS (y,x.1,x.2.2.2.2,ML) zqo
  rw [show ixB (fun z:Stp=>z.1 == ((y,x.1,x.2.2.2.2,ML):Nte).1.1) FS=(m:Int) from hix] at hIx
  have hFm:(FS.map eStp)[((m:Nat):Int).toNat]?=some (eStp (stH y (H i y))):=by rw [Int.toNat_natCast,List.getElem?_map,hgq];rfl
  have hFml:(FS.map eStp).length=FS.length:=List.length_map _
  have hIx:Ctr Tryz.prog 69 [.ls 5 (FS.map eStp),.fn 99 [.pr [.sc (.int .i64 y.1),.sc (.int .i64 y.2.1),.sc (.int .i64 y.2.2.1),.sc (.int .i64 y.2.2.2.1),.sc (.int .i64 y.2.2.2.2),.sc (.int .i64 x.1),.sc (.int .i64 x.2.2.2.2),.ls 1 (ML.map eInt)]]] (.sc (.int .i64 (m:Int))):=hIx
  have hNk:NN[((k:Nat):Int).toNat]?=some [.sc (.int .i64 y.1),.sc (.int .i64 y.2.1),.sc (.int .i64 y.2.2.1),.sc (.int .i64 y.2.2.2.1),.sc (.int .i64 y.2.2.2.2),.sc (.int .i64 x.1),.sc (.int .i64 x.2.2.2.2),.ls 1 (ML.map eInt)]:=hNk
  have hFm:(FS.map eStp)[((m:Nat):Int).toNat]?=some [.sc (.int .i64 y.1),.sc (.int .i64 y.2.1),.sc (.int .i64 y.2.2.1),.sc (.int .i64 y.2.2.2.1),.sc (.int .i64 (H i y))]:=hFm
  obtain ⟨FR,hFR⟩:∃ z,FS.map eStp=z:=⟨_,rfl⟩
  rw [hFR] at hFi2 hIx hFm hFml
  clear hFR hFS hgq hix
  repeat (first|refine W.gob rfl ?_|refine WL.nil ?_|refine WL.bt rfl rfl rfl zqo ?_|refine WL.bf rfl rfl rfl zqo ?_|refine WL.e1 rfl ?_|refine WL.ar rfl rfl z52i ?_|refine WL.len rfl rfl zql ?_|refine WL.idx rfl rfl zqo zqm ?_|refine WL.app rfl rfl rfl zqs ?_|refine W.condT rfl ?_|refine W.condF rfl ?_)
  (first|refine (?_:W _ _ _ _ _)|refine (?_:WL _ _ _ _ _ _)|skip)
  try dsimp only [St.put,Nat.reduceAdd]
  refine WL.idx rfl rfl zqo hNk ?_
  repeat (first|refine W.gob rfl ?_|refine WL.nil ?_|refine WL.bt rfl rfl rfl zqo ?_|refine WL.bf rfl rfl rfl zqo ?_|refine WL.e1 rfl ?_|refine WL.ar rfl rfl z52i ?_|refine WL.len rfl rfl zql ?_|refine WL.idx rfl rfl zqo zqm ?_|refine WL.app rfl rfl rfl zqs ?_|refine W.condT rfl ?_|refine W.condF rfl ?_)
  (first|refine (?_:W _ _ _ _ _)|refine (?_:WL _ _ _ _ _ _)|skip)
  try dsimp only [St.put,Nat.reduceAdd]
  refine WL.idx rfl rfl zqo hGk ?_
  repeat (first|refine W.gob rfl ?_|refine WL.nil ?_|refine WL.bt rfl rfl rfl zqo ?_|refine WL.bf rfl rfl rfl zqo ?_|refine WL.e1 rfl ?_|refine WL.ar rfl rfl z52i ?_|refine WL.len rfl rfl zql ?_|refine WL.idx rfl rfl zqo zqm ?_|refine WL.app rfl rfl rfl zqs ?_|refine W.condT rfl ?_|refine W.condF rfl ?_)
  (first|refine (?_:W _ _ _ _ _)|refine (?_:WL _ _ _ _ _ _)|skip)
  try dsimp only [St.put,Nat.reduceAdd]
  refine W.loop (fun j:Nat=>j≤ML.length) (fun j=>⟨[(2,.pt 0 0 0),(5,.sl 1),(6,.sc (.int .i64 i)),(7,.pt 2 0 0),(8,.sc (.int .i64 k)),(9,.pt 3 0 0),(13,.ls 3 ALL),(14,.sc (.int .i64 ALL.length)),(15,.sc (.int .i64 i)),(31,.ls 8 NN),(32,.sc (.int .i64 NN.length)),(33,.sc (.int .i64 k)),(51,.ls 1 (ML.map eInt)),(52,.sc (.int .i64 ML.length)),(53,.sc (.int .i64 j))],[(0,.box 47 [.ls 3 (cs.map eCrs),.ls 1 (st.map eInt),.ls 6 FF]),(1,.row 53 3 ((Q0++(ML.take j).map (fun w=>((i:Int),x.1,w))).map eLk)),(2,.box 136 [.sc (.int .i64 X),.ls 8 NN,.ls 1 GG]),(3,.box 181 [.sc (.int .i64 y.1),.sc (.int .i64 y.2.1),.sc (.int .i64 y.2.2.1),.sc (.int .i64 y.2.2.2.1),.sc (.int .i64 y.2.2.2.2),.sc (.int .i64 x.1),.sc (.int .i64 x.2.2.2.2),.ls 1 (ML.map eInt)])],4⟩) (fun j=>ML.length - j) 0 (by omega) (zqu (fun q=>q) (by repeat (first|exact trivial|refine ⟨⟨?_,?_,?_⟩,?_⟩|rfl|exact congrArg (fun q=>some (AO.row _ _ q)) (by simp))) rfl) fun j hj=>?_
  have hjl:((Q0++(ML.take j).map (fun w=>((i:Int),x.1,w))).map eLk).length≤40000:=by rw [List.length_map,List.length_append,List.length_map,List.length_take];omega
  by_cases hjt:j < ML.length
  ·have hrow:(Q0++(ML.take j).map (fun w=>((i:Int),x.1,w))).map eLk++[eLk ((i:Int),x.1,ML[j])]=(Q0++(ML.take (j+1)).map (fun w=>((i:Int),x.1,w))).map eLk:=by
    have e:Q0++(ML.take (j+1)).map (fun w=>((i:Int),x.1,w))=Q0++(ML.take j).map (fun w=>((i:Int),x.1,w))++[((i:Int),x.1,ML[j])]:=by
     rw [List.take_succ_eq_append_getElem hjt,List.map_append,List.append_assoc];rfl
    rw [e]
    exact (List.map_append (f:=eLk) (l₂:=[((i:Int),x.1,ML[j])])).symm
   obtain ⟨RR,hRR⟩:∃ z,(Q0++(ML.take j).map (fun w=>((i:Int),x.1,w))).map eLk=z:=⟨_,rfl⟩
   rw [hRR] at hrow hjl ⊢
   repeat (first|refine W.gob rfl ?_|refine WL.nil ?_|refine WL.bt rfl rfl rfl zqo ?_|refine WL.bf rfl rfl rfl zqo ?_|refine WL.e1 rfl ?_|refine WL.ar rfl rfl z52i ?_|refine WL.len rfl rfl zql ?_|refine WL.idx rfl rfl zqo zqm ?_|refine WL.app rfl rfl rfl zqs ?_|refine W.condT rfl ?_|refine W.condF rfl ?_)
   (first|refine (?_:W _ _ _ _ _)|refine (?_:WL _ _ _ _ _ _)|skip)
   try dsimp only [St.put,Nat.reduceAdd]
   refine ⟨j+1,by omega,by omega,?_⟩
   exact (zqu (fun q=>bif Nat.beq q 1 then 5 else q) (by repeat (first|exact trivial|refine ⟨⟨?_,?_,?_⟩,?_⟩|rfl|exact congrArg (fun q=>some (AO.row _ _ q)) hrow)) rfl)
  obtain rfl:j=ML.length:=by omega
  rw [List.take_length] at hjl ⊢
  obtain ⟨Q1,hQ1⟩:∃ z,Q0++ML.map (fun w=>((i:Int),x.1,w))=z:=⟨_,rfl⟩
  rw [hQ1] at hjl hnext ⊢
  have hQ1l:Q1.length≤40000:=by rw [List.length_map] at hjl;exact hjl
  repeat (first|refine W.gob rfl ?_|refine WL.nil ?_|refine WL.bt rfl rfl rfl zqo ?_|refine WL.bf rfl rfl rfl zqo ?_|refine WL.e1 rfl ?_|refine WL.ar rfl rfl z52i ?_|refine WL.len rfl rfl zql ?_|refine WL.idx rfl rfl zqo zqm ?_|refine WL.app rfl rfl rfl zqs ?_|refine W.condT rfl ?_|refine W.condF rfl ?_)
  (first|refine (?_:W _ _ _ _ _)|refine (?_:WL _ _ _ _ _ _)|skip)
  try dsimp only [St.put,Nat.reduceAdd]
  refine WL.idx rfl rfl zqo hFi2 ?_
  repeat (first|refine W.gob rfl ?_|refine WL.nil ?_|refine WL.bt rfl rfl rfl zqo ?_|refine WL.bf rfl rfl rfl zqo ?_|refine WL.e1 rfl ?_|refine WL.ar rfl rfl z52i ?_|refine WL.len rfl rfl zql ?_|refine WL.idx rfl rfl zqo zqm ?_|refine WL.app rfl rfl rfl zqs ?_|refine W.condT rfl ?_|refine W.condF rfl ?_)
  (first|refine (?_:W _ _ _ _ _)|refine (?_:WL _ _ _ _ _ _)|skip)
  try dsimp only [St.put,Nat.reduceAdd]
  refine WL.vl rfl (WV.mkf rfl rfl) ?_
  refine WL.vl rfl (WV.lendV (truH _) rfl (callF Tryz.func69 rfl rfl) rfl rfl rfl rfl rfl rfl truST hIx.g) ?_
  by_cases hh:H i y=x.2.2.2.2
  ·rw [if_pos hh,List.append_nil] at hnext
   have hfin:Q1.map eLk=(M0++(E.stops.take (k+1)).flatMap (lsS C H i)).map eLk:=by rw [hnext]
   repeat (first|refine W.gob rfl ?_|refine WL.nil ?_|refine WL.bt rfl rfl rfl zqo ?_|refine WL.bf rfl rfl rfl zqo ?_|refine WL.e1 rfl ?_|refine WL.ar rfl rfl z52i ?_|refine WL.len rfl rfl zql ?_|refine WL.idx rfl rfl zqo zqm ?_|refine WL.app rfl rfl rfl zqs ?_|refine W.condT rfl ?_|refine W.condF rfl ?_)
   (first|refine (?_:W _ _ _ _ _)|refine (?_:WL _ _ _ _ _ _)|skip)
   try dsimp only [St.put,Nat.reduceAdd]
   refine W.drawK zqk zqk ?_
   repeat (first|refine DK.st rfl ?_|refine DK.idx rfl rfl zqo zqm ?_|refine DK.nil ?_)
   refine DK.idx rfl rfl zqo hFi2 ?_
   repeat (first|refine DK.st rfl ?_|refine DK.idx rfl rfl zqo zqm ?_|refine DK.nil ?_)
   refine DK.idx rfl rfl zqo hFm ?_
   repeat (first|refine DK.st rfl ?_|refine DK.idx rfl rfl zqo zqm ?_|refine DK.nil ?_)
   rw [show decide (H i y=x.2.2.2.2)=true from decide_eq_true hh]
   repeat (first|refine W.gob rfl ?_|refine WL.nil ?_|refine WL.bt rfl rfl rfl zqo ?_|refine WL.bf rfl rfl rfl zqo ?_|refine WL.e1 rfl ?_|refine WL.ar rfl rfl z52i ?_|refine WL.len rfl rfl zql ?_|refine WL.idx rfl rfl zqo zqm ?_|refine WL.app rfl rfl rfl zqs ?_|refine W.condT rfl ?_|refine W.condF rfl ?_)
   (first|refine (?_:W _ _ _ _ _)|refine (?_:WL _ _ _ _ _ _)|skip)
   try dsimp only [St.put,Nat.reduceAdd]
   refine ⟨k+1,by omega,by omega,?_⟩
   exact (zqu (fun q=>q) (by repeat (first|exact trivial|refine ⟨⟨?_,?_,?_⟩,?_⟩|rfl|exact congrArg (fun q=>some (AO.row _ _ q)) hfin)) rfl)
  ·rw [if_neg hh] at hnext
   have hfin:Q1.map eLk++[eLk ((i:Int),x.1,4)]=(M0++(E.stops.take (k+1)).flatMap (lsS C H i)).map eLk:=by rw [hnext,List.map_append];rfl
   repeat (first|refine W.gob rfl ?_|refine WL.nil ?_|refine WL.bt rfl rfl rfl zqo ?_|refine WL.bf rfl rfl rfl zqo ?_|refine WL.e1 rfl ?_|refine WL.ar rfl rfl z52i ?_|refine WL.len rfl rfl zql ?_|refine WL.idx rfl rfl zqo zqm ?_|refine WL.app rfl rfl rfl zqs ?_|refine W.condT rfl ?_|refine W.condF rfl ?_)
   (first|refine (?_:W _ _ _ _ _)|refine (?_:WL _ _ _ _ _ _)|skip)
   try dsimp only [St.put,Nat.reduceAdd]
   refine W.drawK zqk zqk ?_
   repeat (first|refine DK.st rfl ?_|refine DK.idx rfl rfl zqo zqm ?_|refine DK.nil ?_)
   refine DK.idx rfl rfl zqo hFi2 ?_
   repeat (first|refine DK.st rfl ?_|refine DK.idx rfl rfl zqo zqm ?_|refine DK.nil ?_)
   refine DK.idx rfl rfl zqo hFm ?_
   repeat (first|refine DK.st rfl ?_|refine DK.idx rfl rfl zqo zqm ?_|refine DK.nil ?_)
   rw [show decide (H i y=x.2.2.2.2)=false from decide_eq_false hh]
   repeat (first|refine W.gob rfl ?_|refine WL.nil ?_|refine WL.bt rfl rfl rfl zqo ?_|refine WL.bf rfl rfl rfl zqo ?_|refine WL.e1 rfl ?_|refine WL.ar rfl rfl z52i ?_|refine WL.len rfl rfl zql ?_|refine WL.idx rfl rfl zqo zqm ?_|refine WL.app rfl rfl rfl zqs ?_|refine W.condT rfl ?_|refine W.condF rfl ?_)
   (first|refine (?_:W _ _ _ _ _)|refine (?_:WL _ _ _ _ _ _)|skip)
   try dsimp only [St.put,Nat.reduceAdd]
   refine ⟨k+1,by omega,by omega,?_⟩
   exact (zqu (fun q=>bif Nat.beq q 1 then 5 else q) (by repeat (first|exact trivial|refine ⟨⟨?_,?_,?_⟩,?_⟩|rfl|exact congrArg (fun q=>some (AO.row _ _ q)) hfin)) rfl)
end Go.Proofs.YtockempedekkkaaGreatDoor
