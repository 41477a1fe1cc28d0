/- What becomes of an event (the program's one), a function of each stop. -/
import Derived.Test.YtaeelcfjkhfpkaaGreatLngTq
import Derived.Test.YtaeelcfjkhfpkaaGreatYFTq
import Derived.Test.YtaeelcfjkhfpkaaGreatYTTq
import Derived.Test.YtaeelcfjkhfpkaaGreatG8Tq
set_option maxHeartbeats 8000000
set_option maxRecDepth 100000
set_option linter.unusedVariables false
set_option linter.unusedSimpArgs false
namespace Go.Proofs.YtaeelcfjkhfpkaaGreat
section
open Go.RowKit
theorem z47i {z:Int} (h:I64 z:=by unfold I64;omega):I64 z:=h
theorem loss1_FS (x:Stp) (r:Nte):Ctr Tryz.prog 139 [.ag (eStp x),.pr (eNt r)] (.sc (.bool (x.1 == r.1.1))):=by
 refine zqe Tryz.func139 Tryz.ntmps139 fun w0 F0=>?_;dsimp only [St.init,number,Nat.reduceAdd]
 repeat refine W.go rfl ?_
 refine (?_:W _ _ _ _ _)
 refine W.ret (fin1 rfl rfl (sc_bool ?_) rfl)
 rfl
theorem idxC_FS (l:List Stp) (r:Nte) (hl:l.length≤100000):Ctr Tryz.prog 108 [.ls 5 (l.map eStp),.fn 139 [.pr (eNt r)]] (.sc (.int .i64 (ixB (fun x:Stp=>x.1 == r.1.1) l))):=by
 refine zqe Tryz.func108 Tryz.ntmps108 fun w0 F0=>?_;dsimp only [St.init,number,Nat.reduceAdd]
 repeat (first|refine W.go rfl ?_|refine WL.ev rfl ?_|refine WL.len rfl rfl zql ?_)
 refine (?_:W _ _ _ _ _)
 refine W.loop (fun k:Nat=>k≤l.length∧∀ i (hi:i < k) (h:i < l.length),(l[i].1 == r.1.1)=false) (fun k=>⟨[(0,.ls 5 (l.map eStp)),(1,.fn 139 [.pr (eNt r)]),(7,.sc (.int .i64 l.length)),(8,.sc (.int .i64 k))],[],0⟩) (fun k=>l.length - k) 0 ⟨by omega,fun i hi=>by omega⟩ (zqt id) fun k hk=>?_
 obtain ⟨hk,hno⟩:=hk
 by_cases hlt:k < l.length
 ·repeat (first|refine W.gob rfl ?_|refine WL.nil ?_|refine WL.bt rfl rfl rfl zqo ?_|refine WL.e1 rfl ?_|refine WL.idx rfl rfl zqo zqm ?_|refine W.condT rfl ?_)
  refine (?_:WL _ _ _ _ _ _)
  refine WL.vl rfl (WV.callV (truH _) rfl (callF Tryz.func139 rfl rfl) rfl rfl rfl rfl rfl (loss1_FS l[k] r).g) ?_
  cases he:l[k].1 == r.1.1 with
  | true =>
   rw [ixB_at (t:=fun x:Stp=>x.1 == r.1.1) hlt he fun i hi=>hno i hi (by omega)]
   repeat (first|refine W.gob rfl ?_|refine WL.nil ?_|refine WL.e1 rfl ?_|refine W.condT rfl ?_)
   refine (?_:W _ _ _ _ _)
   exact W.ret zqr
  | false =>
   repeat (first|refine W.gob rfl ?_|refine WL.nil ?_|refine WL.e1 rfl ?_|refine WL.ar rfl rfl z47i ?_|refine W.condF rfl ?_)
   exact ⟨k+1,⟨by omega,fun i hi h=>by
    by_cases e:i=k
    ·subst e;exact he
    ·exact hno i zqo h⟩,by omega,(zqt id)⟩
 ·rw [ixB_no (t:=fun x:Stp=>x.1 == r.1.1) fun i hi=>hno i (by omega) hi]
  repeat (first|refine W.gob rfl ?_|refine WL.nil ?_|refine WL.bf rfl rfl rfl zqo ?_|refine WL.e1 rfl ?_|refine W.condF rfl ?_)
  refine (?_:W _ _ _ _ _)
  exact W.ret zqr
def ocA (C:Cg)(evs:List Ev):List (Int×List Nte×List Bool):=evs.mapIdx fun i e=>(evT C i e,ocN C e.stops,ocG C e.stops)
def eOcR(o:Int×List Nte×List Bool):List AV:=eOc o.1 o.2.1 o.2.2
theorem ocA_len(C:Cg)(evs:List Ev):(ocA C evs).length=evs.length:=List.length_mapIdx
theorem ocA_at {C:Cg} {evs:List Ev} {k:Nat} (h:k<evs.length):((ocA C evs).map eOcR)[((k:Nat):Int).toNat]?=some [.sc (.int .i64 (evT C k evs[k])),.ls 8 ((ocN C evs[k].stops).map eNt),.ls 1 ((ocG C evs[k].stops).map eBl)]:=by
 rw [Int.toNat_natCast,List.getElem?_map,List.getElem?_eq_getElem (by rw [ocA_len];exact h)]
 simp only [ocA,List.getElem_mapIdx]
 rfl
theorem ix_found {C:Cg} {f:Stp→Int} {l:List Stp} (ha:l.Pairwise fun x y=>x.1<y.1) (hcr:∀ x y,C.mv x=some y→y.1=x.1∧y.2.2.2.2=x.2.2.2.2) {x y:Stp} (hx:x∈l) (hy:C.mv x=some y) :
  ∃ m,∃ h:m<((nwS C l).map fun z=>stH z (f z)).length,ixB (fun z:Stp=>z.1 == y.1) ((nwS C l).map fun z=>stH z (f z))=(m:Int)∧((nwS C l).map fun z=>stH z (f z))[m]=stH y (f y):=by
 have hm:y∈nwS C l:=List.mem_filterMap.2 ⟨x,hx,hy⟩
 obtain ⟨m,h,rfl⟩:=List.getElem_of_mem hm
 have hA:=nwS_asc hcr ha
 have hM:=map_stH_asc (f:=f) hA
 refine ⟨m,by rw [List.length_map];exact h,?_,by rw [List.getElem_map]⟩
 refine ixB_at (by rw [List.length_map];exact h) (by rw [List.getElem_map];show ((nwS C l)[m].1 == (nwS C l)[m].1)=true;simp) fun i hi=>?_
 rw [List.getElem_map]
 have:=List.pairwise_iff_getElem.1 hA i m (by omega) h hi
 show ((nwS C l)[i].1 == (nwS C l)[m].1)=false
 simp;omega
theorem lsF_snoc {C:Cg} {H:Nat→Stp→Int} {i:Nat} {l:List Stp} {k:Nat} (h:k<l.length):(l.take (k+1)).flatMap (lsS C H i)=(l.take k).flatMap (lsS C H i)++lsS C H i l[k]:=by
 rw [List.take_succ_eq_append_getElem h,List.flatMap_append];simp
theorem yLoss_FS (C:Cg) (H:Nat→Stp→Int) (evs:List Ev) (cs:List (Int×Int×Bool)) (st:List Int) (hn:evs.length≤420) (h20:∀ e∈evs,e.stops.length≤20) (hml:∀ y,(C.ml y).length≤2) (hcr:∀ x y,C.mv x=some y→y.1=x.1∧y.2.2.2.2=x.2.2.2.2)
  (ha:∀ e∈evs,e.stops.Pairwise fun x y=>x.1 < y.1):Ctr Tryz.prog 110 [ePce ⟨cs,st,fnL H (nwL C evs)⟩,.ls 3 ((ocA C evs).map eOcR)] (.ls 3 ((lsL C H evs evs.length).map eLk)):=by
 have hAl:((ocA C evs).map eOcR).length=evs.length:=by rw [List.length_map,ocA_len]
 have hAa:=fun k (h:k < evs.length)=>ocA_at (C:=C) h
 obtain ⟨ALL,hALL⟩:∃ z,(ocA C evs).map eOcR=z:=⟨_,rfl⟩
 rw [hALL] at hAl hAa ⊢
 clear hALL
 have hFl:((fnL H (nwL C evs)).map eEv).length=evs.length:=by rw [List.length_map,fnL_len,nwL_len]
 have hFa:∀ k (h:k < evs.length),((fnL H (nwL C evs)).map eEv)[((k:Nat):Int).toNat]?=some (eEv (fnE H k (nwE C k evs[k]))):=fun k h=>by
  rw [Int.toNat_natCast,List.getElem?_map,List.getElem?_eq_getElem (by rw [fnL_len,nwL_len];exact h),fnL_get (by rw [nwL_len];exact h),nwL_get h];rfl
 show Ctr Tryz.prog 110 [.ag [.ls 3 (cs.map eCrs),.ls 1 (st.map eInt),.ls 6 ((fnL H (nwL C evs)).map eEv)],.ls 3 ALL] _
 obtain ⟨FF,hFF⟩:∃ z,(fnL H (nwL C evs)).map eEv=z:=⟨_,rfl⟩
 rw [hFF] at hFl hFa ⊢
 clear hFF
 refine zqe Tryz.func110 Tryz.ntmps110 fun w0 F0=>?_;dsimp only [St.init,number,Nat.reduceAdd]
 repeat (first|refine W.go rfl ?_|refine WL.ev rfl ?_|refine WL.len rfl rfl zql ?_)
 refine (?_:W _ _ _ _ _)
 refine W.tr (Tr.nil (t:=5) 72 3 rfl rfl) ?_
 dsimp only [St.put,St.new,St.upd,Nat.reduceAdd]
 refine (?_:W _ _ _ _ _)
 refine W.loop (fun k:Nat=>k≤evs.length) (fun k=>⟨[(2,.pt 0 0 0),(5,.sl 1),(13,.ls 3 ALL),(14,.sc (.int .i64 ALL.length)),(15,.sc (.int .i64 k))],[(0,.box 29 [.ls 3 (cs.map eCrs),.ls 1 (st.map eInt),.ls 6 FF]),(1,.row 72 3 ((lsL C H evs k).map eLk))],2⟩) (fun k=>evs.length - k) 0 zqo (zqt id) fun i hi=>?_
 by_cases hlt:i < evs.length
 rotate_left
 ·obtain rfl:i=evs.length:=by omega
  repeat (first|refine W.gob rfl ?_|refine WL.nil ?_|refine WL.bf rfl rfl rfl zqo ?_|refine WL.e1 rfl ?_|refine W.condF rfl ?_)
  refine (?_:W _ _ _ _ _)
  refine W.tr (Tr.freeze 1 rfl) ?_
  exact W.ret zqr
 have hb:=lsL_len (H:=H) hml h20 i hi
 have hAi:=hAa i hlt
 have hFi:=hFa i hlt
 have he20:=h20 _ (List.getElem_mem hlt)
 have hea:=ha _ (List.getElem_mem hlt)
 have hnx:=lsL_at (C:=C) (H:=H) hlt
 have hNl:((ocN C evs[i].stops).map eNt).length=evs[i].stops.length:=by rw [List.length_map,ocN_len]
 have hGl:((ocG C evs[i].stops).map eBl).length=evs[i].stops.length:=by rw [List.length_map,ocG_len]
 have hNa:∀ k (h:k < evs[i].stops.length),((ocN C evs[i].stops).map eNt)[((k:Nat):Int).toNat]?=some (eNt (oc1 C evs[i].stops[k])):=fun k h=>by
  rw [Int.toNat_natCast,List.getElem?_map,List.getElem?_eq_getElem (by rw [ocN_len];exact h)];simp only [ocN,List.getElem_map];rfl
 have hGa:∀ k (h:k < evs[i].stops.length),((ocG C evs[i].stops).map eBl)[((k:Nat):Int).toNat]?=some [.sc (.bool (C.ch evs[i].stops[k]).2)]:=fun k h=>by
  rw [Int.toNat_natCast,List.getElem?_map,List.getElem?_eq_getElem (by rw [ocG_len];exact h)];simp only [ocG,List.getElem_map];rfl
 obtain ⟨LL,hLL⟩:∃ z,lsL C H evs i=z:=⟨_,rfl⟩
 rw [hLL] at hb hnx ⊢
 have hFi2:FF[((i:Nat):Int).toNat]?=some [.sc (.bool evs[i].bar),.sc (.int .i64 evs[i].val),.sc (.bool evs[i].dot),.sc (.bool evs[i].three),.sc (.bool (nwT C i evs[i])),.ls 5 (((nwS C evs[i].stops).map fun z=>stH z (H i z)).map eStp)]:=hFi
 clear hAa hFa hFi hLL
 have hE:lsE C H i evs[i]=lsH C i evs[i]++evs[i].stops.flatMap (lsS C H i):=rfl
 have hHd:lsH C i evs[i]=if evT C i evs[i]=0 then [] else [((i:Int),0,evT C i evs[i])]:=rfl
 rw [hE] at hnx
 obtain ⟨E,hEv⟩:∃ z,evs[i]=z:=⟨_,rfl⟩
 rw [hEv] at hAi he20 hea hnx hNl hGl hNa hGa hFi2 hHd
 clear hE hEv
 obtain ⟨NN,hNN⟩:∃ z,(ocN C E.stops).map eNt=z:=⟨_,rfl⟩
 obtain ⟨GG,hGG⟩:∃ z,(ocG C E.stops).map eBl=z:=⟨_,rfl⟩
 rw [hNN] at hAi hNl hNa
 rw [hGG] at hAi hGl hGa
 clear hNN hGG
 obtain ⟨HD,hHD⟩:∃ z,lsH C i E=z:=⟨_,rfl⟩
 rw [hHD] at hHd hnx
 have hHl:HD.length≤1:=by rw [hHd];split<;>simp
 obtain ⟨X,hX⟩:∃ z,evT C i E=z:=⟨_,rfl⟩
 rw [hX] at hAi hHd
 clear hX hHD
 repeat (first|refine W.gob rfl ?_|refine WL.nil ?_|refine WL.bt rfl rfl rfl zqo ?_|refine WL.e1 rfl ?_|refine W.condT rfl ?_)
 refine (?_:WL _ _ _ _ _ _)
 refine WL.idx rfl rfl zqo hAi ?_
 repeat (first|refine W.gob rfl ?_|refine WL.nil ?_|refine WL.e1 rfl ?_)
 refine (?_:W _ _ _ _ _)
 have hmm:LL.map eLk++HD.map eLk=(LL++HD).map eLk:=(List.map_append).symm
 refine W.meet ⟨[(2,.pt 0 0 0),(5,.sl 1),(6,.sc (.int .i64 i)),(7,.pt 2 0 0),(13,.ls 3 ALL),(14,.sc (.int .i64 ALL.length)),(15,.sc (.int .i64 i))],[(0,.box 29 [.ls 3 (cs.map eCrs),.ls 1 (st.map eInt),.ls 6 FF]),(1,.row 72 3 ((LL++HD).map eLk)),(2,.box 152 [.sc (.int .i64 X),.ls 8 NN,.ls 1 GG])],3⟩ ?_ ?_
 ·have hLl:(LL.map eLk).length=LL.length:=List.length_map _
  (refine W.cond rfl (fun hif=>?_) (fun hif=>?_)<;>(try simp only [decide_eq_true_eq,decide_eq_false_iff_not,Int.not_lt,Int.not_le,Bool.not_eq_true',Bool.not_eq_false'] at hif))
  ·have hX:¬ X=0:=by simpa using hif
   rw [if_neg hX] at hHd
   subst hHd
   repeat (first|refine W.gob rfl ?_|refine WL.nil ?_|refine WL.e1 rfl ?_|refine WL.app rfl rfl rfl zqs ?_)
   refine (?_:Tr _ _ _)
   exact (zqu (fun q=>bif Nat.beq q 1 then 4 else q) (by repeat (first|exact trivial|refine ⟨⟨?_,?_,?_⟩,?_⟩|rfl|exact congrArg (fun q=>some (AO.row _ _ q)) hmm)) rfl)
  ·have hX:X=0:=by simpa using hif
   rw [if_pos hX] at hHd
   subst hHd
   have hmm0:LL.map eLk=(LL++[]).map eLk:=by rw [List.append_nil]
   repeat refine W.gob rfl ?_
   refine (?_:Tr _ _ _)
   exact (zqu (fun q=>q) (by repeat (first|exact trivial|refine ⟨⟨?_,?_,?_⟩,?_⟩|rfl|exact congrArg (fun q=>some (AO.row _ _ q)) hmm0)) rfl)
 clear hHd hmm
 obtain ⟨M0,hM0⟩:∃ z,LL++HD=z:=⟨_,rfl⟩
 have hMl:M0.length≤61*i+1:=by rw [← hM0,List.length_append];omega
 rw [← List.append_assoc,hM0] at hnx
 rw [hM0]
 clear hM0 hb hHl
 repeat (first|refine W.gob rfl ?_|refine WL.nil ?_|refine WL.e1 rfl ?_|refine WL.len rfl rfl zql ?_)
 refine (?_:W _ _ _ _ _)
 refine W.loop (fun k:Nat=>k≤E.stops.length) (fun k=>⟨[(2,.pt 0 0 0),(5,.sl 1),(6,.sc (.int .i64 i)),(7,.pt 2 0 0),(13,.ls 3 ALL),(14,.sc (.int .i64 ALL.length)),(15,.sc (.int .i64 i)),(31,.ls 8 NN),(32,.sc (.int .i64 NN.length)),(33,.sc (.int .i64 k))],[(0,.box 29 [.ls 3 (cs.map eCrs),.ls 1 (st.map eInt),.ls 6 FF]),(1,.row 72 3 ((M0++(E.stops.take k).flatMap (lsS C H i)).map eLk)),(2,.box 152 [.sc (.int .i64 X),.ls 8 NN,.ls 1 GG])],3⟩) (fun k=>E.stops.length - k) 0 (by omega) (zqu (fun q=>q) (by repeat (first|exact trivial|refine ⟨⟨?_,?_,?_⟩,?_⟩|rfl|exact congrArg (fun q=>some (AO.row _ _ q)) (by simp))) rfl) fun k hk=>?_
 by_cases hkt:k < E.stops.length
 rotate_left
 ·obtain rfl:k=E.stops.length:=by omega
  rw [List.take_length,← hnx]
  repeat (first|refine W.gob rfl ?_|refine WL.nil ?_|refine WL.bf rfl rfl rfl zqo ?_|refine WL.e1 rfl ?_|refine WL.ar rfl rfl z47i ?_|refine W.condF rfl ?_)
  refine ⟨i+1,by omega,by omega,?_⟩
  exact (zqt id)
 have hNk:=hNa k hkt
 have hGk:=hGa k hkt
 have hsn:=lsF_snoc (C:=C) (H:=H) (i:=i) hkt
 have hfl:=lsF_len (C:=C) (H:=H) hml i (E.stops.take k)
 have htl:(E.stops.take k).length=k:=by rw [List.length_take];omega
 have hfound:=fun y hy=>ix_found (C:=C) (f:=H i) hea hcr (List.getElem_mem hkt) (y:=y) hy
 have hmlk:=hml (C.ch E.stops[k]).1
 clear hNa hGa
 obtain ⟨P0,hP0⟩:∃ z,(E.stops.take k).flatMap (lsS C H i)=z:=⟨_,rfl⟩
 rw [hP0] at hsn hfl ⊢
 have hnext:M0++(E.stops.take (k+1)).flatMap (lsS C H i)=M0++P0++lsS C H i E.stops[k]:=by rw [hsn,List.append_assoc]
 have hPl:(M0++P0).length≤30000:=by rw [List.length_append];omega
 obtain ⟨Q0,hQ0⟩:∃ z,M0++P0=z:=⟨_,rfl⟩
 rw [hQ0] at hPl hnext ⊢
 clear hsn hfl hP0 hQ0
 have hQl:(Q0.map eLk).length=Q0.length:=List.length_map _
 obtain ⟨x,hx⟩:∃ z,E.stops[k]=z:=⟨_,rfl⟩
 rw [hx] at hNk hGk hfound hmlk hnext
 clear hx
 cases hlo:(C.ch x).2 with
 | true =>
  have hmv:C.mv x=none:=if_pos hlo
  have hS:lsS C H i x=[((i:Int),x.1,1)]:=by unfold lsS;rw [hmv]
  have ho1:oc1 C x=((C.ch x).1,x.1,x.2.2.2.2,[]):=if_pos hlo
  rw [hS] at hnext
  rw [ho1] at hNk
  rw [hlo] at hGk
  have hfin:Q0.map eLk++[eLk ((i:Int),x.1,1)]=(M0++(E.stops.take (k+1)).flatMap (lsS C H i)).map eLk:=by rw [hnext,List.map_append];rfl
  repeat (first|refine W.gob rfl ?_|refine WL.nil ?_|refine WL.bt rfl rfl rfl zqo ?_|refine WL.e1 rfl ?_|refine W.condT rfl ?_)
  refine (?_:WL _ _ _ _ _ _)
  refine WL.idx rfl rfl zqo hNk ?_
  repeat (first|refine W.gob rfl ?_|refine WL.nil ?_|refine WL.e1 rfl ?_)
  refine (?_:WL _ _ _ _ _ _)
  refine WL.idx rfl rfl zqo hGk ?_
  repeat (first|refine W.gob rfl ?_|refine WL.nil ?_|refine WL.e1 rfl ?_|refine WL.ar rfl rfl z47i ?_|refine WL.app rfl rfl rfl zqs ?_|refine W.condT rfl ?_)
  refine ⟨k+1,by omega,by omega,?_⟩
  exact (zqu (fun q=>bif Nat.beq q 1 then 5 else q) (by repeat (first|exact trivial|refine ⟨⟨?_,?_,?_⟩,?_⟩|rfl|exact congrArg (fun q=>some (AO.row _ _ q)) hfin)) rfl)
 | false =>
  obtain ⟨y,hy⟩:∃ y,C.mr (C.ch x).1=y:=⟨_,rfl⟩
  have hmv:C.mv x=some y:=(if_neg (by rw [hlo];simp)).trans (by rw [hy])
  have ho1:oc1 C x=(y,x.1,x.2.2.2.2,C.ml (C.ch x).1):=(if_neg (by rw [hlo];simp)).trans (by rw [hy])
  obtain ⟨m,hm,hix,hgm⟩:=hfound y hmv
  have hS:lsS C H i x=(C.ml (C.ch x).1).map (fun w=>((i:Int),x.1,w))++if H i y=x.2.2.2.2 then [] else [((i:Int),x.1,4)]:=by unfold lsS;rw [hmv]
  rw [hS,← List.append_assoc] at hnext
  rw [ho1] at hNk
  rw [hlo] at hGk
  clear hS ho1 hfound
  obtain ⟨ML,hML⟩:∃ z,C.ml (C.ch x).1=z:=⟨_,rfl⟩
  rw [hML] at hmlk hNk hnext
  clear hML
  have hgq:((nwS C E.stops).map fun z=>stH z (H i z))[m]?=some (stH y (H i y)):=by rw [List.getElem?_eq_getElem hm,hgm]
  clear hgm
  obtain ⟨FS,hFS⟩:∃ z,((nwS C E.stops).map fun z=>stH z (H i z))=z:=⟨_,rfl⟩
  rw [hFS] at hFi2 hm hix hgq
  have hFSl:FS.length≤20:=by
   rw [← hFS,List.length_map]
   exact Nat.le_trans (nwS_len _ _) he20
  have hIx:=idxC_FS FS (y,x.1,x.2.2.2.2,ML) zqo
  rw [show ixB (fun z:Stp=>z.1 == ((y,x.1,x.2.2.2.2,ML):Nte).1.1) FS=(m:Int) from hix] at hIx
  have hFm:(FS.map eStp)[((m:Nat):Int).toNat]?=some (eStp (stH y (H i y))):=by rw [Int.toNat_natCast,List.getElem?_map,hgq];rfl
  have hFml:(FS.map eStp).length=FS.length:=List.length_map _
  have hIx:Ctr Tryz.prog 108 [.ls 5 (FS.map eStp),.fn 139 [.pr [.sc (.int .i64 y.1),.sc (.int .i64 y.2.1),.sc (.int .i64 y.2.2.1),.sc (.int .i64 y.2.2.2.1),.sc (.int .i64 y.2.2.2.2),.sc (.int .i64 x.1),.sc (.int .i64 x.2.2.2.2),.ls 1 (ML.map eInt)]]] (.sc (.int .i64 (m:Int))):=hIx
  have hNk:NN[((k:Nat):Int).toNat]?=some [.sc (.int .i64 y.1),.sc (.int .i64 y.2.1),.sc (.int .i64 y.2.2.1),.sc (.int .i64 y.2.2.2.1),.sc (.int .i64 y.2.2.2.2),.sc (.int .i64 x.1),.sc (.int .i64 x.2.2.2.2),.ls 1 (ML.map eInt)]:=hNk
  have hFm:(FS.map eStp)[((m:Nat):Int).toNat]?=some [.sc (.int .i64 y.1),.sc (.int .i64 y.2.1),.sc (.int .i64 y.2.2.1),.sc (.int .i64 y.2.2.2.1),.sc (.int .i64 (H i y))]:=hFm
  obtain ⟨FR,hFR⟩:∃ z,FS.map eStp=z:=⟨_,rfl⟩
  rw [hFR] at hFi2 hIx hFm hFml
  clear hFR hFS hgq hix
  repeat (first|refine W.gob rfl ?_|refine WL.nil ?_|refine WL.bt rfl rfl rfl zqo ?_|refine WL.e1 rfl ?_|refine W.condT rfl ?_)
  refine (?_:WL _ _ _ _ _ _)
  refine WL.idx rfl rfl zqo hNk ?_
  repeat (first|refine W.gob rfl ?_|refine WL.nil ?_|refine WL.e1 rfl ?_)
  refine (?_:WL _ _ _ _ _ _)
  refine WL.idx rfl rfl zqo hGk ?_
  repeat (first|refine W.gob rfl ?_|refine WL.nil ?_|refine WL.e1 rfl ?_|refine WL.len rfl rfl zql ?_|refine W.condF rfl ?_)
  refine (?_:W _ _ _ _ _)
  refine W.loop (fun j:Nat=>j≤ML.length) (fun j=>⟨[(2,.pt 0 0 0),(5,.sl 1),(6,.sc (.int .i64 i)),(7,.pt 2 0 0),(8,.sc (.int .i64 k)),(9,.pt 3 0 0),(13,.ls 3 ALL),(14,.sc (.int .i64 ALL.length)),(15,.sc (.int .i64 i)),(31,.ls 8 NN),(32,.sc (.int .i64 NN.length)),(33,.sc (.int .i64 k)),(51,.ls 1 (ML.map eInt)),(52,.sc (.int .i64 ML.length)),(53,.sc (.int .i64 j))],[(0,.box 29 [.ls 3 (cs.map eCrs),.ls 1 (st.map eInt),.ls 6 FF]),(1,.row 72 3 ((Q0++(ML.take j).map (fun w=>((i:Int),x.1,w))).map eLk)),(2,.box 152 [.sc (.int .i64 X),.ls 8 NN,.ls 1 GG]),(3,.box 186 [.sc (.int .i64 y.1),.sc (.int .i64 y.2.1),.sc (.int .i64 y.2.2.1),.sc (.int .i64 y.2.2.2.1),.sc (.int .i64 y.2.2.2.2),.sc (.int .i64 x.1),.sc (.int .i64 x.2.2.2.2),.ls 1 (ML.map eInt)])],4⟩) (fun j=>ML.length - j) 0 (by omega) (zqu (fun q=>q) (by repeat (first|exact trivial|refine ⟨⟨?_,?_,?_⟩,?_⟩|rfl|exact congrArg (fun q=>some (AO.row _ _ q)) (by simp))) rfl) fun j hj=>?_
  have hjl:((Q0++(ML.take j).map (fun w=>((i:Int),x.1,w))).map eLk).length≤40000:=by rw [List.length_map,List.length_append,List.length_map,List.length_take];omega
  by_cases hjt:j < ML.length
  ·have hrow:(Q0++(ML.take j).map (fun w=>((i:Int),x.1,w))).map eLk++[eLk ((i:Int),x.1,ML[j])]=(Q0++(ML.take (j+1)).map (fun w=>((i:Int),x.1,w))).map eLk:=by
    have e:Q0++(ML.take (j+1)).map (fun w=>((i:Int),x.1,w))=Q0++(ML.take j).map (fun w=>((i:Int),x.1,w))++[((i:Int),x.1,ML[j])]:=by
     rw [List.take_succ_eq_append_getElem hjt,List.map_append,List.append_assoc];rfl
    rw [e]
    exact (List.map_append (f:=eLk) (l₂:=[((i:Int),x.1,ML[j])])).symm
   obtain ⟨RR,hRR⟩:∃ z,(Q0++(ML.take j).map (fun w=>((i:Int),x.1,w))).map eLk=z:=⟨_,rfl⟩
   rw [hRR] at hrow hjl ⊢
   repeat (first|refine W.gob rfl ?_|refine WL.nil ?_|refine WL.bt rfl rfl rfl zqo ?_|refine WL.e1 rfl ?_|refine WL.ar rfl rfl z47i ?_|refine WL.idx rfl rfl zqo zqm ?_|refine WL.app rfl rfl rfl zqs ?_|refine W.condT rfl ?_)
   refine ⟨j+1,by omega,by omega,?_⟩
   exact (zqu (fun q=>bif Nat.beq q 1 then 5 else q) (by repeat (first|exact trivial|refine ⟨⟨?_,?_,?_⟩,?_⟩|rfl|exact congrArg (fun q=>some (AO.row _ _ q)) hrow)) rfl)
  obtain rfl:j=ML.length:=by omega
  rw [List.take_length] at hjl ⊢
  obtain ⟨Q1,hQ1⟩:∃ z,Q0++ML.map (fun w=>((i:Int),x.1,w))=z:=⟨_,rfl⟩
  rw [hQ1] at hjl hnext ⊢
  have hQ1l:Q1.length≤40000:=by rw [List.length_map] at hjl;exact hjl
  repeat (first|refine W.gob rfl ?_|refine WL.nil ?_|refine WL.bf rfl rfl rfl zqo ?_|refine WL.e1 rfl ?_|refine W.condF rfl ?_)
  refine (?_:WL _ _ _ _ _ _)
  refine WL.idx rfl rfl zqo hFi2 ?_
  repeat refine WL.e1 rfl ?_
  refine (?_:WL _ _ _ _ _ _)
  refine WL.vl rfl (WV.mkf rfl rfl) ?_
  refine WL.vl rfl (WV.lendV (truH _) rfl (callF Tryz.func108 rfl rfl) rfl rfl rfl rfl rfl rfl truST hIx.g) ?_
  by_cases hh:H i y=x.2.2.2.2
  ·rw [if_pos hh,List.append_nil] at hnext
   have hfin:Q1.map eLk=(M0++(E.stops.take (k+1)).flatMap (lsS C H i)).map eLk:=by rw [hnext]
   repeat (first|refine W.gob rfl ?_|refine WL.nil ?_|refine WL.e1 rfl ?_)
   refine (?_:W _ _ _ _ _)
   refine W.drawK zqk zqk ?_
   repeat refine DK.st rfl ?_
   refine DK.idx rfl rfl zqo hFi2 ?_
   repeat refine DK.st rfl ?_
   refine DK.idx rfl rfl zqo hFm ?_
   repeat (first|refine DK.st rfl ?_|refine DK.nil ?_)
   rw [show decide (H i y=x.2.2.2.2)=true from decide_eq_true hh]
   repeat (first|refine W.gob rfl ?_|refine WL.nil ?_|refine WL.e1 rfl ?_|refine WL.ar rfl rfl z47i ?_|refine W.condF rfl ?_)
   refine ⟨k+1,by omega,by omega,?_⟩
   exact (zqu (fun q=>q) (by repeat (first|exact trivial|refine ⟨⟨?_,?_,?_⟩,?_⟩|rfl|exact congrArg (fun q=>some (AO.row _ _ q)) hfin)) rfl)
  ·rw [if_neg hh] at hnext
   have hfin:Q1.map eLk++[eLk ((i:Int),x.1,4)]=(M0++(E.stops.take (k+1)).flatMap (lsS C H i)).map eLk:=by rw [hnext,List.map_append];rfl
   repeat (first|refine W.gob rfl ?_|refine WL.nil ?_|refine WL.e1 rfl ?_)
   refine (?_:W _ _ _ _ _)
   refine W.drawK zqk zqk ?_
   repeat refine DK.st rfl ?_
   refine DK.idx rfl rfl zqo hFi2 ?_
   repeat refine DK.st rfl ?_
   refine DK.idx rfl rfl zqo hFm ?_
   repeat (first|refine DK.st rfl ?_|refine DK.nil ?_)
   rw [show decide (H i y=x.2.2.2.2)=false from decide_eq_false hh]
   repeat (first|refine W.gob rfl ?_|refine WL.nil ?_|refine WL.e1 rfl ?_|refine WL.ar rfl rfl z47i ?_|refine WL.app rfl rfl rfl zqs ?_|refine W.condT rfl ?_)
   refine ⟨k+1,by omega,by omega,?_⟩
   exact (zqu (fun q=>bif Nat.beq q 1 then 5 else q) (by repeat (first|exact trivial|refine ⟨⟨?_,?_,?_⟩,?_⟩|rfl|exact congrArg (fun q=>some (AO.row _ _ q)) hfin)) rfl)
end
section
open Go.RowKit
theorem oneA_0 (C:Cg) (ht:∀ i e,C.tie i e=e.tie) (cs:List (Int×Int×Bool)) (st:List Int) (L:List AV) (i:Nat) (e:Ev) (h0:e.stops=[]) :
  Cto truB 0 Tryz.prog 106 [.ag [.ls 3 (cs.map eCrs),.ls 1 (st.map eInt),.sc (.bool false),.sc .nilFunc,.fn 118 [.pr L],.sc .nilFunc,.sc .nilFunc],.pt 0 0 0,.sc (.bool (decide (i=0)))] [(0,.box 45 (eEv e))] 1 (.ag (eOc (evT C i e) (ocN C e.stops) (ocG C e.stops)))
   [(0,.box 45 (eEvS (nwE C i e) 1)),(1,.row 48 5 ((nwS C e.stops).map eStp)),(2,.box 152 (eOc (evT C i e) (ocN C e.stops) (ocG C e.stops)))] 3:=by
 obtain ⟨b1,v,d3,t3,t,l⟩:=e
 dsimp only at h0
 subst h0
 have e1:evT C i ⟨b1,v,d3,t3,t,[]⟩=0:=by
  unfold evT
  rw [ht]
  dsimp only
  cases t<;>rfl
 have e2:nwE C i ⟨b1,v,d3,t3,t,[]⟩=⟨b1,v,d3,t3,t,[]⟩:=by
  unfold nwE nwT
  rw [if_pos (show ([]:List Stp).length=0 from rfl),ht];rfl
 rw [e1,e2]
 refine Cto.intro truS Tryz.func106 rfl Tryz.ntmps106 (Nat.le_of_ble_eq_true rfl) rfl fun w0 F0 fp pg hB=>?_
 dsimp only [number,Nat.reduceAdd]
 repeat (first|refine WL.vl rfl (WV.nch rfl rfl) ?_|refine W.gob rfl ?_|refine WL.nil ?_|refine WL.e1 rfl ?_|refine WL.len rfl rfl zql ?_|refine W.condT rfl ?_)
 refine (?_:WL _ _ _ _ _ _)
 refine WL.vl rfl (fnqV_of rfl) ?_
 repeat (first|refine W.gob rfl ?_|refine WL.nil ?_|refine WL.e1 rfl ?_|refine W.condF rfl ?_)
 refine (?_:W _ _ _ _ _)
 refine W.tr (Tr.nilC 2 1 8 rfl rfl rfl) ?_
 refine W.tr (Tr.nilC 2 2 1 rfl rfl rfl) ?_
 refine W.tr (Tr.nilBox (k:=0) (j:=5) 48 5 rfl rfl rfl rfl) ?_
 refine W.tr (σ':=⟨[(6,.pt 2 0 0)],[(0,.box 45 [.sc (.bool b1),.sc (.int .i64 v),.sc (.bool d3),.sc (.bool t3),.sc (.bool t),.sl 1]),(1,.row 48 5 []),(2,.box 152 [.sc (.int .i64 0),.ls 8 [],.ls 1 []])],3⟩) (zqu (fun q=>bif Nat.beq q 1 then 4 else q) (by repeat (first|exact trivial|refine ⟨⟨?_,?_,?_⟩,?_⟩|rfl|exact congrArg (fun q=>some (AO.row _ _ q)) (by first|rfl|(simp;done)|(simp [eInt];done)|(simp [eLk];done)))) rfl) ?_
 exact W.ret (finM rfl rfl rfl rfl rfl)
theorem oneA_1 (C:Cg) (hm:∀ y,C.mr y=y) (hml:∀ y,C.ml y=[]) (ht:∀ i e,C.tie i e=e.tie) (hba:∀ i,C.bare i=decide (0 < i)) (hcr:∀ x y,C.mv x=some y→y.1=x.1∧y.2.2.2.2=x.2.2.2.2) (cs:List (Int×Int×Bool)) (st:List Int) (L:List AV) (i:Nat) (e:Ev) (h0:e.stops≠[]) (ha:e.stops.Pairwise fun x y=>x.1 < y.1) (h14:e.stops.length≤14) (hch:Ctr Tryz.prog 118 [.ls 5 (e.stops.map eStp),.pr L] (.ls 6 ((e.stops.map C.ch).map eKp))) :
  Cto truB 0 Tryz.prog 106 [.ag [.ls 3 (cs.map eCrs),.ls 1 (st.map eInt),.sc (.bool false),.sc .nilFunc,.fn 118 [.pr L],.sc .nilFunc,.sc .nilFunc],.pt 0 0 0,.sc (.bool (decide (i=0)))] [(0,.box 45 (eEv e))] 1 (.ag (eOc (evT C i e) (ocN C e.stops) (ocG C e.stops)))
   [(0,.box 45 (eEvS (nwE C i e) 1)),(1,.row 48 5 ((nwS C e.stops).map eStp)),(2,.box 152 (eOc (evT C i e) (ocN C e.stops) (ocG C e.stops)))] 3:=by
 have h1:C.bare i=!decide (i=0):=by rw [hba];cases i<;>simp
 have hl0:¬ e.stops.length=0:=fun h=>h0 (List.eq_nil_of_length_eq_zero h)
 have e1:evT C i e=0:=if_neg hl0
 have hnl:=nwS_len C e.stops
 have hsort:=ySort_G (nwS C e.stops) (nwS_asc hcr ha) zqo
 have hSl:(e.stops.map eStp).length=e.stops.length:=List.length_map _
 have hKl:((e.stops.map C.ch).map eKp).length=e.stops.length:=by rw [List.length_map,List.length_map]
 have hKa:∀ k (h:k < e.stops.length),((e.stops.map C.ch).map eKp)[((k:Nat):Int).toNat]?=some (eKp (C.ch e.stops[k])):=fun k h=>by rw [Int.toNat_natCast,List.getElem?_map,List.getElem?_map,List.getElem?_eq_getElem h];rfl
 have hSa:∀ k (h:k < e.stops.length),(e.stops.map eStp)[((k:Nat):Int).toNat]?=some (eStp e.stops[k]):=fun k h=>map_at h
 have e2:nwT C i e=(if (nwS C e.stops).length=0 then C.bare i else e.tie):=if_neg hl0
 have e3:eEvS (nwE C i e) 1=[.sc (.bool e.bar),.sc (.int .i64 e.val),.sc (.bool e.dot),.sc (.bool e.three),.sc (.bool (if (nwS C e.stops).length=0 then C.bare i else e.tie)),.sl 1]:=by rw [← e2];rfl
 rw [e1,e3,h1]
 have e4:eEv e=[.sc (.bool e.bar),.sc (.int .i64 e.val),.sc (.bool e.dot),.sc (.bool e.three),.sc (.bool e.tie),.ls 5 (e.stops.map eStp)]:=rfl
 rw [e4]
 obtain ⟨SS,hSS⟩:∃ z,e.stops.map eStp=z:=⟨_,rfl⟩
 obtain ⟨KK,hKK⟩:∃ z,(e.stops.map C.ch).map eKp=z:=⟨_,rfl⟩
 rw [hSS] at hSl hSa hch ⊢
 rw [hKK] at hKl hKa hch
 obtain ⟨fi,hfi⟩:∃ z,decide (i=0)=z:=⟨_,rfl⟩
 rw [hfi]
 refine Cto.intro truS Tryz.func106 rfl Tryz.ntmps106 (Nat.le_of_ble_eq_true rfl) rfl fun w0 F0 fp pg hB=>?_
 dsimp only [number,Nat.reduceAdd]
 repeat (first|refine WL.vl rfl (WV.nch rfl rfl) ?_|refine W.gob rfl ?_|refine WL.nil ?_|refine WL.bf rfl rfl rfl zqo ?_|refine WL.e1 rfl ?_|refine WL.len rfl rfl zql ?_|refine W.condF rfl ?_)
 refine (?_:WL _ _ _ _ _ _)
 refine WL.vl rfl (WV.callV (truH _) rfl (callF Tryz.func118 rfl rfl) rfl rfl rfl rfl rfl hch.g) ?_
 repeat (first|refine W.gob rfl ?_|refine WL.nil ?_|refine WL.e1 rfl ?_|refine WL.len rfl rfl zql ?_)
 refine (?_:W _ _ _ _ _)
 refine W.tr (Tr.nilBox (k:=0) (j:=5) 48 5 rfl rfl rfl rfl) ?_
 refine W.tr (Tr.nilBox (k:=3) (j:=1) 186 8 rfl rfl rfl rfl) ?_
 refine W.tr (Tr.nilBox (k:=3) (j:=2) 4 1 rfl rfl rfl rfl) ?_
 dsimp only [St.put,St.new,St.upd,Nat.reduceAdd]
 refine W.loop (fun k:Nat=>k≤e.stops.length) (fun k=>⟨[(1,.pt 0 0 0),(2,.sc (.bool fi)),(3,.pt 1 0 0),(6,.pt 2 0 0),(7,.pt 3 0 0),(8,.ls 5 SS),(34,.ls 6 KK),(35,.sc (.int .i64 KK.length)),(36,.sc (.int .i64 k))],[(0,.box 45 [.sc (.bool e.bar),.sc (.int .i64 e.val),.sc (.bool e.dot),.sc (.bool e.three),.sc (.bool e.tie),.sl 4]),(1,.box 85 [.ls 3 (cs.map eCrs),.ls 1 (st.map eInt),.sc (.bool false),.sc .nilFunc,.fn 118 [.pr L],.sc .nilFunc,.sc .nilFunc]),(2,.box 152 [.sc (.int .i64 0),.sc (.slice none 0 0),.sc (.slice none 0 0)]),(3,.box 152 [.sc (.int .i64 0),.sl 5,.sl 6]),(4,.row 48 5 ((nwS C (e.stops.take k)).map eStp)),(5,.row 186 8 ((ocN C (e.stops.take k)).map eNt)),(6,.row 4 1 ((ocG C (e.stops.take k)).map eBl))],7⟩) (fun k=>e.stops.length - k) 0 zqo (zqt id) fun k hk=>?_
 have l1:=nwS_len C (e.stops.take k)
 have l2:(e.stops.take k).length=k:=by rw [List.length_take];omega
 have l3:((nwS C (e.stops.take k)).map eStp).length=(nwS C (e.stops.take k)).length:=List.length_map _
 have l4:((ocN C (e.stops.take k)).map eNt).length=k:=by rw [List.length_map,ocN_len,l2]
 have l5:((ocG C (e.stops.take k)).map eBl).length=k:=by rw [List.length_map,ocG_len,l2]
 by_cases hlt:k < e.stops.length
 ·have n1:=nw_rows C hlt
  have n2:=ocN_rows C hlt
  have n3:=ocG_rows C hlt
  have hKk:=hKa k hlt
  have hSk:=hSa k hlt
  have hmk:=hm (C.ch e.stops[k]).1
  have hmm:=hml (C.ch e.stops[k]).1
  obtain ⟨R1,hR1⟩:∃ z,(nwS C (e.stops.take k)).map eStp=z:=⟨_,rfl⟩
  obtain ⟨R2,hR2⟩:∃ z,(ocN C (e.stops.take k)).map eNt=z:=⟨_,rfl⟩
  obtain ⟨R3,hR3⟩:∃ z,(ocG C (e.stops.take k)).map eBl=z:=⟨_,rfl⟩
  rw [hR1] at n1 l3 ⊢
  rw [hR2] at n2 l4 ⊢
  rw [hR3] at n3 l5 ⊢
  clear hR1 hR2 hR3
  obtain ⟨X,hX⟩:∃ z,e.stops[k]=z:=⟨_,rfl⟩
  rw [hX] at n1 n2 n3 hKk hSk hmk hmm
  rw [hmk] at n1 n2
  rw [hmm] at n2
  obtain ⟨Y,lo,hY⟩:∃ Y lo,C.ch X=(Y,lo):=⟨_,_,rfl⟩
  rw [hY] at n1 n2 n3 hKk hmk hmm
  dsimp only at n1 n2 n3
  cases lo with
  | true =>
   have n1:R1=_:=(List.append_nil R1).symm.trans n1
   repeat (first|refine W.gob rfl ?_|refine WL.nil ?_|refine WL.bt rfl rfl rfl zqo ?_|refine WL.e1 rfl ?_|refine W.condT rfl ?_)
   refine (?_:WL _ _ _ _ _ _)
   refine WL.idx rfl rfl zqo hKk ?_
   repeat (first|refine W.gob rfl ?_|refine WL.nil ?_|refine WL.e1 rfl ?_)
   refine (?_:W _ _ _ _ _)
   refine W.of_wa zqk ?_
   refine WA.ds [false,false,false,false,false,false,false,false,false,false,false,false,false,true,true] [7] zqk zqk ⟨rfl,trivial⟩ ?_
   refine DSK.st rfl rfl ?_
   refine DSK.st rfl rfl ?_
   refine DSK.st rfl rfl ?_
   refine DSK.st rfl rfl ?_
   refine DSK.idx rfl rfl zqo hSk ?_
   refine DSK.st rfl rfl ?_
   refine DSK.st rfl rfl ?_
   refine DSK.st rfl rfl ?_
   refine DSK.st rfl rfl ?_
   refine DSK.idx rfl rfl zqo hSk ?_
   refine DSK.st rfl rfl ?_
   refine DSK.st rfl rfl ?_
   refine DSK.st rfl rfl ?_
   refine DSK.al rfl rfl rfl rfl ⟨rfl,trivial⟩ ?_
   refine DSK.sto rfl rfl rfl rfl rfl rfl rfl rfl rfl rfl rfl rfl rfl rfl ⟨rfl,trivial⟩ ?_
   refine DSK.nil ?_
   refine W.tr (Tr.nilC 8 7 1 rfl rfl rfl) ?_
   dsimp only [St.upd]
   repeat (first|refine W.gob rfl ?_|refine WL.nil ?_|refine WL.e1 rfl ?_|refine WL.ar rfl rfl z47i ?_|refine WL.app rfl rfl rfl zqs ?_|refine W.condF rfl ?_)
   refine ⟨k+1,by omega,by omega,?_⟩
   exact (zqu (fun q=>bif Nat.beq q 5 then 12 else bif Nat.beq q 6 then 10 else q) (by repeat (first|exact trivial|refine ⟨⟨?_,?_,?_⟩,?_⟩|rfl|exact congrArg (fun q=>some (AO.row _ _ q)) n1|exact congrArg (fun q=>some (AO.row _ _ q)) n2|exact congrArg (fun q=>some (AO.row _ _ q)) n3)) rfl)
  | false =>
   repeat (first|refine W.gob rfl ?_|refine WL.nil ?_|refine WL.bt rfl rfl rfl zqo ?_|refine WL.e1 rfl ?_|refine W.condT rfl ?_)
   refine (?_:WL _ _ _ _ _ _)
   refine WL.idx rfl rfl zqo hKk ?_
   repeat (first|refine W.gob rfl ?_|refine WL.nil ?_|refine WL.e1 rfl ?_)
   refine (?_:W _ _ _ _ _)
   refine W.of_wa zqk ?_
   refine WA.ds [false,false,false,false,false,false,false,false,false,false,false,false,false,true,true] [7] zqk zqk ⟨rfl,trivial⟩ ?_
   refine DSK.st rfl rfl ?_
   refine DSK.st rfl rfl ?_
   refine DSK.st rfl rfl ?_
   refine DSK.st rfl rfl ?_
   refine DSK.idx rfl rfl zqo hSk ?_
   refine DSK.st rfl rfl ?_
   refine DSK.st rfl rfl ?_
   refine DSK.st rfl rfl ?_
   refine DSK.st rfl rfl ?_
   refine DSK.idx rfl rfl zqo hSk ?_
   refine DSK.st rfl rfl ?_
   refine DSK.st rfl rfl ?_
   refine DSK.st rfl rfl ?_
   refine DSK.al rfl rfl rfl rfl ⟨rfl,trivial⟩ ?_
   refine DSK.sto rfl rfl rfl rfl rfl rfl rfl rfl rfl rfl rfl rfl rfl rfl ⟨rfl,trivial⟩ ?_
   refine DSK.nil ?_
   refine W.tr (Tr.nilC 8 7 1 rfl rfl rfl) ?_
   dsimp only [St.upd]
   repeat (first|refine W.gob rfl ?_|refine WL.nil ?_|refine WL.e1 rfl ?_|refine WL.app rfl rfl rfl zqs ?_|refine W.condT rfl ?_)
   refine (?_:WL _ _ _ _ _ _)
   refine WL.vl rfl (fnqV_of rfl) ?_
   repeat (first|refine W.gob rfl ?_|refine WL.nil ?_|refine W.condF rfl ?_)
   refine (?_:W _ _ _ _ _)
   refine W.of_wa zqk ?_
   refine WA.dt [false,false,false,false,false,false,false,true,true,false,false,true] [8] [8,0] 11 zqk zqk zqk ⟨rfl,trivial⟩ ⟨rfl,rfl,trivial⟩ ?_
   refine DTK.st rfl zqk rfl ?_
   refine DTK.st rfl zqk rfl ?_
   refine DTK.vl rfl zqk (WV.nch rfl rfl) ?_
   refine DTK.st rfl zqk rfl ?_
   refine DTK.st rfl zqk rfl ?_
   refine DTK.st rfl zqk rfl ?_
   refine DTK.st rfl zqk rfl ?_
   refine DTK.bd rfl rfl rfl ⟨rfl,trivial⟩ (fun _=>⟨rfl,rfl,trivial⟩) ?_
   refine DTK.ap rfl rfl (by show R1.length+1≤1000000000;omega) ⟨rfl,trivial⟩ (fun _=>⟨rfl,rfl,trivial⟩) ?_
   refine DTK.vl rfl zqk (WV.nch rfl rfl) ?_
   refine DTK.st rfl zqk rfl ?_
   refine DTK.sto rfl rfl rfl rfl rfl rfl rfl rfl rfl rfl rfl rfl rfl rfl ⟨rfl,trivial⟩ (fun h=>by cases h) ?_
   refine DTK.nil ?_
   repeat (first|refine W.gob rfl ?_|refine WL.nil ?_|refine WL.e1 rfl ?_|refine WL.ar rfl rfl z47i ?_|refine WL.app rfl rfl rfl zqs ?_)
   refine ⟨k+1,by omega,by omega,?_⟩
   exact (zqu (fun q=>bif Nat.beq q 4 then 12 else bif Nat.beq q 5 then 14 else bif Nat.beq q 6 then 10 else q) (by repeat (first|exact trivial|refine ⟨⟨?_,?_,?_⟩,?_⟩|rfl|exact congrArg (fun q=>some (AO.row _ _ q)) n1|exact congrArg (fun q=>some (AO.row _ _ q)) n2|exact congrArg (fun q=>some (AO.row _ _ q)) n3)) rfl)
 ·obtain rfl:k=e.stops.length:=by omega
  rw [List.take_length] at l3 l4 l5 ⊢
  by_cases hz:(nwS C e.stops).length=0
  ·rw [if_pos hz]
   cases fi
   all_goals
    repeat (first|refine WL.vl rfl (WV.nch rfl rfl) ?_|refine W.gob rfl ?_|refine WL.nil ?_|refine WL.bf rfl rfl rfl zqo ?_|refine WL.e1 rfl ?_|refine W.condF rfl ?_)
    refine (?_:WL _ _ _ _ _ _)
    refine WL.cto (truH _) [4] rfl rfl (callF Tryz.func134 rfl rfl) hsort rfl rfl rfl ⟨⟨rfl,rfl,rfl⟩,trivial⟩ rfl rfl rfl rfl ?_
    repeat (first|refine WL.vl rfl (WV.nch rfl rfl) ?_|refine W.gob rfl ?_|refine WL.nil ?_|refine WL.bt rfl rfl rfl zqo ?_|refine WL.e1 rfl ?_|refine WL.gyes rfl rfl rfl rfl ?_|refine WL.opno rfl rfl rfl rfl rfl rfl rfl ?_|refine WL.len rfl rfl zql ?_|refine W.condT rfl ?_)
    refine (?_:W _ _ _ _ _)
    refine W.tr (Tr.freeze 5 rfl) ?_
    refine W.tr (Tr.freeze 6 rfl) ?_
    first
     | (refine W.tr (σ':=⟨[(6,.pt 2 0 0)],[(0,.box 45 [.sc (.bool e.bar),.sc (.int .i64 e.val),.sc (.bool e.dot),.sc (.bool e.three),.sc (.bool true),.sl 1]),(1,.row 48 5 ((nwS C e.stops).map eStp)),(2,.box 152 (eOc 0 (ocN C e.stops) (ocG C e.stops)))],3⟩) (zqu (fun q=>bif Nat.beq q 1 then 4 else q) (by repeat (first|exact trivial|refine ⟨⟨?_,?_,?_⟩,?_⟩|rfl|exact congrArg (fun q=>some (AO.row _ _ q)) (by first|rfl|(simp;done)|(simp [eInt];done)|(simp [eLk];done)))) rfl) ?_;exact W.ret (finM rfl rfl rfl rfl rfl))
     | (refine W.tr (σ':=⟨[(6,.pt 2 0 0)],[(0,.box 45 [.sc (.bool e.bar),.sc (.int .i64 e.val),.sc (.bool e.dot),.sc (.bool e.three),.sc (.bool false),.sl 1]),(1,.row 48 5 ((nwS C e.stops).map eStp)),(2,.box 152 (eOc 0 (ocN C e.stops) (ocG C e.stops)))],3⟩) (zqu (fun q=>bif Nat.beq q 1 then 4 else q) (by repeat (first|exact trivial|refine ⟨⟨?_,?_,?_⟩,?_⟩|rfl|exact congrArg (fun q=>some (AO.row _ _ q)) (by first|rfl|(simp;done)|(simp [eInt];done)|(simp [eLk];done)))) rfl) ?_;exact W.ret (finM rfl rfl rfl rfl rfl))
  ·rw [if_neg hz]
   repeat (first|refine WL.vl rfl (WV.nch rfl rfl) ?_|refine W.gob rfl ?_|refine WL.nil ?_|refine WL.bf rfl rfl rfl zqo ?_|refine WL.e1 rfl ?_|refine W.condF rfl ?_)
   refine (?_:WL _ _ _ _ _ _)
   refine WL.cto (truH _) [4] rfl rfl (callF Tryz.func134 rfl rfl) hsort rfl rfl rfl ⟨⟨rfl,rfl,rfl⟩,trivial⟩ rfl rfl rfl rfl ?_
   repeat (first|refine WL.vl rfl (WV.nch rfl rfl) ?_|refine W.gob rfl ?_|refine WL.nil ?_|refine WL.bf rfl rfl rfl zqo ?_|refine WL.e1 rfl ?_|refine WL.len rfl rfl zql ?_|refine W.condF rfl ?_)
   refine (?_:W _ _ _ _ _)
   refine W.tr (Tr.freeze 5 rfl) ?_
   refine W.tr (Tr.freeze 6 rfl) ?_
   refine W.tr (σ':=⟨[(6,.pt 2 0 0)],[(0,.box 45 [.sc (.bool e.bar),.sc (.int .i64 e.val),.sc (.bool e.dot),.sc (.bool e.three),.sc (.bool e.tie),.sl 1]),(1,.row 48 5 ((nwS C e.stops).map eStp)),(2,.box 152 (eOc 0 (ocN C e.stops) (ocG C e.stops)))],3⟩) (zqu (fun q=>bif Nat.beq q 1 then 4 else q) (by repeat (first|exact trivial|refine ⟨⟨?_,?_,?_⟩,?_⟩|rfl|exact congrArg (fun q=>some (AO.row _ _ q)) (by first|rfl|(simp;done)|(simp [eInt];done)|(simp [eLk];done)))) rfl) ?_
   exact W.ret (finM rfl rfl rfl rfl rfl)
end
end Go.Proofs.YtaeelcfjkhfpkaaGreat
