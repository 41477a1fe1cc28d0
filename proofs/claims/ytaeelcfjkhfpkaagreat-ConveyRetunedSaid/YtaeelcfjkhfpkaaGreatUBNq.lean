/- The look of the laws at pitches: what is kept keeps its pitch (theorbolaw04.keeps). -/
import Derived.Test.YtaeelcfjkhfpkaaGreatW04Nq
import Derived.Test.YtaeelcfjkhfpkaaGreatPSmNq
set_option maxHeartbeats 8000000
set_option maxRecDepth 100000
set_option linter.unusedVariables false
set_option linter.unusedSimpArgs false
namespace Go.Proofs.YtaeelcfjkhfpkaaGreat
section
open Go.RowKit
theorem z44i {z:Int} (h:I64 z:=by unfold I64;omega):I64 z:=h
def toldB(l:List Lck)(i c w:Int):Bool:=l.any fun x=>x == (i,c,w)
theorem toldB_mem {l:List Lck} {i c w:Int}:toldB l i c w=decide ((i,c,w)∈l):=by
 unfold toldB
 by_cases h:(i,c,w)∈l
 ·rw [decide_eq_true h,List.any_eq_true]
  exact⟨_,h,by simp⟩
 ·rw [decide_eq_false h,List.any_eq_false]
  intro x hx hxe
  have:x=(i,c,w):=by simpa using hxe
  exact h (this ▸ hx)
theorem ztold_FS (l:List Lck) (hl:l.length≤30000) (i c w:Int):Ctr Tryz.prog 21 [.ls 3 (l.map eLk),.sc (.int .i64 i),.sc (.int .i64 c),.sc (.int .i64 w)] (.sc (.bool (toldB l i c w))):=by
 have hAt:∀ k (h:k < l.length),(l.map eLk)[((k:Nat):Int).toNat]?=some [.sc (.int .i64 l[k].1),.sc (.int .i64 l[k].2.1),.sc (.int .i64 l[k].2.2)]:=fun k h=>by
  rw [Int.toNat_natCast,List.getElem?_map,List.getElem?_eq_getElem h];rfl
 have hEl:(l.map eLk).length=l.length:=List.length_map _
 obtain ⟨LE,hLE⟩:∃ z,l.map eLk=z:=⟨_,rfl⟩
 rw [hLE] at hAt hEl ⊢
 clear hLE
 refine zqe Tryz.func21 Tryz.ntmps21 fun w0 F0=>?_;dsimp only [St.init,number,Nat.reduceAdd]
 repeat (first|refine WL.vl rfl (WV.nch rfl rfl) ?_|refine W.gob rfl ?_|refine WL.nil ?_|refine WL.bt rfl rfl rfl zqo ?_|refine WL.bf rfl rfl rfl zqo ?_|refine WL.e1 rfl ?_|refine WL.ar rfl rfl z44i ?_|refine WL.len rfl rfl rfl ?_|refine W.condT rfl ?_|refine W.condF rfl ?_)
 (first|refine (?_:W _ _ _ _ _)|refine (?_:WL _ _ _ _ _ _)|skip)
 try dsimp only [St.put,Nat.reduceAdd]
 refine W.loop (fun k:Nat=>k≤l.length∧toldB (l.take k) i c w=false) (fun k=>⟨[(0,.ls 3 LE),(1,.sc (.int .i64 i)),(2,.sc (.int .i64 c)),(3,.sc (.int .i64 w)),(9,.sc (.int .i64 k))],[],0⟩) (fun k=>l.length - k) 0 ⟨by omega,rfl⟩ (zqt id) fun k hk=>?_
 obtain ⟨hk,hno⟩:=hk
 by_cases hlt:k < l.length
 ·have h1:=hAt k hlt
  have hnx:toldB (l.take (k+1)) i c w=(l[k].1 == i && (l[k].2.1 == c && l[k].2.2 == w)):=by
   have e:toldB (l.take (k+1)) i c w=(toldB (l.take k) i c w|| (l[k] == (i,c,w))):=by
    unfold toldB
    rw [List.take_succ_eq_append_getElem hlt,List.any_append];simp
   rw [e,hno,Bool.false_or];rfl
  have hyes:(l[k].1 == i && (l[k].2.1 == c && l[k].2.2 == w))=true→toldB l i c w=true:=fun h=>by
   unfold toldB
   rw [List.any_eq_true]
   exact ⟨l[k],List.getElem_mem hlt,h⟩
  obtain ⟨b,hb⟩:∃ z,(l[k].1 == i && (l[k].2.1 == c && l[k].2.2 == w))=z:=⟨_,rfl⟩
  rw [hb] at hnx hyes
  have heq:=fun w=>eqs_lak l[k].1 l[k].2.1 l[k].2.2 i c w
  cases b with
  | true =>
   rw [hyes rfl]
   repeat (first|refine WL.vl rfl (WV.nch rfl rfl) ?_|refine W.gob rfl ?_|refine WL.nil ?_|refine WL.bt rfl rfl rfl zqo ?_|refine WL.bf rfl rfl rfl zqo ?_|refine WL.e1 rfl ?_|refine WL.ar rfl rfl z44i ?_|refine WL.len rfl rfl rfl ?_|refine W.condT rfl ?_|refine W.condF rfl ?_)
   (first|refine (?_:W _ _ _ _ _)|refine (?_:WL _ _ _ _ _ _)|skip)
   try dsimp only [St.put,Nat.reduceAdd]
   refine WL.idx rfl rfl zqo h1 ?_
   repeat (first|refine WL.vl rfl (WV.nch rfl rfl) ?_|refine W.gob rfl ?_|refine WL.nil ?_|refine WL.bt rfl rfl rfl zqo ?_|refine WL.bf rfl rfl rfl zqo ?_|refine WL.e1 rfl ?_|refine WL.ar rfl rfl z44i ?_|refine WL.len rfl rfl rfl ?_|refine W.condT rfl ?_|refine W.condF rfl ?_)
   (first|refine (?_:W _ _ _ _ _)|refine (?_:WL _ _ _ _ _ _)|skip)
   try dsimp only [St.put,Nat.reduceAdd]
   refine WL.vl rfl (WV.aeq rfl rfl rfl rfl rfl zqk (fun w2=>eqs_lak _ _ _ _ _ _ w2)) ?_
   rw [hb]
   repeat (first|refine WL.vl rfl (WV.nch rfl rfl) ?_|refine W.gob rfl ?_|refine WL.nil ?_|refine WL.bt rfl rfl rfl zqo ?_|refine WL.bf rfl rfl rfl zqo ?_|refine WL.e1 rfl ?_|refine WL.ar rfl rfl z44i ?_|refine WL.len rfl rfl rfl ?_|refine W.condT rfl ?_|refine W.condF rfl ?_)
   (first|refine (?_:W _ _ _ _ _)|refine (?_:WL _ _ _ _ _ _)|skip)
   try dsimp only [St.put,Nat.reduceAdd]
   exact W.ret zqr
  | false =>
   repeat (first|refine WL.vl rfl (WV.nch rfl rfl) ?_|refine W.gob rfl ?_|refine WL.nil ?_|refine WL.bt rfl rfl rfl zqo ?_|refine WL.bf rfl rfl rfl zqo ?_|refine WL.e1 rfl ?_|refine WL.ar rfl rfl z44i ?_|refine WL.len rfl rfl rfl ?_|refine W.condT rfl ?_|refine W.condF rfl ?_)
   (first|refine (?_:W _ _ _ _ _)|refine (?_:WL _ _ _ _ _ _)|skip)
   try dsimp only [St.put,Nat.reduceAdd]
   refine WL.idx rfl rfl zqo h1 ?_
   repeat (first|refine WL.vl rfl (WV.nch rfl rfl) ?_|refine W.gob rfl ?_|refine WL.nil ?_|refine WL.bt rfl rfl rfl zqo ?_|refine WL.bf rfl rfl rfl zqo ?_|refine WL.e1 rfl ?_|refine WL.ar rfl rfl z44i ?_|refine WL.len rfl rfl rfl ?_|refine W.condT rfl ?_|refine W.condF rfl ?_)
   (first|refine (?_:W _ _ _ _ _)|refine (?_:WL _ _ _ _ _ _)|skip)
   try dsimp only [St.put,Nat.reduceAdd]
   refine WL.vl rfl (WV.aeq rfl rfl rfl rfl rfl zqk (fun w2=>eqs_lak _ _ _ _ _ _ w2)) ?_
   rw [hb]
   repeat (first|refine WL.vl rfl (WV.nch rfl rfl) ?_|refine W.gob rfl ?_|refine WL.nil ?_|refine WL.bt rfl rfl rfl zqo ?_|refine WL.bf rfl rfl rfl zqo ?_|refine WL.e1 rfl ?_|refine WL.ar rfl rfl z44i ?_|refine WL.len rfl rfl rfl ?_|refine W.condT rfl ?_|refine W.condF rfl ?_)
   (first|refine (?_:W _ _ _ _ _)|refine (?_:WL _ _ _ _ _ _)|skip)
   try dsimp only [St.put,Nat.reduceAdd]
   exact ⟨k+1,⟨by omega,hnx⟩,by omega,(zqt id)⟩
 ·obtain rfl:k=l.length:=by omega
  rw [List.take_length] at hno
  rw [hno]
  repeat (first|refine WL.vl rfl (WV.nch rfl rfl) ?_|refine W.gob rfl ?_|refine WL.nil ?_|refine WL.bt rfl rfl rfl zqo ?_|refine WL.bf rfl rfl rfl zqo ?_|refine WL.e1 rfl ?_|refine WL.ar rfl rfl z44i ?_|refine WL.len rfl rfl rfl ?_|refine W.condT rfl ?_|refine W.condF rfl ?_)
  (first|refine (?_:W _ _ _ _ _)|refine (?_:WL _ _ _ _ _ _)|skip)
  try dsimp only [St.put,Nat.reduceAdd]
  exact W.ret zqr
end
section
open Go.RowKit
theorem lsS_fst {C:Cg} {H:Nat→Stp→Int} {i:Nat} {x:Stp}:∀ z∈lsS C H i x,z.1=i∧z.2.1=x.1:=by
 intro z hz
 unfold lsS at hz
 split at hz
 ·rw [List.mem_singleton]at hz;subst hz;exact⟨rfl,rfl⟩
 ·rcases List.mem_append.1 hz with h|h
  ·obtain⟨w,_,rfl⟩:=List.mem_map.1 h;exact⟨rfl,rfl⟩
  ·split at h
   ·cases h
   ·rw [List.mem_singleton]at h;subst h;exact⟨rfl,rfl⟩
theorem lsE_fst {C:Cg} {H:Nat→Stp→Int} {i:Nat} {e:Ev}:∀ z∈lsE C H i e,z.1=i:=by
 intro z hz
 unfold lsE at hz
 rcases List.mem_append.1 hz with h|h
 ·unfold lsH at h
  split at h
  ·cases h
  ·rw [List.mem_singleton]at h;subst h;rfl
 ·obtain⟨x,_,h⟩:=List.mem_flatMap.1 h
  exact(lsS_fst z h).1
theorem lsL_mem {C:Cg} {H:Nat→Stp→Int} {evs:List Ev}:∀ n,n≤evs.length→∀ (i:Nat)(hi:i<evs.length)(c w:Int),i<n→(((i:Int),c,w)∈lsL C H evs n↔((i:Int),c,w)∈lsE C H i evs[i])
 | 0,_,i,hi,c,w,h=>absurd h (Nat.not_lt_zero _)
 | n+1,hn,i,hi,c,w,h=>by
  rw [lsL_at (show n<evs.length by omega),List.mem_append]
  by_cases e:i=n
  ·subst e
   refine⟨fun h=>?_,.inr⟩
   rcases h with h|h
   ·exfalso
    have key:∀ m,m≤evs.length→∀ z∈lsL C H evs m,z.1<m:=by
     intro m
     induction m with
     | zero=>intro _ z hz;cases hz
     | succ m ih =>
      intro hm z hz
      rw [lsL_at (show m<evs.length by omega)] at hz
      rcases List.mem_append.1 hz with h|h
      ·have:=ih zqo z h;omega
      ·have:=lsE_fst z h;omega
    have:=key i zqo _ h
    dsimp only at this
    omega
   ·exact h
  ·rw [lsL_mem n (by omega) i hi c w (by omega)]
   refine⟨fun h=>?_,.inl⟩
   rcases h with h|h
   ·exact h
   ·have:=lsE_fst _ h
    dsimp only at this
    omega
theorem told_at {C:Cg} {H:Nat→Stp→Int} {evs:List Ev} {i:Nat} (hi:i<evs.length)(c w:Int):toldB (lsL C H evs evs.length) i c w=toldB (lsE C H i evs[i]) i c w:=by
 rw [toldB_mem,toldB_mem]
 exact decide_eq_decide.2 (lsL_mem evs.length (Nat.le_refl _) i hi c w hi)
theorem told_st {C:Cg} {H:Nat→Stp→Int} {i:Nat} {e:Ev} (ha:e.stops.Pairwise fun x y=>x.1<y.1) (h1:∀ x∈e.stops,1≤x.1) {x:Stp} (hx:x∈e.stops) (w:Int):toldB (lsE C H i e) i x.1 w=toldB (lsS C H i x) i x.1 w:=by
 rw [toldB_mem,toldB_mem]
 refine decide_eq_decide.2 ⟨fun h=>?_,fun h=>?_⟩
 ·unfold lsE at h
  rcases List.mem_append.1 h with h|h
  ·unfold lsH at h
   split at h
   ·cases h
   ·rw [List.mem_singleton] at h
    have:=congrArg (fun z:Lck=>z.2.1) h
    dsimp only at this
    have:=h1 x hx
    omega
  ·obtain ⟨y,hy,h⟩:=List.mem_flatMap.1 h
   have:=(lsS_fst _ h).2
   dsimp only at this
   have hxy:x=y:=mem_crs ha hx hy this
   subst hxy
   exact h
 ·unfold lsE
  exact List.mem_append.2 (.inr (List.mem_flatMap.2 ⟨x,hx,h⟩))
theorem told_lost {C:Cg} {H:Nat→Stp→Int} {i:Nat} {x:Stp} (hc:(C.ch x).2=true):(lsS C H i x).length=1∧toldB (lsS C H i x) i x.1 1=true:=by
 rw [lsS_lost hc]
 refine⟨rfl,?_⟩
 unfold toldB
 simp
theorem told_kept {C:Cg} (hC:CgLs C) {H:Nat→Stp→Int} {i:Nat} {x:Stp} (hc:(C.ch x).2=false) :
  (lsS C H i x).length=((if (C.mr (C.ch x).1).2.2.1=x.2.2.1 then 0 else 1)+(if (C.mr (C.ch x).1).2.2.2.1=x.2.2.2.1 then 0 else 1))+(if H i (C.mr (C.ch x).1)=x.2.2.2.2 then 0 else 1)∧toldB (lsS C H i x) i x.1 1=false ∧
  toldB (lsS C H i x) i x.1 2=!decide ((C.mr (C.ch x).1).2.2.1=x.2.2.1)∧toldB (lsS C H i x) i x.1 3=!decide ((C.mr (C.ch x).1).2.2.2.1=x.2.2.2.1)∧toldB (lsS C H i x) i x.1 4=!decide (H i (C.mr (C.ch x).1)=x.2.2.2.2):=by
 rw [lsS_kept hC hc]
 generalize H i (C.mr (C.ch x).1)=h
 generalize C.mr (C.ch x).1=y
 unfold toldB
 by_cases e1:y.2.2.1=x.2.2.1<;>by_cases e2:y.2.2.2.1=x.2.2.2.1<;>by_cases e3:h=x.2.2.2.2<;>simp [e1,e2,e3]
theorem crs_kept {C:Cg} (hcr:∀ x y,C.mv x=some y→y.1=x.1∧y.2.2.2.2=x.2.2.2.2) {l:List Stp} (ha:l.Pairwise fun x y=>x.1<y.1) {k:Nat} (hk:k<l.length) (hc:(C.ch l[k]).2=false) (f:Stp→Int) :
  ∃ N,((nwS C l).map fun y=>stH y (f y))[N]?=some (stH (C.mr (C.ch l[k]).1) (f (C.mr (C.ch l[k]).1)))∧∀ (j:Nat) (y:Stp),((nwS C l).map fun y=>stH y (f y))[j]?=some y→(y.1=l[k].1↔j=N):=by
 have hN:=nw_pos hk hc f
 have hm:C.mv l[k]=some (C.mr (C.ch l[k]).1):=if_neg (by rw [hc];simp)
 have e1:=(hcr _ _ hm).1
 have hasc:=map_stH_asc (f:=f) (nwS_asc hcr ha)
 refine ⟨_,hN,fun j y hj=>⟨fun h=>?_,fun h=>?_⟩⟩
 ·obtain ⟨h1,h2⟩:=List.getElem?_eq_some_iff.1 hN
  obtain ⟨h3,h4⟩:=List.getElem?_eq_some_iff.1 hj
  rcases Nat.lt_trichotomy j (kpS C (l.take k)).length with q|q|q
  ·have:=List.pairwise_iff_getElem.1 hasc j _ h3 h1 q
   rw [h2,h4]at this
   have e2:(stH (C.mr (C.ch l[k]).1) (f (C.mr (C.ch l[k]).1))).1=(C.mr (C.ch l[k]).1).1:=rfl
   omega
  ·exact q
  ·have:=List.pairwise_iff_getElem.1 hasc _ j h1 h3 q
   rw [h2,h4]at this
   have e2:(stH (C.mr (C.ch l[k]).1) (f (C.mr (C.ch l[k]).1))).1=(C.mr (C.ch l[k]).1).1:=rfl
   omega
 ·subst h
  rw [hN]at hj
  cases hj
  exact e1
end
section
open Go.RowKit
theorem lost_ne {C:Cg} (hcr:∀ x y,C.mv x=some y→y.1=x.1∧y.2.2.2.2=x.2.2.2.2) {l:List Stp} (ha:l.Pairwise fun x y=>x.1<y.1) {x:Stp} (hx:x∈l)(hc:(C.ch x).2=true)(f:Stp→Int)(j:Nat)(y:Stp)(hj:((nwS C l).map fun y=>stH y (f y))[j]?=some y):y.1≠x.1:=by
 intro he
 obtain⟨y0,hy0,rfl⟩:=List.mem_map.1 (List.mem_of_getElem? hj)
 obtain⟨z,hz,hm⟩:=nwS_mem hy0
 have e1:=(hcr z y0 hm).1
 have he:y0.1=x.1:=he
 have e2:=mem_crs ha hz hx zqo
 subst e2
 unfold Cg.mv at hm
 rw [if_pos hc]at hm
 cases hm
theorem keeps_FS (C:Cg) (hC:CgLs C) (p:Pce) (hO:PcOk p) (h0:pceE p=0) (cs:List (Int×Int×Bool)) (st:List Int) (H:Nat→Stp→Int) (hq:pceE ⟨cs,st,fnL H (nwL C p.evs)⟩=0) (hq1:cs.length≤64) (hq2:st.length≤64)
  (hp:∀ k (hk:k < p.evs.length),∀ x∈p.evs[k].stops,∀ y,C.mv x=some y→pitN cs st y.1 y.2.1=pitN p.cs p.st x.1 x.2.1) (hml:(lsL C H p.evs p.evs.length).length≤30000) :
  Ctr Tryz.prog 41 [ePce p,ePce ⟨cs,st,fnL H (nwL C p.evs)⟩,.ls 3 ((lsL C H p.evs p.evs.length).map eLk)] (.sc (.bool true)):=by
 have hn3:=hO.n3
 obtain ⟨hI,_,_⟩:=pceE_zero h0
 obtain ⟨hI2,_,_⟩:=pceE_zero hq
 have hI2:insE cs st=0:=hI2
 have hRl:((fnL H (nwL C p.evs)).map eEv).length=p.evs.length:=by rw [List.length_map,fnL_len,nwL_len]
 have hPl:(p.evs.map eEv).length=p.evs.length:=List.length_map _
 have hTo:∀ i (h:i < p.evs.length) (c w:Int),Ctr Tryz.prog 21 [.ls 3 ((lsL C H p.evs p.evs.length).map eLk),.sc (.int .i64 i),.sc (.int .i64 c),.sc (.int .i64 w)] (.sc (.bool (toldB (lsE C H i p.evs[i]) i c w))):=fun i h c w=>by
  have h1:=ztold_FS (lsL C H p.evs p.evs.length) hml i c w
  rw [told_at h] at h1
  exact h1
 have hEv:∀ k (h:k < p.evs.length),(p.evs.map eEv)[((k:Nat):Int).toNat]?=some [.sc (.bool p.evs[k].bar),.sc (.int .i64 p.evs[k].val),.sc (.bool p.evs[k].dot),.sc (.bool p.evs[k].three),.sc (.bool p.evs[k].tie),.ls 5 (p.evs[k].stops.map eStp)]:=fun k h=>by
  rw [Int.toNat_natCast,List.getElem?_map,List.getElem?_eq_getElem h];rfl
 have hRv:∀ k (h:k < p.evs.length),∃ a b c d e,((fnL H (nwL C p.evs)).map eEv)[((k:Nat):Int).toNat]?=some [.sc (.bool a),.sc (.int .i64 b),.sc (.bool c),.sc (.bool d),.sc (.bool e),.ls 5 (((nwS C p.evs[k].stops).map fun y=>stH y (H k y)).map eStp)]:=fun k h=>by
  have h3:k < (nwL C p.evs).length:=by rw [nwL_len];exact h
  refine ⟨p.evs[k].bar,p.evs[k].val,p.evs[k].dot,p.evs[k].three,nwT C k p.evs[k],?_⟩
  rw [Int.toNat_natCast,List.getElem?_map,List.getElem?_eq_getElem (by rw [fnL_len];exact h3),fnL_get h3,nwL_get h];rfl
 have hAt1:∀ i (hi:i < p.evs.length) k (hk:k < p.evs[i].stops.length),Ctr Tryz.prog 85 [.ag [.ls 3 (p.cs.map eCrs),.ls 1 (p.st.map eInt)],.ag [.sc (.int .i64 p.evs[i].stops[k].1),.sc (.int .i64 p.evs[i].stops[k].2.1)]] (.tu [.sc (.int .i64 (pitN p.cs p.st p.evs[i].stops[k].1 p.evs[i].stops[k].2.1)),.sc (.int .i64 0)]):=fun i hi k hk=>by
  have hS:=(evOk_of h0 hi).stops _ (List.getElem_mem hk)
  exact pAt_FS p.cs p.st _ _ hI hS.crs hS.fret
 have hAt2:∀ i (hi:i < p.evs.length) (y:Stp),y∈(nwS C p.evs[i].stops).map (fun y=>stH y (H i y))→Ctr Tryz.prog 85 [.ag [.ls 3 (cs.map eCrs),.ls 1 (st.map eInt)],.ag [.sc (.int .i64 y.1),.sc (.int .i64 y.2.1)]] (.tu [.sc (.int .i64 (pitN cs st y.1 y.2.1)),.sc (.int .i64 0)]):=fun i hi y hy=>by
  have h3:i < (nwL C p.evs).length:=by rw [nwL_len];exact hi
  have hk:i < (fnL H (nwL C p.evs)).length:=by rw [fnL_len];exact h3
  have hE:=evOk_of hq (k:=i) hk
  have e1:(fnL H (nwL C p.evs))[i]'hk=fnE H i (nwE C i p.evs[i]):=by rw [fnL_get h3,nwL_get hi]
  have hS:=hE.stops y (by show y∈((fnL H (nwL C p.evs))[i]'hk).stops;rw [e1];exact hy)
  exact pAt_FS cs st _ _ hI2 hS.crs hS.fret
 have hCp1:=insCopy_FS p.cs p.st hO.n1 hO.n2
 have hCp1:Ctr Tryz.prog 35 [.ag [.ls 3 (p.cs.map eCrs),.ls 1 (p.st.map eInt)]] (.ag [.ls 3 (p.cs.map eCrs),.ls 1 (p.st.map eInt)]):=hCp1
 have hCp2:=insCopy_FS cs st hq1 hq2
 have hCp2:Ctr Tryz.prog 35 [.ag [.ls 3 (cs.map eCrs),.ls 1 (st.map eInt)]] (.ag [.ls 3 (cs.map eCrs),.ls 1 (st.map eInt)]):=hCp2
 have hEo:=fun k (hk:k < p.evs.length)=>evOk_of h0 hk
 have h20:=hO.n4
 have hPe:ePce p=.ag [.ls 3 (p.cs.map eCrs),.ls 1 (p.st.map eInt),.ls 6 (p.evs.map eEv)]:=rfl
 have hRe:ePce ⟨cs,st,fnL H (nwL C p.evs)⟩=.ag [.ls 3 (cs.map eCrs),.ls 1 (st.map eInt),.ls 6 ((fnL H (nwL C p.evs)).map eEv)]:=rfl
 rw [hPe,hRe]
 obtain ⟨LL,hLL⟩:∃ z,(lsL C H p.evs p.evs.length).map eLk=z:=⟨_,rfl⟩
 obtain ⟨RV,hRV⟩:∃ z,(fnL H (nwL C p.evs)).map eEv=z:=⟨_,rfl⟩
 obtain ⟨EV,hEV⟩:∃ z,p.evs.map eEv=z:=⟨_,rfl⟩
 rw [hLL,hRV,hEV]
 simp only [hLL] at hTo
 rw [hRV] at hRl
 simp only [hRV] at hRv
 rw [hEV] at hPl
 simp only [hEV] at hEv
 obtain ⟨C1,hC1⟩:∃ z,p.cs.map eCrs=z:=⟨_,rfl⟩
 obtain ⟨C2,hC2⟩:∃ z,cs.map eCrs=z:=⟨_,rfl⟩
 rw [hC1,hC2]
 rw [hC1] at hCp1
 rw [hC2] at hCp2
 simp only [hC1] at hAt1
 simp only [hC2] at hAt2
 clear hPe hRe hml
 refine zqe Tryz.func41 Tryz.ntmps41 fun w0 F0=>?_;dsimp only [St.init,number,Nat.reduceAdd]
 repeat (first|refine WL.vl rfl (WV.nch rfl rfl) ?_|refine W.gob rfl ?_|refine WL.nil ?_|refine WL.bt rfl rfl rfl zqo ?_|refine WL.bf rfl rfl rfl zqo ?_|refine WL.nf rfl rfl rfl zqo ?_|refine WL.e1 rfl ?_|refine WL.gyes rfl rfl rfl rfl ?_|refine WL.opno rfl rfl rfl rfl rfl rfl rfl ?_|refine WL.ar rfl rfl z44i ?_|refine WL.len rfl rfl rfl ?_|refine W.condT rfl ?_|refine W.condF rfl ?_)
 (first|refine (?_:W _ _ _ _ _)|refine (?_:WL _ _ _ _ _ _)|skip)
 try dsimp only [St.put,Nat.reduceAdd]
 refine W.loop (fun i:Nat=>i≤p.evs.length) (fun i=>⟨[(2,.ls 3 LL),(3,.pt 0 0 0),(4,.pt 1 0 0),(7,.sc (.int .i64 i))],[(0,.box 29 [.ls 3 C1,.ls 1 (p.st.map eInt),.ls 6 EV]),(1,.box 29 [.ls 3 C2,.ls 1 (st.map eInt),.ls 6 RV])],2⟩) (fun i=>p.evs.length - i) 0 zqo (zqt id) fun i hi=>?_
 by_cases hlt:i < p.evs.length
 ·have h1:=hEv i hlt
  obtain ⟨xa,xb,xc,xd,xe,h2⟩:=hRv i hlt
  have hE:=hEo i hlt
  have hT:=hTo i hlt
  have hA1:=hAt1 i hlt
  have hA2:=hAt2 i hlt
  have hpt:=hp i hlt
  have h20:=h20 i hlt
  have hSl:(p.evs[i].stops.map eStp).length=p.evs[i].stops.length:=List.length_map _
  have hYl:(((nwS C p.evs[i].stops).map fun y=>stH y (H i y)).map eStp).length=(nwS C p.evs[i].stops).length:=by rw [List.length_map,List.length_map]
  have hYn:=nwS_len C p.evs[i].stops
  have hSt2:∀ k (h:k < p.evs[i].stops.length),(p.evs[i].stops.map eStp)[((k:Nat):Int).toNat]?=some [.sc (.int .i64 p.evs[i].stops[k].1),.sc (.int .i64 p.evs[i].stops[k].2.1),.sc (.int .i64 p.evs[i].stops[k].2.2.1),.sc (.int .i64 p.evs[i].stops[k].2.2.2.1),.sc (.int .i64 p.evs[i].stops[k].2.2.2.2)]:=fun k h=>by
   rw [Int.toNat_natCast,List.getElem?_map,List.getElem?_eq_getElem h];rfl
  have hYt:∀ k (h:k < (nwS C p.evs[i].stops).length),∃ y:Stp,y∈(nwS C p.evs[i].stops).map (fun y=>stH y (H i y))∧((nwS C p.evs[i].stops).map fun y=>stH y (H i y))[k]?=some y∧(((nwS C p.evs[i].stops).map fun y=>stH y (H i y)).map eStp)[((k:Nat):Int).toNat]?=some [.sc (.int .i64 y.1),.sc (.int .i64 y.2.1),.sc (.int .i64 y.2.2.1),.sc (.int .i64 y.2.2.2.1),.sc (.int .i64 y.2.2.2.2)]:=fun k h=>by
   have hk:k < ((nwS C p.evs[i].stops).map fun y=>stH y (H i y)).length:=by rw [List.length_map];exact h
   refine ⟨_,List.getElem_mem hk,List.getElem?_eq_getElem hk,?_⟩
   rw [Int.toNat_natCast,List.getElem?_map,List.getElem?_eq_getElem hk];rfl
  have hst:=fun {x:Stp} (hx:x∈p.evs[i].stops) (w:Int)=>told_st (C:=C) (H:=H) (i:=i) hE.asc (fun x hx=>(hE.stops x hx).crs.1) hx w
  have hkp:=fun k (h:k < p.evs[i].stops.length)=>crs_kept (C:=C) hC.crs hE.asc h
  have hlo:=fun {x:Stp} (hx:x∈p.evs[i].stops)=>lost_ne (C:=C) hC.crs hE.asc hx
  have hsn:=fun k (h:k < p.evs[i].stops.length)=>nwS_snoc (C:=C) h
  have hmv:=fun (x y:Stp) (h:C.mv x=some y)=>(hC.crs x y h).1
  obtain ⟨SE,hSE⟩:∃ z,p.evs[i].stops.map eStp=z:=⟨_,rfl⟩
  rw [hSE] at h1 hSl
  simp only [hSE] at hSt2
  obtain ⟨YE,hYE⟩:∃ z,((nwS C p.evs[i].stops).map fun y=>stH y (H i y)).map eStp=z:=⟨_,rfl⟩
  rw [hYE] at h2 hYl
  simp only [hYE] at hYt
  generalize p.evs[i].bar=ya at h1
  generalize p.evs[i].val=yb at h1
  generalize p.evs[i].dot=yc at h1
  generalize p.evs[i].three=yd at h1
  generalize p.evs[i].tie=ye at h1
  obtain ⟨S,hS⟩:∃ z,p.evs[i].stops=z:=⟨_,rfl⟩
  simp only [hS] at hSl hYl hYn hSt2 hYt hst hkp hlo hsn hpt hA1 hA2 h20
  clear hEv hRv hTo hAt1 hAt2 hEo hp hE
  repeat (first|refine WL.vl rfl (WV.nch rfl rfl) ?_|refine W.gob rfl ?_|refine WL.nil ?_|refine WL.bt rfl rfl rfl zqo ?_|refine WL.bf rfl rfl rfl zqo ?_|refine WL.nf rfl rfl rfl zqo ?_|refine WL.e1 rfl ?_|refine WL.gyes rfl rfl rfl rfl ?_|refine WL.opno rfl rfl rfl rfl rfl rfl rfl ?_|refine WL.ar rfl rfl z44i ?_|refine WL.len rfl rfl rfl ?_|refine W.condT rfl ?_|refine W.condF rfl ?_)
  (first|refine (?_:W _ _ _ _ _)|refine (?_:WL _ _ _ _ _ _)|skip)
  try dsimp only [St.put,Nat.reduceAdd]
  refine W.loop (fun k:Nat=>k≤S.length) (fun k=>⟨[(2,.ls 3 LL),(3,.pt 0 0 0),(4,.pt 1 0 0),(7,.sc (.int .i64 i)),(8,.sc (.int .i64 ((nwS C (S.take k)).length:Nat))),(9,.sc (.int .i64 k))],[(0,.box 29 [.ls 3 C1,.ls 1 (p.st.map eInt),.ls 6 EV]),(1,.box 29 [.ls 3 C2,.ls 1 (st.map eInt),.ls 6 RV])],2⟩) (fun k=>S.length - k) 0 zqo (zqt id) fun k hk=>?_
  by_cases hkl:k < S.length
  ·have g1:=hSt2 k hkl
   have hx:=List.getElem_mem hkl
   have gT:=hT S[k].1 1
   have hstx:=hst hx 1
   rw [hstx] at gT
   have gA:=hA1 k hkl
   have hn1:=nwS_len C (S.take k)
   rw [List.length_take] at hn1
   have hsn1:=congrArg List.length (hsn k hkl)
   rw [List.length_append] at hsn1
   have hptx:=hpt S[k] hx
   obtain ⟨n0,hn0⟩:∃ z,(nwS C (S.take k)).length=z:=⟨_,rfl⟩
   rw [hn0] at hn1 hsn1 ⊢
   cases hc:(C.ch S[k]).2 with
   | true =>
    obtain ⟨_,l2⟩:=told_lost (C:=C) (H:=H) (i:=i) hc
    rw [l2] at gT
    have hm:C.mv S[k]=none:=if_pos hc
    rw [hm] at hsn1
    have hsn1:(((nwS C (S.take (k+1))).length:Nat):Int)=(n0:Int):=by
     have:(nwS C (S.take (k+1))).length=n0:=hsn1
     omega
    have hne:=fun j y=>hlo hx hc (H i) j y
    obtain ⟨X,hX⟩:∃ z,S[k]=z:=⟨_,rfl⟩
    rw [hX] at g1 gT gA
    simp only [hX] at hne
    obtain ⟨PA,hPA⟩:∃ z,pitN p.cs p.st X.1 X.2.1=z:=⟨_,rfl⟩
    rw [hPA] at gA
    clear hptx hm hstx hst hkp hlo hsn hpt hA1 hT hSt2
    repeat (first|refine WL.vl rfl (WV.nch rfl rfl) ?_|refine W.gob rfl ?_|refine WL.nil ?_|refine WL.bt rfl rfl rfl zqo ?_|refine WL.bf rfl rfl rfl zqo ?_|refine WL.nf rfl rfl rfl zqo ?_|refine WL.e1 rfl ?_|refine WL.gyes rfl rfl rfl rfl ?_|refine WL.opno rfl rfl rfl rfl rfl rfl rfl ?_|refine WL.ar rfl rfl z44i ?_|refine WL.len rfl rfl rfl ?_|refine W.condT rfl ?_|refine W.condF rfl ?_)
    (first|refine (?_:W _ _ _ _ _)|refine (?_:WL _ _ _ _ _ _)|skip)
    try dsimp only [St.put,Nat.reduceAdd]
    refine WL.idx rfl rfl zqo h1 ?_
    repeat (first|refine WL.vl rfl (WV.nch rfl rfl) ?_|refine W.gob rfl ?_|refine WL.nil ?_|refine WL.bt rfl rfl rfl zqo ?_|refine WL.bf rfl rfl rfl zqo ?_|refine WL.nf rfl rfl rfl zqo ?_|refine WL.e1 rfl ?_|refine WL.gyes rfl rfl rfl rfl ?_|refine WL.opno rfl rfl rfl rfl rfl rfl rfl ?_|refine WL.ar rfl rfl z44i ?_|refine WL.len rfl rfl rfl ?_|refine W.condT rfl ?_|refine W.condF rfl ?_)
    (first|refine (?_:W _ _ _ _ _)|refine (?_:WL _ _ _ _ _ _)|skip)
    try dsimp only [St.put,Nat.reduceAdd]
    refine WL.idx rfl rfl zqo h1 ?_
    repeat (first|refine WL.vl rfl (WV.nch rfl rfl) ?_|refine W.gob rfl ?_|refine WL.nil ?_|refine WL.bt rfl rfl rfl zqo ?_|refine WL.bf rfl rfl rfl zqo ?_|refine WL.nf rfl rfl rfl zqo ?_|refine WL.e1 rfl ?_|refine WL.gyes rfl rfl rfl rfl ?_|refine WL.opno rfl rfl rfl rfl rfl rfl rfl ?_|refine WL.ar rfl rfl z44i ?_|refine WL.len rfl rfl rfl ?_|refine W.condT rfl ?_|refine W.condF rfl ?_)
    (first|refine (?_:W _ _ _ _ _)|refine (?_:WL _ _ _ _ _ _)|skip)
    try dsimp only [St.put,Nat.reduceAdd]
    refine WL.idx rfl rfl zqo g1 ?_
    repeat (first|refine WL.vl rfl (WV.nch rfl rfl) ?_|refine W.gob rfl ?_|refine WL.nil ?_|refine WL.bt rfl rfl rfl zqo ?_|refine WL.bf rfl rfl rfl zqo ?_|refine WL.nf rfl rfl rfl zqo ?_|refine WL.e1 rfl ?_|refine WL.gyes rfl rfl rfl rfl ?_|refine WL.opno rfl rfl rfl rfl rfl rfl rfl ?_|refine WL.ar rfl rfl z44i ?_|refine WL.len rfl rfl rfl ?_|refine W.condT rfl ?_|refine W.condF rfl ?_)
    (first|refine (?_:W _ _ _ _ _)|refine (?_:WL _ _ _ _ _ _)|skip)
    try dsimp only [St.put,Nat.reduceAdd]
    refine W.drawK zqk zqk ?_
    repeat (first|refine DK.st rfl ?_|refine DK.vl rfl (zqc Tryz.func35 hCp1) ?_|refine DK.vl rfl (zqc Tryz.func85 gA) ?_|refine DK.nil ?_)
    repeat (first|refine WL.vl rfl (WV.nch rfl rfl) ?_|refine W.gob rfl ?_|refine WL.nil ?_|refine WL.bt rfl rfl rfl zqo ?_|refine WL.bf rfl rfl rfl zqo ?_|refine WL.nf rfl rfl rfl zqo ?_|refine WL.e1 rfl ?_|refine WL.gyes rfl rfl rfl rfl ?_|refine WL.opno rfl rfl rfl rfl rfl rfl rfl ?_|refine WL.ar rfl rfl z44i ?_|refine WL.len rfl rfl rfl ?_|refine W.condT rfl ?_|refine W.condF rfl ?_)
    (first|refine (?_:W _ _ _ _ _)|refine (?_:WL _ _ _ _ _ _)|skip)
    try dsimp only [St.put,Nat.reduceAdd]
    refine W.loop (fun j:Nat=>j≤(nwS C S).length) (fun j=>⟨[(2,.ls 3 LL),(3,.pt 0 0 0),(4,.pt 1 0 0),(7,.sc (.int .i64 i)),(8,.sc (.int .i64 n0)),(9,.sc (.int .i64 k)),(10,.pt 2 0 0),(11,.sc (.int .i64 PA)),(13,.sc (.bool false)),(14,.sc (.int .i64 j))],[(0,.box 29 [.ls 3 C1,.ls 1 (p.st.map eInt),.ls 6 EV]),(1,.box 29 [.ls 3 C2,.ls 1 (st.map eInt),.ls 6 RV]),(2,.box 48 [.sc (.int .i64 X.1),.sc (.int .i64 X.2.1),.sc (.int .i64 X.2.2.1),.sc (.int .i64 X.2.2.2.1),.sc (.int .i64 X.2.2.2.2)])],3⟩) (fun j=>(nwS C S).length - j) 0 zqo (zqt id) fun j hj=>?_
    by_cases hjl:j < (nwS C S).length
    ·obtain ⟨y,hym,y1,g6⟩:=hYt j hjl
     have gB:=hA2 y hym
     have hn:=hne j y y1
     obtain ⟨PB,hPB⟩:∃ z,pitN cs st y.1 y.2.1=z:=⟨_,rfl⟩
     rw [hPB] at gB
     clear hYt hA2 hne
     repeat (first|refine WL.vl rfl (WV.nch rfl rfl) ?_|refine W.gob rfl ?_|refine WL.nil ?_|refine WL.bt rfl rfl rfl zqo ?_|refine WL.bf rfl rfl rfl zqo ?_|refine WL.nf rfl rfl rfl zqo ?_|refine WL.e1 rfl ?_|refine WL.gyes rfl rfl rfl rfl ?_|refine WL.opno rfl rfl rfl rfl rfl rfl rfl ?_|refine WL.ar rfl rfl z44i ?_|refine WL.len rfl rfl rfl ?_|refine W.condT rfl ?_|refine W.condF rfl ?_)
     (first|refine (?_:W _ _ _ _ _)|refine (?_:WL _ _ _ _ _ _)|skip)
     try dsimp only [St.put,Nat.reduceAdd]
     refine WL.idx rfl rfl zqo h2 ?_
     repeat (first|refine WL.vl rfl (WV.nch rfl rfl) ?_|refine W.gob rfl ?_|refine WL.nil ?_|refine WL.bt rfl rfl rfl zqo ?_|refine WL.bf rfl rfl rfl zqo ?_|refine WL.nf rfl rfl rfl zqo ?_|refine WL.e1 rfl ?_|refine WL.gyes rfl rfl rfl rfl ?_|refine WL.opno rfl rfl rfl rfl rfl rfl rfl ?_|refine WL.ar rfl rfl z44i ?_|refine WL.len rfl rfl rfl ?_|refine W.condT rfl ?_|refine W.condF rfl ?_)
     (first|refine (?_:W _ _ _ _ _)|refine (?_:WL _ _ _ _ _ _)|skip)
     try dsimp only [St.put,Nat.reduceAdd]
     refine WL.idx rfl rfl zqo h2 ?_
     repeat (first|refine WL.vl rfl (WV.nch rfl rfl) ?_|refine W.gob rfl ?_|refine WL.nil ?_|refine WL.bt rfl rfl rfl zqo ?_|refine WL.bf rfl rfl rfl zqo ?_|refine WL.nf rfl rfl rfl zqo ?_|refine WL.e1 rfl ?_|refine WL.gyes rfl rfl rfl rfl ?_|refine WL.opno rfl rfl rfl rfl rfl rfl rfl ?_|refine WL.ar rfl rfl z44i ?_|refine WL.len rfl rfl rfl ?_|refine W.condT rfl ?_|refine W.condF rfl ?_)
     (first|refine (?_:W _ _ _ _ _)|refine (?_:WL _ _ _ _ _ _)|skip)
     try dsimp only [St.put,Nat.reduceAdd]
     refine WL.idx rfl rfl zqo g6 ?_
     repeat (first|refine WL.vl rfl (WV.nch rfl rfl) ?_|refine W.gob rfl ?_|refine WL.nil ?_|refine WL.bt rfl rfl rfl zqo ?_|refine WL.bf rfl rfl rfl zqo ?_|refine WL.nf rfl rfl rfl zqo ?_|refine WL.e1 rfl ?_|refine WL.gyes rfl rfl rfl rfl ?_|refine WL.opno rfl rfl rfl rfl rfl rfl rfl ?_|refine WL.ar rfl rfl z44i ?_|refine WL.len rfl rfl rfl ?_|refine W.condT rfl ?_|refine W.condF rfl ?_)
     (first|refine (?_:W _ _ _ _ _)|refine (?_:WL _ _ _ _ _ _)|skip)
     try dsimp only [St.put,Nat.reduceAdd]
     refine W.drawK zqk zqk ?_
     repeat (first|refine DK.st rfl ?_|refine DK.vl rfl (zqc Tryz.func35 hCp2) ?_|refine DK.vl rfl (zqc Tryz.func85 gB) ?_|refine DK.nil ?_)
     repeat (first|refine WL.vl rfl (WV.nch rfl rfl) ?_|refine W.gob rfl ?_|refine WL.nil ?_|refine WL.bt rfl rfl rfl zqo ?_|refine WL.bf rfl rfl rfl zqo ?_|refine WL.nf rfl rfl rfl zqo ?_|refine WL.e1 rfl ?_|refine WL.gyes rfl rfl rfl rfl ?_|refine WL.opno rfl rfl rfl rfl rfl rfl rfl ?_|refine WL.ar rfl rfl z44i ?_|refine WL.len rfl rfl rfl ?_|refine W.condT rfl ?_|refine W.condF rfl ?_)
     (first|refine (?_:W _ _ _ _ _)|refine (?_:WL _ _ _ _ _ _)|skip)
     try dsimp only [St.put,Nat.reduceAdd]
     exact ⟨j+1,by omega,by omega,(zqt id)⟩
    ·obtain rfl:j=(nwS C S).length:=by omega
     clear hYt hA2 hne
     repeat (first|refine WL.vl rfl (WV.nch rfl rfl) ?_|refine W.gob rfl ?_|refine WL.nil ?_|refine WL.bt rfl rfl rfl zqo ?_|refine WL.bf rfl rfl rfl zqo ?_|refine WL.nf rfl rfl rfl zqo ?_|refine WL.e1 rfl ?_|refine WL.gyes rfl rfl rfl rfl ?_|refine WL.opno rfl rfl rfl rfl rfl rfl rfl ?_|refine WL.ar rfl rfl z44i ?_|refine WL.len rfl rfl rfl ?_|refine W.condT rfl ?_|refine W.condF rfl ?_)
     (first|refine (?_:W _ _ _ _ _)|refine (?_:WL _ _ _ _ _ _)|skip)
     try dsimp only [St.put,Nat.reduceAdd]
     refine WL.idx rfl rfl zqo h2 ?_
     repeat (first|refine WL.vl rfl (WV.nch rfl rfl) ?_|refine W.gob rfl ?_|refine WL.nil ?_|refine WL.bt rfl rfl rfl zqo ?_|refine WL.bf rfl rfl rfl zqo ?_|refine WL.nf rfl rfl rfl zqo ?_|refine WL.e1 rfl ?_|refine WL.gyes rfl rfl rfl rfl ?_|refine WL.opno rfl rfl rfl rfl rfl rfl rfl ?_|refine WL.ar rfl rfl z44i ?_|refine WL.len rfl rfl rfl ?_|refine W.condT rfl ?_|refine W.condF rfl ?_)
     (first|refine (?_:W _ _ _ _ _)|refine (?_:WL _ _ _ _ _ _)|skip)
     try dsimp only [St.put,Nat.reduceAdd]
     refine WL.vl rfl (zqc Tryz.func21 gT) ?_
     repeat (first|refine WL.vl rfl (WV.nch rfl rfl) ?_|refine W.gob rfl ?_|refine WL.nil ?_|refine WL.bt rfl rfl rfl zqo ?_|refine WL.bf rfl rfl rfl zqo ?_|refine WL.nf rfl rfl rfl zqo ?_|refine WL.e1 rfl ?_|refine WL.gyes rfl rfl rfl rfl ?_|refine WL.opno rfl rfl rfl rfl rfl rfl rfl ?_|refine WL.ar rfl rfl z44i ?_|refine WL.len rfl rfl rfl ?_|refine W.condT rfl ?_|refine W.condF rfl ?_)
     (first|refine (?_:W _ _ _ _ _)|refine (?_:WL _ _ _ _ _ _)|skip)
     try dsimp only [St.put,Nat.reduceAdd]
     refine ⟨k+1,by omega,by omega,?_⟩
     rw [hsn1]
     exact (zqt id)
   | false =>
    obtain ⟨_,l2,_⟩:=told_kept hC (H:=H) (i:=i) hc
    rw [l2] at gT
    have hm:C.mv S[k]=some (C.mr (C.ch S[k]).1):=if_neg (by rw [hc];simp)
    have hptx:=hptx _ hm
    rw [hm] at hsn1
    have hsn1:(((nwS C (S.take (k+1))).length:Nat):Int)=(n0:Int)+1:=by
     have:(nwS C (S.take (k+1))).length=n0+1:=hsn1
     omega
    obtain ⟨N,hN1,hN2⟩:=hkp k hkl hc (H i)
    have hNl:N < (nwS C S).length:=by
     have:=(List.getElem?_eq_some_iff.1 hN1).1
     rw [List.length_map] at this;exact this
    obtain ⟨Y,hY⟩:∃ z,C.mr (C.ch S[k]).1=z:=⟨_,rfl⟩
    rw [hY] at hptx hN1
    obtain ⟨X,hX⟩:∃ z,S[k]=z:=⟨_,rfl⟩
    rw [hX] at g1 gT gA hptx
    simp only [hX] at hN2
    obtain ⟨PA,hPA⟩:∃ z,pitN p.cs p.st X.1 X.2.1=z:=⟨_,rfl⟩
    rw [hPA] at gA hptx
    clear hm hstx hst hkp hlo hsn hpt hA1 hT hSt2
    repeat (first|refine WL.vl rfl (WV.nch rfl rfl) ?_|refine W.gob rfl ?_|refine WL.nil ?_|refine WL.bt rfl rfl rfl zqo ?_|refine WL.bf rfl rfl rfl zqo ?_|refine WL.nf rfl rfl rfl zqo ?_|refine WL.e1 rfl ?_|refine WL.gyes rfl rfl rfl rfl ?_|refine WL.opno rfl rfl rfl rfl rfl rfl rfl ?_|refine WL.ar rfl rfl z44i ?_|refine WL.len rfl rfl rfl ?_|refine W.condT rfl ?_|refine W.condF rfl ?_)
    (first|refine (?_:W _ _ _ _ _)|refine (?_:WL _ _ _ _ _ _)|skip)
    try dsimp only [St.put,Nat.reduceAdd]
    refine WL.idx rfl rfl zqo h1 ?_
    repeat (first|refine WL.vl rfl (WV.nch rfl rfl) ?_|refine W.gob rfl ?_|refine WL.nil ?_|refine WL.bt rfl rfl rfl zqo ?_|refine WL.bf rfl rfl rfl zqo ?_|refine WL.nf rfl rfl rfl zqo ?_|refine WL.e1 rfl ?_|refine WL.gyes rfl rfl rfl rfl ?_|refine WL.opno rfl rfl rfl rfl rfl rfl rfl ?_|refine WL.ar rfl rfl z44i ?_|refine WL.len rfl rfl rfl ?_|refine W.condT rfl ?_|refine W.condF rfl ?_)
    (first|refine (?_:W _ _ _ _ _)|refine (?_:WL _ _ _ _ _ _)|skip)
    try dsimp only [St.put,Nat.reduceAdd]
    refine WL.idx rfl rfl zqo h1 ?_
    repeat (first|refine WL.vl rfl (WV.nch rfl rfl) ?_|refine W.gob rfl ?_|refine WL.nil ?_|refine WL.bt rfl rfl rfl zqo ?_|refine WL.bf rfl rfl rfl zqo ?_|refine WL.nf rfl rfl rfl zqo ?_|refine WL.e1 rfl ?_|refine WL.gyes rfl rfl rfl rfl ?_|refine WL.opno rfl rfl rfl rfl rfl rfl rfl ?_|refine WL.ar rfl rfl z44i ?_|refine WL.len rfl rfl rfl ?_|refine W.condT rfl ?_|refine W.condF rfl ?_)
    (first|refine (?_:W _ _ _ _ _)|refine (?_:WL _ _ _ _ _ _)|skip)
    try dsimp only [St.put,Nat.reduceAdd]
    refine WL.idx rfl rfl zqo g1 ?_
    repeat (first|refine WL.vl rfl (WV.nch rfl rfl) ?_|refine W.gob rfl ?_|refine WL.nil ?_|refine WL.bt rfl rfl rfl zqo ?_|refine WL.bf rfl rfl rfl zqo ?_|refine WL.nf rfl rfl rfl zqo ?_|refine WL.e1 rfl ?_|refine WL.gyes rfl rfl rfl rfl ?_|refine WL.opno rfl rfl rfl rfl rfl rfl rfl ?_|refine WL.ar rfl rfl z44i ?_|refine WL.len rfl rfl rfl ?_|refine W.condT rfl ?_|refine W.condF rfl ?_)
    (first|refine (?_:W _ _ _ _ _)|refine (?_:WL _ _ _ _ _ _)|skip)
    try dsimp only [St.put,Nat.reduceAdd]
    refine W.drawK zqk zqk ?_
    repeat (first|refine DK.st rfl ?_|refine DK.vl rfl (zqc Tryz.func35 hCp1) ?_|refine DK.vl rfl (zqc Tryz.func85 gA) ?_|refine DK.nil ?_)
    repeat (first|refine WL.vl rfl (WV.nch rfl rfl) ?_|refine W.gob rfl ?_|refine WL.nil ?_|refine WL.bt rfl rfl rfl zqo ?_|refine WL.bf rfl rfl rfl zqo ?_|refine WL.nf rfl rfl rfl zqo ?_|refine WL.e1 rfl ?_|refine WL.gyes rfl rfl rfl rfl ?_|refine WL.opno rfl rfl rfl rfl rfl rfl rfl ?_|refine WL.ar rfl rfl z44i ?_|refine WL.len rfl rfl rfl ?_|refine W.condT rfl ?_|refine W.condF rfl ?_)
    (first|refine (?_:W _ _ _ _ _)|refine (?_:WL _ _ _ _ _ _)|skip)
    try dsimp only [St.put,Nat.reduceAdd]
    refine W.loop (fun j:Nat=>j≤(nwS C S).length) (fun j=>⟨[(2,.ls 3 LL),(3,.pt 0 0 0),(4,.pt 1 0 0),(7,.sc (.int .i64 i)),(8,.sc (.int .i64 n0)),(9,.sc (.int .i64 k)),(10,.pt 2 0 0),(11,.sc (.int .i64 PA)),(13,.sc (.bool (decide (N < j)))),(14,.sc (.int .i64 j))],[(0,.box 29 [.ls 3 C1,.ls 1 (p.st.map eInt),.ls 6 EV]),(1,.box 29 [.ls 3 C2,.ls 1 (st.map eInt),.ls 6 RV]),(2,.box 48 [.sc (.int .i64 X.1),.sc (.int .i64 X.2.1),.sc (.int .i64 X.2.2.1),.sc (.int .i64 X.2.2.2.1),.sc (.int .i64 X.2.2.2.2)])],3⟩) (fun j=>(nwS C S).length - j) 0 (by omega) (by rw [decide_eq_false (Nat.not_lt_zero N)];exact (zqt id)) fun j hj=>?_
    by_cases hjl:j < (nwS C S).length
    ·obtain ⟨y,hym,y1,g6⟩:=hYt j hjl
     have gB:=hA2 y hym
     have y2:=hN2 j y y1
     have hpe:j=N→pitN cs st y.1 y.2.1=PA:=fun e=>by
      subst e
      rw [hN1] at y1
      have:=Option.some.inj y1
      subst this
      exact hptx
     obtain ⟨PB,hPB⟩:∃ z,pitN cs st y.1 y.2.1=z:=⟨_,rfl⟩
     rw [hPB] at gB hpe
     clear hYt hA2 hN2 hN1 hptx
     rcases Nat.lt_trichotomy N j with hq|hq|hq
     ·have d0:decide (N < j)=true:=decide_eq_true hq
      have d1:decide (N < j+1)=true:=decide_eq_true zqo
      rw [d0]
      repeat (first|refine WL.vl rfl (WV.nch rfl rfl) ?_|refine W.gob rfl ?_|refine WL.nil ?_|refine WL.bt rfl rfl rfl zqo ?_|refine WL.bf rfl rfl rfl zqo ?_|refine WL.nf rfl rfl rfl zqo ?_|refine WL.e1 rfl ?_|refine WL.gyes rfl rfl rfl rfl ?_|refine WL.opno rfl rfl rfl rfl rfl rfl rfl ?_|refine WL.ar rfl rfl z44i ?_|refine WL.len rfl rfl rfl ?_|refine W.condT rfl ?_|refine W.condF rfl ?_)
      (first|refine (?_:W _ _ _ _ _)|refine (?_:WL _ _ _ _ _ _)|skip)
      try dsimp only [St.put,Nat.reduceAdd]
      refine WL.idx rfl rfl zqo h2 ?_
      repeat (first|refine WL.vl rfl (WV.nch rfl rfl) ?_|refine W.gob rfl ?_|refine WL.nil ?_|refine WL.bt rfl rfl rfl zqo ?_|refine WL.bf rfl rfl rfl zqo ?_|refine WL.nf rfl rfl rfl zqo ?_|refine WL.e1 rfl ?_|refine WL.gyes rfl rfl rfl rfl ?_|refine WL.opno rfl rfl rfl rfl rfl rfl rfl ?_|refine WL.ar rfl rfl z44i ?_|refine WL.len rfl rfl rfl ?_|refine W.condT rfl ?_|refine W.condF rfl ?_)
      (first|refine (?_:W _ _ _ _ _)|refine (?_:WL _ _ _ _ _ _)|skip)
      try dsimp only [St.put,Nat.reduceAdd]
      refine WL.idx rfl rfl zqo h2 ?_
      repeat (first|refine WL.vl rfl (WV.nch rfl rfl) ?_|refine W.gob rfl ?_|refine WL.nil ?_|refine WL.bt rfl rfl rfl zqo ?_|refine WL.bf rfl rfl rfl zqo ?_|refine WL.nf rfl rfl rfl zqo ?_|refine WL.e1 rfl ?_|refine WL.gyes rfl rfl rfl rfl ?_|refine WL.opno rfl rfl rfl rfl rfl rfl rfl ?_|refine WL.ar rfl rfl z44i ?_|refine WL.len rfl rfl rfl ?_|refine W.condT rfl ?_|refine W.condF rfl ?_)
      (first|refine (?_:W _ _ _ _ _)|refine (?_:WL _ _ _ _ _ _)|skip)
      try dsimp only [St.put,Nat.reduceAdd]
      refine WL.idx rfl rfl zqo g6 ?_
      repeat (first|refine WL.vl rfl (WV.nch rfl rfl) ?_|refine W.gob rfl ?_|refine WL.nil ?_|refine WL.bt rfl rfl rfl zqo ?_|refine WL.bf rfl rfl rfl zqo ?_|refine WL.nf rfl rfl rfl zqo ?_|refine WL.e1 rfl ?_|refine WL.gyes rfl rfl rfl rfl ?_|refine WL.opno rfl rfl rfl rfl rfl rfl rfl ?_|refine WL.ar rfl rfl z44i ?_|refine WL.len rfl rfl rfl ?_|refine W.condT rfl ?_|refine W.condF rfl ?_)
      (first|refine (?_:W _ _ _ _ _)|refine (?_:WL _ _ _ _ _ _)|skip)
      try dsimp only [St.put,Nat.reduceAdd]
      refine W.drawK zqk zqk ?_
      repeat (first|refine DK.st rfl ?_|refine DK.vl rfl (zqc Tryz.func35 hCp2) ?_|refine DK.vl rfl (zqc Tryz.func85 gB) ?_|refine DK.nil ?_)
      repeat (first|refine WL.vl rfl (WV.nch rfl rfl) ?_|refine W.gob rfl ?_|refine WL.nil ?_|refine WL.bt rfl rfl rfl zqo ?_|refine WL.bf rfl rfl rfl zqo ?_|refine WL.nf rfl rfl rfl zqo ?_|refine WL.e1 rfl ?_|refine WL.gyes rfl rfl rfl rfl ?_|refine WL.opno rfl rfl rfl rfl rfl rfl rfl ?_|refine WL.ar rfl rfl z44i ?_|refine WL.len rfl rfl rfl ?_|refine W.condT rfl ?_|refine W.condF rfl ?_)
      (first|refine (?_:W _ _ _ _ _)|refine (?_:WL _ _ _ _ _ _)|skip)
      try dsimp only [St.put,Nat.reduceAdd]
      refine ⟨j+1,by omega,by omega,?_⟩
      rw [d1]
      exact (zqt id)
     ·have d0:decide (N < j)=false:=decide_eq_false zqo
      have d1:decide (N < j+1)=true:=decide_eq_true zqo
      have e1:y.1=X.1:=y2.2 hq.symm
      have e2:PA=PB:=(hpe hq.symm).symm
      rw [d0]
      repeat (first|refine WL.vl rfl (WV.nch rfl rfl) ?_|refine W.gob rfl ?_|refine WL.nil ?_|refine WL.bt rfl rfl rfl zqo ?_|refine WL.bf rfl rfl rfl zqo ?_|refine WL.nf rfl rfl rfl zqo ?_|refine WL.e1 rfl ?_|refine WL.gyes rfl rfl rfl rfl ?_|refine WL.opno rfl rfl rfl rfl rfl rfl rfl ?_|refine WL.ar rfl rfl z44i ?_|refine WL.len rfl rfl rfl ?_|refine W.condT rfl ?_|refine W.condF rfl ?_)
      (first|refine (?_:W _ _ _ _ _)|refine (?_:WL _ _ _ _ _ _)|skip)
      try dsimp only [St.put,Nat.reduceAdd]
      refine WL.idx rfl rfl zqo h2 ?_
      repeat (first|refine WL.vl rfl (WV.nch rfl rfl) ?_|refine W.gob rfl ?_|refine WL.nil ?_|refine WL.bt rfl rfl rfl zqo ?_|refine WL.bf rfl rfl rfl zqo ?_|refine WL.nf rfl rfl rfl zqo ?_|refine WL.e1 rfl ?_|refine WL.gyes rfl rfl rfl rfl ?_|refine WL.opno rfl rfl rfl rfl rfl rfl rfl ?_|refine WL.ar rfl rfl z44i ?_|refine WL.len rfl rfl rfl ?_|refine W.condT rfl ?_|refine W.condF rfl ?_)
      (first|refine (?_:W _ _ _ _ _)|refine (?_:WL _ _ _ _ _ _)|skip)
      try dsimp only [St.put,Nat.reduceAdd]
      refine WL.idx rfl rfl zqo h2 ?_
      repeat (first|refine WL.vl rfl (WV.nch rfl rfl) ?_|refine W.gob rfl ?_|refine WL.nil ?_|refine WL.bt rfl rfl rfl zqo ?_|refine WL.bf rfl rfl rfl zqo ?_|refine WL.nf rfl rfl rfl zqo ?_|refine WL.e1 rfl ?_|refine WL.gyes rfl rfl rfl rfl ?_|refine WL.opno rfl rfl rfl rfl rfl rfl rfl ?_|refine WL.ar rfl rfl z44i ?_|refine WL.len rfl rfl rfl ?_|refine W.condT rfl ?_|refine W.condF rfl ?_)
      (first|refine (?_:W _ _ _ _ _)|refine (?_:WL _ _ _ _ _ _)|skip)
      try dsimp only [St.put,Nat.reduceAdd]
      refine WL.idx rfl rfl zqo g6 ?_
      repeat (first|refine WL.vl rfl (WV.nch rfl rfl) ?_|refine W.gob rfl ?_|refine WL.nil ?_|refine WL.bt rfl rfl rfl zqo ?_|refine WL.bf rfl rfl rfl zqo ?_|refine WL.nf rfl rfl rfl zqo ?_|refine WL.e1 rfl ?_|refine WL.gyes rfl rfl rfl rfl ?_|refine WL.opno rfl rfl rfl rfl rfl rfl rfl ?_|refine WL.ar rfl rfl z44i ?_|refine WL.len rfl rfl rfl ?_|refine W.condT rfl ?_|refine W.condF rfl ?_)
      (first|refine (?_:W _ _ _ _ _)|refine (?_:WL _ _ _ _ _ _)|skip)
      try dsimp only [St.put,Nat.reduceAdd]
      refine W.drawK zqk zqk ?_
      repeat (first|refine DK.st rfl ?_|refine DK.vl rfl (zqc Tryz.func35 hCp2) ?_|refine DK.vl rfl (zqc Tryz.func85 gB) ?_|refine DK.nil ?_)
      repeat (first|refine WL.vl rfl (WV.nch rfl rfl) ?_|refine W.gob rfl ?_|refine WL.nil ?_|refine WL.bt rfl rfl rfl zqo ?_|refine WL.bf rfl rfl rfl zqo ?_|refine WL.nf rfl rfl rfl zqo ?_|refine WL.e1 rfl ?_|refine WL.gyes rfl rfl rfl rfl ?_|refine WL.opno rfl rfl rfl rfl rfl rfl rfl ?_|refine WL.ar rfl rfl z44i ?_|refine WL.len rfl rfl rfl ?_|refine W.condT rfl ?_|refine W.condF rfl ?_)
      (first|refine (?_:W _ _ _ _ _)|refine (?_:WL _ _ _ _ _ _)|skip)
      try dsimp only [St.put,Nat.reduceAdd]
      refine ⟨j+1,by omega,by omega,?_⟩
      rw [d1]
      exact (zqt id)
     ·have d0:decide (N < j)=false:=decide_eq_false zqo
      have d1:decide (N < j+1)=false:=decide_eq_false zqo
      have e1:y.1≠X.1:=fun e=>by
       have:=y2.1 e
       omega
      rw [d0]
      repeat (first|refine WL.vl rfl (WV.nch rfl rfl) ?_|refine W.gob rfl ?_|refine WL.nil ?_|refine WL.bt rfl rfl rfl zqo ?_|refine WL.bf rfl rfl rfl zqo ?_|refine WL.nf rfl rfl rfl zqo ?_|refine WL.e1 rfl ?_|refine WL.gyes rfl rfl rfl rfl ?_|refine WL.opno rfl rfl rfl rfl rfl rfl rfl ?_|refine WL.ar rfl rfl z44i ?_|refine WL.len rfl rfl rfl ?_|refine W.condT rfl ?_|refine W.condF rfl ?_)
      (first|refine (?_:W _ _ _ _ _)|refine (?_:WL _ _ _ _ _ _)|skip)
      try dsimp only [St.put,Nat.reduceAdd]
      refine WL.idx rfl rfl zqo h2 ?_
      repeat (first|refine WL.vl rfl (WV.nch rfl rfl) ?_|refine W.gob rfl ?_|refine WL.nil ?_|refine WL.bt rfl rfl rfl zqo ?_|refine WL.bf rfl rfl rfl zqo ?_|refine WL.nf rfl rfl rfl zqo ?_|refine WL.e1 rfl ?_|refine WL.gyes rfl rfl rfl rfl ?_|refine WL.opno rfl rfl rfl rfl rfl rfl rfl ?_|refine WL.ar rfl rfl z44i ?_|refine WL.len rfl rfl rfl ?_|refine W.condT rfl ?_|refine W.condF rfl ?_)
      (first|refine (?_:W _ _ _ _ _)|refine (?_:WL _ _ _ _ _ _)|skip)
      try dsimp only [St.put,Nat.reduceAdd]
      refine WL.idx rfl rfl zqo h2 ?_
      repeat (first|refine WL.vl rfl (WV.nch rfl rfl) ?_|refine W.gob rfl ?_|refine WL.nil ?_|refine WL.bt rfl rfl rfl zqo ?_|refine WL.bf rfl rfl rfl zqo ?_|refine WL.nf rfl rfl rfl zqo ?_|refine WL.e1 rfl ?_|refine WL.gyes rfl rfl rfl rfl ?_|refine WL.opno rfl rfl rfl rfl rfl rfl rfl ?_|refine WL.ar rfl rfl z44i ?_|refine WL.len rfl rfl rfl ?_|refine W.condT rfl ?_|refine W.condF rfl ?_)
      (first|refine (?_:W _ _ _ _ _)|refine (?_:WL _ _ _ _ _ _)|skip)
      try dsimp only [St.put,Nat.reduceAdd]
      refine WL.idx rfl rfl zqo g6 ?_
      repeat (first|refine WL.vl rfl (WV.nch rfl rfl) ?_|refine W.gob rfl ?_|refine WL.nil ?_|refine WL.bt rfl rfl rfl zqo ?_|refine WL.bf rfl rfl rfl zqo ?_|refine WL.nf rfl rfl rfl zqo ?_|refine WL.e1 rfl ?_|refine WL.gyes rfl rfl rfl rfl ?_|refine WL.opno rfl rfl rfl rfl rfl rfl rfl ?_|refine WL.ar rfl rfl z44i ?_|refine WL.len rfl rfl rfl ?_|refine W.condT rfl ?_|refine W.condF rfl ?_)
      (first|refine (?_:W _ _ _ _ _)|refine (?_:WL _ _ _ _ _ _)|skip)
      try dsimp only [St.put,Nat.reduceAdd]
      refine W.drawK zqk zqk ?_
      repeat (first|refine DK.st rfl ?_|refine DK.vl rfl (zqc Tryz.func35 hCp2) ?_|refine DK.vl rfl (zqc Tryz.func85 gB) ?_|refine DK.nil ?_)
      repeat (first|refine WL.vl rfl (WV.nch rfl rfl) ?_|refine W.gob rfl ?_|refine WL.nil ?_|refine WL.bt rfl rfl rfl zqo ?_|refine WL.bf rfl rfl rfl zqo ?_|refine WL.nf rfl rfl rfl zqo ?_|refine WL.e1 rfl ?_|refine WL.gyes rfl rfl rfl rfl ?_|refine WL.opno rfl rfl rfl rfl rfl rfl rfl ?_|refine WL.ar rfl rfl z44i ?_|refine WL.len rfl rfl rfl ?_|refine W.condT rfl ?_|refine W.condF rfl ?_)
      (first|refine (?_:W _ _ _ _ _)|refine (?_:WL _ _ _ _ _ _)|skip)
      try dsimp only [St.put,Nat.reduceAdd]
      refine ⟨j+1,by omega,by omega,?_⟩
      rw [d1]
      exact (zqt id)
    ·obtain rfl:j=(nwS C S).length:=by omega
     have d0:decide (N < (nwS C S).length)=true:=decide_eq_true hNl
     rw [d0]
     clear hYt hA2 hN2
     repeat (first|refine WL.vl rfl (WV.nch rfl rfl) ?_|refine W.gob rfl ?_|refine WL.nil ?_|refine WL.bt rfl rfl rfl zqo ?_|refine WL.bf rfl rfl rfl zqo ?_|refine WL.nf rfl rfl rfl zqo ?_|refine WL.e1 rfl ?_|refine WL.gyes rfl rfl rfl rfl ?_|refine WL.opno rfl rfl rfl rfl rfl rfl rfl ?_|refine WL.ar rfl rfl z44i ?_|refine WL.len rfl rfl rfl ?_|refine W.condT rfl ?_|refine W.condF rfl ?_)
     (first|refine (?_:W _ _ _ _ _)|refine (?_:WL _ _ _ _ _ _)|skip)
     try dsimp only [St.put,Nat.reduceAdd]
     refine WL.idx rfl rfl zqo h2 ?_
     repeat (first|refine WL.vl rfl (WV.nch rfl rfl) ?_|refine W.gob rfl ?_|refine WL.nil ?_|refine WL.bt rfl rfl rfl zqo ?_|refine WL.bf rfl rfl rfl zqo ?_|refine WL.nf rfl rfl rfl zqo ?_|refine WL.e1 rfl ?_|refine WL.gyes rfl rfl rfl rfl ?_|refine WL.opno rfl rfl rfl rfl rfl rfl rfl ?_|refine WL.ar rfl rfl z44i ?_|refine WL.len rfl rfl rfl ?_|refine W.condT rfl ?_|refine W.condF rfl ?_)
     (first|refine (?_:W _ _ _ _ _)|refine (?_:WL _ _ _ _ _ _)|skip)
     try dsimp only [St.put,Nat.reduceAdd]
     refine WL.vl rfl (zqc Tryz.func21 gT) ?_
     repeat (first|refine WL.vl rfl (WV.nch rfl rfl) ?_|refine W.gob rfl ?_|refine WL.nil ?_|refine WL.bt rfl rfl rfl zqo ?_|refine WL.bf rfl rfl rfl zqo ?_|refine WL.nf rfl rfl rfl zqo ?_|refine WL.e1 rfl ?_|refine WL.gyes rfl rfl rfl rfl ?_|refine WL.opno rfl rfl rfl rfl rfl rfl rfl ?_|refine WL.ar rfl rfl z44i ?_|refine WL.len rfl rfl rfl ?_|refine W.condT rfl ?_|refine W.condF rfl ?_)
     (first|refine (?_:W _ _ _ _ _)|refine (?_:WL _ _ _ _ _ _)|skip)
     try dsimp only [St.put,Nat.reduceAdd]
     refine ⟨k+1,by omega,by omega,?_⟩
     rw [hsn1]
     exact (zqt id)
  ·obtain rfl:k=S.length:=by omega
   rw [List.take_length]
   repeat (first|refine WL.vl rfl (WV.nch rfl rfl) ?_|refine W.gob rfl ?_|refine WL.nil ?_|refine WL.bt rfl rfl rfl zqo ?_|refine WL.bf rfl rfl rfl zqo ?_|refine WL.nf rfl rfl rfl zqo ?_|refine WL.e1 rfl ?_|refine WL.gyes rfl rfl rfl rfl ?_|refine WL.opno rfl rfl rfl rfl rfl rfl rfl ?_|refine WL.ar rfl rfl z44i ?_|refine WL.len rfl rfl rfl ?_|refine W.condT rfl ?_|refine W.condF rfl ?_)
   (first|refine (?_:W _ _ _ _ _)|refine (?_:WL _ _ _ _ _ _)|skip)
   try dsimp only [St.put,Nat.reduceAdd]
   refine WL.idx rfl rfl zqo h1 ?_
   repeat (first|refine WL.vl rfl (WV.nch rfl rfl) ?_|refine W.gob rfl ?_|refine WL.nil ?_|refine WL.bt rfl rfl rfl zqo ?_|refine WL.bf rfl rfl rfl zqo ?_|refine WL.nf rfl rfl rfl zqo ?_|refine WL.e1 rfl ?_|refine WL.gyes rfl rfl rfl rfl ?_|refine WL.opno rfl rfl rfl rfl rfl rfl rfl ?_|refine WL.ar rfl rfl z44i ?_|refine WL.len rfl rfl rfl ?_|refine W.condT rfl ?_|refine W.condF rfl ?_)
   (first|refine (?_:W _ _ _ _ _)|refine (?_:WL _ _ _ _ _ _)|skip)
   try dsimp only [St.put,Nat.reduceAdd]
   refine WL.idx rfl rfl zqo h2 ?_
   repeat (first|refine WL.vl rfl (WV.nch rfl rfl) ?_|refine W.gob rfl ?_|refine WL.nil ?_|refine WL.bt rfl rfl rfl zqo ?_|refine WL.bf rfl rfl rfl zqo ?_|refine WL.nf rfl rfl rfl zqo ?_|refine WL.e1 rfl ?_|refine WL.gyes rfl rfl rfl rfl ?_|refine WL.opno rfl rfl rfl rfl rfl rfl rfl ?_|refine WL.ar rfl rfl z44i ?_|refine WL.len rfl rfl rfl ?_|refine W.condT rfl ?_|refine W.condF rfl ?_)
   (first|refine (?_:W _ _ _ _ _)|refine (?_:WL _ _ _ _ _ _)|skip)
   try dsimp only [St.put,Nat.reduceAdd]
   exact ⟨i+1,by omega,by omega,(zqt id)⟩
 ·obtain rfl:i=p.evs.length:=by omega
  repeat (first|refine WL.vl rfl (WV.nch rfl rfl) ?_|refine W.gob rfl ?_|refine WL.nil ?_|refine WL.bt rfl rfl rfl zqo ?_|refine WL.bf rfl rfl rfl zqo ?_|refine WL.nf rfl rfl rfl zqo ?_|refine WL.e1 rfl ?_|refine WL.gyes rfl rfl rfl rfl ?_|refine WL.opno rfl rfl rfl rfl rfl rfl rfl ?_|refine WL.ar rfl rfl z44i ?_|refine WL.len rfl rfl rfl ?_|refine W.condT rfl ?_|refine W.condF rfl ?_)
  (first|refine (?_:W _ _ _ _ _)|refine (?_:WL _ _ _ _ _ _)|skip)
  try dsimp only [St.put,Nat.reduceAdd]
  exact W.ret zqr
end
end Go.Proofs.YtaeelcfjkhfpkaaGreat
