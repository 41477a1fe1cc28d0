/- The reference's losses of a piece carried over. (Under way; RWN.) -/
import Derived.Test.YtaeelcfjkhfpkaaGreatYYNq
import Derived.Test.YtaeelcfjkhfpkaaGreatZ4Nq
set_option maxHeartbeats 8000000
set_option maxRecDepth 100000
set_option linter.unusedVariables false
set_option linter.unusedSimpArgs false
namespace Go.Proofs.YtaeelcfjkhfpkaaGreat
open Go.RowKit
theorem z19i {z:Int} (h:I64 z:=by unfold I64;omega):I64 z:=h
theorem WV.nchP {P:Program} {C:Cx} {σ:St} {o:Oper} {x:Operand} {cells:List AV} (ho:o.op=.nilCheck x)(hx:σ.ev x=some (.pr cells)):WV P C o σ (.pr cells) :=
 WV.val (fun G a w ok=>(ok.evr hx).1) fun G a w ok=>by
  have hr:=(ok.evr hx).2
  obtain⟨p,u,ep,h1,h2⟩:=hr.pr_of.pr_of
  exact⟨_,by unfold execOp;simp [ho,ep],ep ▸ hr⟩
def eFl (l:List Stp):List AV:=[.ls 5 (l.map eStp)]
theorem rLoss_FS (C:Cg) (hC:CgLs C) (hm:∀ y,(C.ml y).length≤2) (H:Nat→Stp→Int) (q:Pce) (hO:PcOk q) (hA:∀ e∈q.evs,e.stops.Pairwise fun x y=>x.1 < y.1) (cs:List (Int×Int×Bool)) (st:List Int) :
  Ctr Tryz.prog 67 [.pr [.ls 3 (cs.map eCrs),.ls 1 (st.map eInt),.ls 6 ((fnL H (nwL C q.evs)).map eEv),.ls 1 ((kpA C q.evs).map eFl)],ePce q] (.ls 3 ((lsL C H q.evs q.evs.length).map eLk)):=by
 have hPe:ePce q=.ag [.ls 3 (q.cs.map eCrs),.ls 1 (q.st.map eInt),.ls 6 (q.evs.map eEv)]:=rfl
 rw [hPe]
 have hn:=hO.n3
 have hEv:∀ k (h:k < q.evs.length),(q.evs.map eEv)[((k:Nat):Int).toNat]?=some [.sc (.bool q.evs[k].bar),.sc (.int .i64 q.evs[k].val),.sc (.bool q.evs[k].dot),.sc (.bool q.evs[k].three),.sc (.bool q.evs[k].tie),.ls 5 (q.evs[k].stops.map eStp)]:=fun k h=>by
  rw [Int.toNat_natCast,List.getElem?_map,List.getElem?_eq_getElem h];rfl
 have hNw:∀ k (h:k < q.evs.length),((fnL H (nwL C q.evs)).map eEv)[((k:Nat):Int).toNat]?=some [.sc (.bool q.evs[k].bar),.sc (.int .i64 q.evs[k].val),.sc (.bool q.evs[k].dot),.sc (.bool q.evs[k].three),.sc (.bool (nwT C k q.evs[k])),.ls 5 (((nwS C q.evs[k].stops).map fun y=>stH y (H k y)).map eStp)]:=fun k h=>by
  have h2:k < (nwL C q.evs).length:=by rw [nwL_len];exact h
  rw [Int.toNat_natCast,List.getElem?_map,List.getElem?_eq_getElem (by rw [fnL_len];exact h2),fnL_get h2,nwL_get h];rfl
 have hFr:∀ k (h:k < q.evs.length),((kpA C q.evs).map eFl)[((k:Nat):Int).toNat]?=some [.ls 5 ((kpS C q.evs[k].stops).map eStp)]:=fun k h=>by
  rw [Int.toNat_natCast,List.getElem?_map,show (kpA C q.evs)[k]?=some (kpS C q.evs[k].stops) by unfold kpA;rw [List.getElem?_map,List.getElem?_eq_getElem h];rfl];rfl
 have hEl:(q.evs.map eEv).length=q.evs.length:=List.length_map _
 have hNl:((fnL H (nwL C q.evs)).map eEv).length=q.evs.length:=by rw [List.length_map,fnL_len,nwL_len]
 have hFl:((kpA C q.evs).map eFl).length=q.evs.length:=by rw [List.length_map];exact List.length_map _
 obtain ⟨EV,hEV⟩:∃ z,q.evs.map eEv=z:=⟨_,rfl⟩
 obtain ⟨NV,hNV⟩:∃ z,(fnL H (nwL C q.evs)).map eEv=z:=⟨_,rfl⟩
 obtain ⟨FV,hFV⟩:∃ z,(kpA C q.evs).map eFl=z:=⟨_,rfl⟩
 rw [hEV] at hEv hEl ⊢
 rw [hNV] at hNw hNl ⊢
 rw [hFV] at hFr hFl ⊢
 refine zqe Tryz.func67 Tryz.ntmps67 fun w0 F0=>?_;dsimp only [St.init,number,Nat.reduceAdd]
 repeat refine W.go rfl ?_
 refine (?_:W _ _ _ _ _)
 refine W.tr (Tr.nil (t:=5) 72 3 rfl rfl) ?_
 dsimp only [St.put,St.new]
 refine (?_:W _ _ _ _ _)
 refine W.loop (fun k:Nat=>k≤q.evs.length) (fun k=>⟨[(0,.pr [.ls 3 (cs.map eCrs),.ls 1 (st.map eInt),.ls 6 NV,.ls 1 FV]),(3,.pt 0 0 0),(5,.sl 1),(6,.sc (.int .i64 k))],[(0,.box 29 [.ls 3 (q.cs.map eCrs),.ls 1 (q.st.map eInt),.ls 6 EV]),(1,.row 72 3 ((lsL C H q.evs k).map eLk))],2⟩) (fun k=>q.evs.length - k) 0 zqo (zqt (fun q=>q)) fun k hk=>?_
 by_cases hlt:k < q.evs.length
 rotate_left
 ·obtain rfl:k=q.evs.length:=by omega
  repeat (first|refine W.gob rfl ?_|refine WL.nil ?_|refine WL.bf rfl rfl rfl zqo ?_|refine WL.e1 rfl ?_|refine WL.len rfl rfl zql ?_|refine W.condF rfl ?_)
  refine (?_:W _ _ _ _ _)
  refine W.tr (Tr.freeze 1 rfl) ?_
  exact W.ret zqr
 have h1:=hEv k hlt
 have h2:=hNw k hlt
 have h3:=hFr k hlt
 repeat (first|refine W.gob rfl ?_|refine WL.nil ?_|refine WL.bt rfl rfl rfl zqo ?_|refine WL.e1 rfl ?_|refine WL.len rfl rfl zql ?_|refine W.condT rfl ?_)
 refine (?_:W _ _ _ _ _)
 refine W.meet ⟨[(0,.pr [.ls 3 (cs.map eCrs),.ls 1 (st.map eInt),.ls 6 NV,.ls 1 FV]),(3,.pt 0 0 0),(5,.sl 1),(6,.sc (.int .i64 k)),(7,.pt 2 0 0),(8,.pt 3 0 0)],[(0,.box 29 [.ls 3 (q.cs.map eCrs),.ls 1 (q.st.map eInt),.ls 6 EV]),(1,.row 72 3 ((lsL C H q.evs k).map eLk)),(2,.box 45 [.sc (.bool q.evs[k].bar),.sc (.int .i64 q.evs[k].val),.sc (.bool q.evs[k].dot),.sc (.bool q.evs[k].three),.sc (.bool q.evs[k].tie),.ls 5 (q.evs[k].stops.map eStp)]),(3,.box 45 [.sc (.bool q.evs[k].bar),.sc (.int .i64 q.evs[k].val),.sc (.bool q.evs[k].dot),.sc (.bool q.evs[k].three),.sc (.bool (nwT C k q.evs[k])),.ls 5 (((nwS C q.evs[k].stops).map fun y=>stH y (H k y)).map eStp)])],4⟩ ?_ ?_
 ·refine W.of_wa zqk ?_
  refine WA.eitherL2 [0,1,2,3,4,5,6,7,8,9,10,11,12,13,14,15,16] [0,1,2,3,4,5,6,7,8,9,10,11,12,13,14,15,16] [0,1,2,3,4,5,6,7,8,9,10,11,12,14,13,15,16] [0,1,2,3,4,5,6,7,8,9,10,11,12,14,13,15,16] 13 14 zqk zqk rfl ?_ ?_
  ·refine WA.ds [false,false,false,false,false,false,false,false,false,false,false,false,false,true,true,true,true] [0] zqk zqk ⟨rfl,trivial⟩ ?_
   repeat (first|refine DSK.st rfl rfl ?_|refine DSK.v0 rfl (WV.nchP rfl rfl) ?_|refine DSK.idx rfl rfl zqo (by first|exact h1|exact h2) ?_|refine DSK.al rfl rfl rfl rfl ⟨rfl,trivial⟩ ?_|refine DSK.sto rfl rfl rfl rfl rfl rfl rfl rfl rfl rfl rfl rfl rfl rfl ⟨rfl,trivial⟩ ?_|refine DSK.nil ?_)
   refine (?_:Tr _ _ _)
   exact (zqt id)
  ·refine WA.ds [false,false,false,false,false,false,false,false,false,false,false,false,false,true,true,true,true] [0] zqk zqk ⟨rfl,trivial⟩ ?_
   repeat (first|refine DSK.st rfl rfl ?_|refine DSK.v0 rfl (WV.nchP rfl rfl) ?_|refine DSK.idx rfl rfl zqo (by first|exact h1|exact h2) ?_|refine DSK.al rfl rfl rfl rfl ⟨rfl,trivial⟩ ?_|refine DSK.sto rfl rfl rfl rfl rfl rfl rfl rfl rfl rfl rfl rfl rfl rfl ⟨rfl,trivial⟩ ?_|refine DSK.nil ?_)
   refine (?_:Tr _ _ _)
   exact (zqt (fun q=>bif Nat.beq q 2 then 3 else bif Nat.beq q 3 then 2 else q))
 have hll:(lsL C H q.evs k).length≤100000:=by
  have h20:∀ e∈q.evs,e.stops.length≤20:=fun e he=>by
   obtain ⟨i,hi,rfl⟩:=List.getElem_of_mem he
   exact hO.n4 i hi
  have:=lsL_len (C:=C) (H:=H) hm h20 k zqo
  omega
 obtain ⟨e,hev⟩:∃ z,q.evs[k]=z:=⟨_,rfl⟩
 rw [hev] at h1 h2 h3 ⊢
 obtain ⟨b,v,dt,th,ti,S⟩:=e
 dsimp only at h1 h2 h3 ⊢
 have hTy:S.length=0→nwT C k ⟨b,v,dt,th,ti,S⟩=C.tie k ⟨b,v,dt,th,ti,S⟩:=fun h=>if_pos h
 obtain ⟨ty,hty⟩:∃ z,nwT C k ⟨b,v,dt,th,ti,S⟩=z:=⟨_,rfl⟩
 rw [hty] at h2 hTy ⊢
 have hSl:(S.map eStp).length=S.length:=List.length_map _
 obtain ⟨SS,hSS⟩:∃ z,S.map eStp=z:=⟨_,rfl⟩
 rw [hSS] at h1 hSl ⊢
 obtain ⟨YS,hYS⟩:∃ z,(((nwS C S).map fun y=>stH y (H k y)).map eStp)=z:=⟨_,rfl⟩
 rw [hYS] at h2 ⊢
 obtain ⟨L0,hL0⟩:∃ z,lsL C H q.evs k=z:=⟨_,rfl⟩
 rw [hL0] at hll ⊢
 refine (?_:W _ _ _ _ _)
 refine W.seq ?_
 refine W.meet ⟨[(0,.pr [.ls 3 (cs.map eCrs),.ls 1 (st.map eInt),.ls 6 NV,.ls 1 FV]),(3,.pt 0 0 0),(5,.sl 1),(6,.sc (.int .i64 k)),(7,.pt 2 0 0),(8,.pt 3 0 0)],[(0,.box 29 [.ls 3 (q.cs.map eCrs),.ls 1 (q.st.map eInt),.ls 6 EV]),(1,.row 72 3 ((L0++if S.length=0∧ti=true∧ty=false then [((k:Int),(0:Int),(7:Int))] else []).map eLk)),(2,.box 45 [.sc (.bool b),.sc (.int .i64 v),.sc (.bool dt),.sc (.bool th),.sc (.bool ti),.ls 5 SS]),(3,.box 45 [.sc (.bool b),.sc (.int .i64 v),.sc (.bool dt),.sc (.bool th),.sc (.bool ty),.ls 5 YS])],4⟩ ?_ ?_
 ·by_cases hS0:S.length=0
  ·cases ti with
   | false =>
    repeat (first|refine W.gob rfl ?_|refine WL.nil ?_|refine WL.bt rfl rfl rfl zqo ?_|refine WL.e1 rfl ?_|refine WL.gyes rfl rfl rfl rfl ?_|refine WL.opno rfl rfl rfl rfl rfl rfl rfl ?_|refine WL.len rfl rfl zql ?_|refine W.condF rfl ?_)
    refine (?_:Tr _ _ _)
    exact (zqu (fun q=>q) (by repeat (first|exact trivial|refine ⟨⟨?_,?_,?_⟩,?_⟩|rfl|exact congrArg (fun q=>some (AO.row _ _ q)) (by rw [if_neg (fun h=>by cases h.2.1),List.append_nil])|exact congrArg (fun q=>some (AO.rwn _ _ q)) (by rw [if_neg (fun h=>by cases h.2.1),List.append_nil]))) rfl)
   | true =>
    cases ty with
    | true =>
     repeat (first|refine W.gob rfl ?_|refine WL.nil ?_|refine WL.bt rfl rfl rfl zqo ?_|refine WL.e1 rfl ?_|refine WL.gyes rfl rfl rfl rfl ?_|refine WL.len rfl rfl zql ?_|refine W.condF rfl ?_)
     refine (?_:Tr _ _ _)
     exact (zqu (fun q=>q) (by repeat (first|exact trivial|refine ⟨⟨?_,?_,?_⟩,?_⟩|rfl|exact congrArg (fun q=>some (AO.row _ _ q)) (by rw [if_neg (fun h=>by cases h.2.2),List.append_nil])|exact congrArg (fun q=>some (AO.rwn _ _ q)) (by rw [if_neg (fun h=>by cases h.2.2),List.append_nil]))) rfl)
    | false =>
     repeat (first|refine W.gob rfl ?_|refine WL.nil ?_|refine WL.bt rfl rfl rfl zqo ?_|refine WL.e1 rfl ?_|refine WL.gyes rfl rfl rfl rfl ?_|refine WL.len rfl rfl zql ?_|refine WL.app rfl rfl rfl zqs ?_|refine W.condT rfl ?_)
     refine (?_:Tr _ _ _)
     exact (zqu (fun q=>bif Nat.beq q 1 then 5 else q) (by repeat (first|exact trivial|refine ⟨⟨?_,?_,?_⟩,?_⟩|rfl|exact congrArg (fun q=>some (AO.row _ _ q)) (by rw [if_pos ⟨hS0,rfl,rfl⟩,List.map_append];rfl)|exact congrArg (fun q=>some (AO.rwn _ _ q)) (by rw [if_pos ⟨hS0,rfl,rfl⟩,List.map_append];rfl))) rfl)
  ·repeat (first|refine W.gob rfl ?_|refine WL.nil ?_|refine WL.bf rfl rfl rfl zqo ?_|refine WL.e1 rfl ?_|refine WL.opno rfl rfl rfl rfl rfl rfl rfl ?_|refine WL.len rfl rfl zql ?_|refine W.condF rfl ?_)
   refine (?_:Tr _ _ _)
   exact (zqu (fun q=>q) (by repeat (first|exact trivial|refine ⟨⟨?_,?_,?_⟩,?_⟩|rfl|exact congrArg (fun q=>some (AO.row _ _ q)) (by rw [if_neg (fun h=>hS0 h.1),List.append_nil])|exact congrArg (fun q=>some (AO.rwn _ _ q)) (by rw [if_neg (fun h=>hS0 h.1),List.append_nil]))) rfl)
 have hl1:(L0++if S.length=0∧ti=true∧ty=false then [((k:Int),(0:Int),(7:Int))] else []).length≤100001:=by
  rw [List.length_append];split<;>simp<;>omega
 obtain ⟨L1,hL1⟩:∃ z,(L0++if S.length=0∧ti=true∧ty=false then [((k:Int),(0:Int),(7:Int))] else [])=z:=⟨_,rfl⟩
 rw [hL1] at hl1 ⊢
 refine (?_:W _ _ _ _ _)
 refine W.seq ?_
 refine W.meet ⟨[(0,.pr [.ls 3 (cs.map eCrs),.ls 1 (st.map eInt),.ls 6 NV,.ls 1 FV]),(3,.pt 0 0 0),(5,.sl 1),(6,.sc (.int .i64 k)),(7,.pt 2 0 0),(8,.pt 3 0 0)],[(0,.box 29 [.ls 3 (q.cs.map eCrs),.ls 1 (q.st.map eInt),.ls 6 EV]),(1,.row 72 3 ((L1++if S.length=0∧ti=false∧ty=true then [((k:Int),(0:Int),(8:Int))] else []).map eLk)),(2,.box 45 [.sc (.bool b),.sc (.int .i64 v),.sc (.bool dt),.sc (.bool th),.sc (.bool ti),.ls 5 SS]),(3,.box 45 [.sc (.bool b),.sc (.int .i64 v),.sc (.bool dt),.sc (.bool th),.sc (.bool ty),.ls 5 YS])],4⟩ ?_ ?_
 ·by_cases hS0:S.length=0
  ·cases ti with
   | true =>
    repeat (first|refine W.gob rfl ?_|refine WL.nil ?_|refine WL.bt rfl rfl rfl zqo ?_|refine WL.e1 rfl ?_|refine WL.gyes rfl rfl rfl rfl ?_|refine WL.opno rfl rfl rfl rfl rfl rfl rfl ?_|refine WL.len rfl rfl zql ?_|refine W.condF rfl ?_)
    refine (?_:Tr _ _ _)
    exact (zqu (fun q=>q) (by repeat (first|exact trivial|refine ⟨⟨?_,?_,?_⟩,?_⟩|rfl|exact congrArg (fun q=>some (AO.row _ _ q)) (by rw [if_neg (fun h=>by cases h.2.1),List.append_nil])|exact congrArg (fun q=>some (AO.rwn _ _ q)) (by rw [if_neg (fun h=>by cases h.2.1),List.append_nil]))) rfl)
   | false =>
    cases ty with
    | false =>
     repeat (first|refine W.gob rfl ?_|refine WL.nil ?_|refine WL.bt rfl rfl rfl zqo ?_|refine WL.e1 rfl ?_|refine WL.gyes rfl rfl rfl rfl ?_|refine WL.len rfl rfl zql ?_|refine W.condF rfl ?_)
     refine (?_:Tr _ _ _)
     exact (zqu (fun q=>q) (by repeat (first|exact trivial|refine ⟨⟨?_,?_,?_⟩,?_⟩|rfl|exact congrArg (fun q=>some (AO.row _ _ q)) (by rw [if_neg (fun h=>by cases h.2.2),List.append_nil])|exact congrArg (fun q=>some (AO.rwn _ _ q)) (by rw [if_neg (fun h=>by cases h.2.2),List.append_nil]))) rfl)
    | true =>
     repeat (first|refine W.gob rfl ?_|refine WL.nil ?_|refine WL.bt rfl rfl rfl zqo ?_|refine WL.e1 rfl ?_|refine WL.gyes rfl rfl rfl rfl ?_|refine WL.len rfl rfl zql ?_|refine WL.app rfl rfl rfl zqs ?_|refine W.condT rfl ?_)
     refine (?_:Tr _ _ _)
     exact (zqu (fun q=>bif Nat.beq q 1 then 5 else q) (by repeat (first|exact trivial|refine ⟨⟨?_,?_,?_⟩,?_⟩|rfl|exact congrArg (fun q=>some (AO.row _ _ q)) (by rw [if_pos ⟨hS0,rfl,rfl⟩,List.map_append];rfl)|exact congrArg (fun q=>some (AO.rwn _ _ q)) (by rw [if_pos ⟨hS0,rfl,rfl⟩,List.map_append];rfl))) rfl)
  ·repeat (first|refine W.gob rfl ?_|refine WL.nil ?_|refine WL.bf rfl rfl rfl zqo ?_|refine WL.e1 rfl ?_|refine WL.opno rfl rfl rfl rfl rfl rfl rfl ?_|refine WL.len rfl rfl zql ?_|refine W.condF rfl ?_)
   refine (?_:Tr _ _ _)
   exact (zqu (fun q=>q) (by repeat (first|exact trivial|refine ⟨⟨?_,?_,?_⟩,?_⟩|rfl|exact congrArg (fun q=>some (AO.row _ _ q)) (by rw [if_neg (fun h=>hS0 h.1),List.append_nil])|exact congrArg (fun q=>some (AO.rwn _ _ q)) (by rw [if_neg (fun h=>hS0 h.1),List.append_nil]))) rfl)
 have hl2:(L1++if S.length=0∧ti=false∧ty=true then [((k:Int),(0:Int),(8:Int))] else []).length≤100002:=by
  rw [List.length_append];split<;>simp<;>omega
 obtain ⟨L2,hL2⟩:∃ z,(L1++if S.length=0∧ti=false∧ty=true then [((k:Int),(0:Int),(8:Int))] else [])=z:=⟨_,rfl⟩
 rw [hL2] at hl2 ⊢
 repeat (first|refine W.gob rfl ?_|refine WL.nil ?_|refine WL.e1 rfl ?_)
 refine (?_:W _ _ _ _ _)
 refine W.loop (fun j:Nat=>j≤S.length) (fun j=>⟨[(0,.pr [.ls 3 (cs.map eCrs),.ls 1 (st.map eInt),.ls 6 NV,.ls 1 FV]),(3,.pt 0 0 0),(5,.sl 1),(6,.sc (.int .i64 k)),(7,.pt 2 0 0),(8,.pt 3 0 0),(9,.sc (.int .i64 j))],[(0,.box 29 [.ls 3 (q.cs.map eCrs),.ls 1 (q.st.map eInt),.ls 6 EV]),(1,.row 72 3 ((L2++(S.take j).flatMap (lsS C H k)).map eLk)),(2,.box 45 [.sc (.bool b),.sc (.int .i64 v),.sc (.bool dt),.sc (.bool th),.sc (.bool ti),.ls 5 SS]),(3,.box 45 [.sc (.bool b),.sc (.int .i64 v),.sc (.bool dt),.sc (.bool th),.sc (.bool ty),.ls 5 YS])],4⟩) (fun j=>S.length - j) 0 (by omega) (zqu (fun q=>q) (by repeat (first|exact trivial|refine ⟨⟨?_,?_,?_⟩,?_⟩|rfl|exact congrArg (fun q=>some (AO.row _ _ q)) (by rw [List.take_zero,List.flatMap_nil,List.append_nil])|exact congrArg (fun q=>some (AO.rwn _ _ q)) (by rw [List.take_zero,List.flatMap_nil,List.append_nil]))) rfl) fun j hj=>?_
 have hS20:S.length≤20:=by have:=hO.n4 k hlt;rw [hev] at this;exact this
 have hAS:S.Pairwise fun x y=>x.1 < y.1:=by have:=hA _ (List.getElem_mem hlt);rw [hev] at this;exact this
 by_cases hjl:j < S.length
 ·have hSj:SS[((j:Nat):Int).toNat]?=some [.sc (.int .i64 S[j].1),.sc (.int .i64 S[j].2.1),.sc (.int .i64 S[j].2.2.1),.sc (.int .i64 S[j].2.2.2.1),.sc (.int .i64 S[j].2.2.2.2)]:=by
   rw [← hSS,Int.toNat_natCast,List.getElem?_map,List.getElem?_eq_getElem hjl];rfl
  repeat (first|refine W.gob rfl ?_|refine WL.nil ?_|refine WL.bt rfl rfl rfl zqo ?_|refine WL.e1 rfl ?_|refine WL.len rfl rfl zql ?_|refine W.condT rfl ?_)
  refine (?_:W _ _ _ _ _)
  refine W.loop (fun m:Nat=>m≤(kpS C S).length) (fun m=>⟨[(0,.pr [.ls 3 (cs.map eCrs),.ls 1 (st.map eInt),.ls 6 NV,.ls 1 FV]),(3,.pt 0 0 0),(5,.sl 1),(6,.sc (.int .i64 k)),(7,.pt 2 0 0),(8,.pt 3 0 0),(9,.sc (.int .i64 j)),(10,.sc (.int .i64 (atF (kpS C S) S[j].1 m))),(11,.sc (.int .i64 m))],[(0,.box 29 [.ls 3 (q.cs.map eCrs),.ls 1 (q.st.map eInt),.ls 6 EV]),(1,.row 72 3 ((L2++(S.take j).flatMap (lsS C H k)).map eLk)),(2,.box 45 [.sc (.bool b),.sc (.int .i64 v),.sc (.bool dt),.sc (.bool th),.sc (.bool ti),.ls 5 SS]),(3,.box 45 [.sc (.bool b),.sc (.int .i64 v),.sc (.bool dt),.sc (.bool th),.sc (.bool ty),.ls 5 YS])],4⟩) (fun m=>(kpS C S).length - m) 0 zqo (zqt id) fun m hm2=>?_
  have hFl:((kpS C S).map eStp).length=(kpS C S).length:=List.length_map _
  have hFm:∀ h:m < (kpS C S).length,((kpS C S).map eStp)[((m:Nat):Int).toNat]?=some [.sc (.int .i64 (kpS C S)[m].1),.sc (.int .i64 (kpS C S)[m].2.1),.sc (.int .i64 (kpS C S)[m].2.2.1),.sc (.int .i64 (kpS C S)[m].2.2.2.1),.sc (.int .i64 (kpS C S)[m].2.2.2.2)]:=fun h=>by
   rw [Int.toNat_natCast,List.getElem?_map,List.getElem?_eq_getElem h];rfl
  obtain ⟨FR,hFR⟩:∃ z,(kpS C S).map eStp=z:=⟨_,rfl⟩
  rw [hFR] at hFl hFm h3
  have hk20:(kpS C S).length≤20:=by have:=kpS_len C S;omega
  by_cases hml:m < (kpS C S).length
  ·have hFm:=hFm hml
   repeat refine W.go rfl ?_
   refine (?_:WL _ _ _ _ _ _)
   refine WL.vl rfl (WV.nchP rfl rfl) ?_
   repeat refine WL.e1 rfl ?_
   refine (?_:WL _ _ _ _ _ _)
   refine WL.idx rfl rfl zqo h3 ?_
   repeat (first|refine W.gob rfl ?_|refine WL.nil ?_|refine WL.bt rfl rfl rfl zqo ?_|refine WL.e1 rfl ?_|refine WL.len rfl rfl zql ?_|refine W.condT rfl ?_)
   refine (?_:W _ _ _ _ _)
   refine W.drawK zqk zqk ?_
   repeat refine DK.st rfl ?_
   refine DK.vl rfl (WV.nchP rfl rfl) ?_
   repeat refine DK.st rfl ?_
   refine DK.idx rfl rfl zqo h3 ?_
   repeat refine DK.st rfl ?_
   refine DK.idx rfl rfl zqo hFm ?_
   repeat refine DK.st rfl ?_
   refine DK.idx rfl rfl zqo hSj ?_
   repeat (first|refine DK.st rfl ?_|refine DK.nil ?_)
   (refine W.cond rfl (fun hif=>?_) (fun hif=>?_)<;>(try simp only [decide_eq_true_eq,decide_eq_false_iff_not,Int.not_lt,Int.not_le,Bool.not_eq_true',Bool.not_eq_false'] at hif))
   ·have hc:(kpS C S)[m].1=S[j].1:=by simpa using hif
    have hA:=atF_yes1 hml hc
    repeat (first|refine W.gob rfl ?_|refine WL.nil ?_|refine WL.e1 rfl ?_|refine WL.ar rfl rfl z19i ?_)
    refine ⟨m+1,by omega,by omega,?_⟩
    rw [hA]
    exact (zqt id)
   ·have hc:(kpS C S)[m].1≠S[j].1:=by simpa using hif
    have hA:=atF_no1 hml hc
    repeat (first|refine W.gob rfl ?_|refine WL.nil ?_|refine WL.e1 rfl ?_|refine WL.ar rfl rfl z19i ?_)
    refine ⟨m+1,by omega,by omega,?_⟩
    rw [hA]
    exact (zqt id)
  ·obtain rfl:m=(kpS C S).length:=by omega
   have hR0l:((L2++(S.take j).flatMap (lsS C H k)).map eLk).length≤101000:=by
    have:=lsF_len (C:=C) (H:=H) hm k (S.take j)
    rw [List.length_take] at this
    rw [List.length_map,List.length_append];omega
   have hnext:∀ z,lsS C H k S[j]=z→(L2++(S.take j).flatMap (lsS C H k)).map eLk++z.map eLk=(L2++(S.take (j+1)).flatMap (lsS C H k)).map eLk:=fun z hz=>by
    rw [List.take_succ_eq_append_getElem hjl,List.flatMap_append,← List.append_assoc,List.map_append (l₁:=L2++(S.take j).flatMap (lsS C H k)),List.flatMap_cons,List.flatMap_nil,List.append_nil,hz]
   obtain ⟨R0,hR0⟩:∃ z,(L2++(S.take j).flatMap (lsS C H k)).map eLk=z:=⟨_,rfl⟩
   rw [hR0] at hR0l hnext ⊢
   clear hR0
   by_cases hc:(C.ch S[j]).2=true
   ·have hat:atF (kpS C S) S[j].1 (kpS C S).length=-1:=atF_lost hAS (List.getElem_mem hjl) hc
    have hrow:=hnext _ (lsS_lost hc)
    rw [hat]
    clear hnext hat
    repeat refine W.go rfl ?_
    refine (?_:WL _ _ _ _ _ _)
    refine WL.vl rfl (WV.nchP rfl rfl) ?_
    repeat refine WL.e1 rfl ?_
    refine (?_:WL _ _ _ _ _ _)
    refine WL.idx rfl rfl zqo h3 ?_
    repeat (first|refine W.gob rfl ?_|refine WL.nil ?_|refine WL.bf rfl rfl rfl zqo ?_|refine WL.e1 rfl ?_|refine WL.len rfl rfl zql ?_|refine W.condF rfl ?_)
    refine (?_:WL _ _ _ _ _ _)
    refine WL.idx rfl rfl zqo hSj ?_
    repeat (first|refine W.gob rfl ?_|refine WL.nil ?_|refine WL.bt rfl rfl rfl zqo ?_|refine WL.e1 rfl ?_|refine WL.ar rfl rfl z19i ?_|refine WL.app rfl rfl rfl zqs ?_|refine W.condT rfl ?_)
    refine (show ∃ x':Nat,_ from ?_)
    exact ⟨j+1,by omega,by omega,(zqu (fun q=>bif Nat.beq q 1 then 5 else q) (by repeat (first|exact trivial|refine ⟨⟨?_,?_,?_⟩,?_⟩|rfl|exact congrArg (fun q=>some (AO.row _ _ q)) hrow|exact congrArg (fun q=>some (AO.rwn _ _ q)) hrow)) rfl)⟩
   ·have hc:(C.ch S[j]).2=false:=by simpa using hc
    have hat:atF (kpS C S) S[j].1 (kpS C S).length=((kpS C (S.take j)).length:Nat):=atF_kept hAS hjl hc
    have hYj:=nw_pos hjl hc (H k)
    have hmap:∀ (p:Prop) [Decidable p] (x:Lck),(if p then [] else [x]:List Lck).map eLk=if p then [] else [eLk x]:=fun p _ x=>by split<;>rfl
    have hfin:=hnext _ (lsS_kept hC (H:=H) (i:=k) hc)
    rw [List.map_append,List.map_append,hmap,hmap,hmap,← List.append_assoc,← List.append_assoc] at hfin
    have hfin:((R0++(if (C.mr (C.ch S[j]).1).2.2.1=S[j].2.2.1 then [] else [[.sc (.int .i64 k),.sc (.int .i64 S[j].1),.sc (.int .i64 2)]]))++(if (C.mr (C.ch S[j]).1).2.2.2.1=S[j].2.2.2.1 then [] else [[.sc (.int .i64 k),.sc (.int .i64 S[j].1),.sc (.int .i64 3)]]))++(if H k (C.mr (C.ch S[j]).1)=S[j].2.2.2.2 then [] else [[.sc (.int .i64 k),.sc (.int .i64 S[j].1),.sc (.int .i64 4)]])=(L2++(S.take (j+1)).flatMap (lsS C H k)).map eLk:=hfin
    rw [hat]
    repeat refine W.go rfl ?_
    refine (?_:WL _ _ _ _ _ _)
    refine WL.vl rfl (WV.nchP rfl rfl) ?_
    repeat refine WL.e1 rfl ?_
    refine (?_:WL _ _ _ _ _ _)
    refine WL.idx rfl rfl zqo h3 ?_
    repeat (first|refine W.gob rfl ?_|refine WL.nil ?_|refine WL.bf rfl rfl rfl zqo ?_|refine WL.e1 rfl ?_|refine WL.len rfl rfl zql ?_|refine W.condF rfl ?_)
    refine (?_:WL _ _ _ _ _ _)
    refine WL.idx rfl rfl zqo hSj ?_
    repeat (first|refine W.gob rfl ?_|refine WL.nil ?_|refine WL.bf rfl rfl rfl zqo ?_|refine WL.e1 rfl ?_|refine W.condF rfl ?_)
    refine (?_:W _ _ _ _ _)
    clear hnext
    obtain ⟨X,hX⟩:∃ z,C.mr (C.ch S[j]).1=z:=⟨_,rfl⟩
    rw [hX] at hYj hfin
    have hYn:YS[(((kpS C (S.take j)).length:Nat):Int).toNat]?=some [.sc (.int .i64 X.1),.sc (.int .i64 X.2.1),.sc (.int .i64 X.2.2.1),.sc (.int .i64 X.2.2.2.1),.sc (.int .i64 (H k X))]:=by
     rw [← hYS,Int.toNat_natCast,List.getElem?_map,hYj];rfl
    obtain ⟨N0,hN0⟩:∃ z,(kpS C (S.take j)).length=z:=⟨_,rfl⟩
    rw [hN0] at hYn ⊢
    clear hYj hN0 hX hat hFm
    have hR1l:(R0++(if X.2.2.1=S[j].2.2.1 then [] else [[AV.sc (.int .i64 k),.sc (.int .i64 S[j].1),.sc (.int .i64 2)]])).length≤101002:=by
     rw [List.length_append];split<;>simp<;>omega
    refine W.meet2 ⟨[(0,.pr [.ls 3 (cs.map eCrs),.ls 1 (st.map eInt),.ls 6 NV,.ls 1 FV]),(3,.pt 0 0 0),(5,.sl 1),(6,.sc (.int .i64 k)),(7,.pt 2 0 0),(8,.pt 3 0 0),(9,.sc (.int .i64 j)),(10,.sc (.int .i64 N0)),(12,.sc (.int .i64 S[j].1))],[(0,.box 29 [.ls 3 (q.cs.map eCrs),.ls 1 (q.st.map eInt),.ls 6 EV]),(1,.row 72 3 (R0++(if X.2.2.1=S[j].2.2.1 then [] else [[.sc (.int .i64 k),.sc (.int .i64 S[j].1),.sc (.int .i64 2)]]))),(2,.box 45 [.sc (.bool b),.sc (.int .i64 v),.sc (.bool dt),.sc (.bool th),.sc (.bool ti),.ls 5 SS]),(3,.box 45 [.sc (.bool b),.sc (.int .i64 v),.sc (.bool dt),.sc (.bool th),.sc (.bool ty),.ls 5 YS])],4⟩ ?_ ?_
    ·refine W.drawK zqk zqk ?_
     repeat refine DK.st rfl ?_
     refine DK.idx rfl rfl zqo hYn ?_
     repeat refine DK.st rfl ?_
     refine DK.idx rfl rfl zqo hSj ?_
     repeat (first|refine DK.st rfl ?_|refine DK.nil ?_)
     (refine W.cond rfl (fun hif=>?_) (fun hif=>?_)<;>(try simp only [decide_eq_true_eq,decide_eq_false_iff_not,Int.not_lt,Int.not_le,Bool.not_eq_true',Bool.not_eq_false'] at hif))
     ·have e1:X.2.2.1≠S[j].2.2.1:=by simpa using hif
      repeat (first|refine W.gob rfl ?_|refine WL.nil ?_|refine WL.e1 rfl ?_|refine WL.app rfl rfl rfl zqs ?_)
      refine (?_:Tr _ _ _)
      exact (zqu (fun q=>bif Nat.beq q 1 then 5 else q) (by repeat (first|exact trivial|refine ⟨⟨?_,?_,?_⟩,?_⟩|rfl|exact congrArg (fun q=>some (AO.row _ _ q)) (by rw [if_neg e1];rfl)|exact congrArg (fun q=>some (AO.rwn _ _ q)) (by rw [if_neg e1];rfl))) rfl)
     ·have e1:X.2.2.1=S[j].2.2.1:=by simpa using hif
      repeat refine W.gob rfl ?_
      refine (?_:Tr _ _ _)
      exact (zqu (fun q=>q) (by repeat (first|exact trivial|refine ⟨⟨?_,?_,?_⟩,?_⟩|rfl|exact congrArg (fun q=>some (AO.row _ _ q)) (by rw [if_pos e1,List.append_nil])|exact congrArg (fun q=>some (AO.rwn _ _ q)) (by rw [if_pos e1,List.append_nil]))) rfl)
    obtain ⟨R1,hR1⟩:∃ z,R0++(if X.2.2.1=S[j].2.2.1 then [] else [[.sc (.int .i64 k),.sc (.int .i64 S[j].1),.sc (.int .i64 2)]])=z:=⟨_,rfl⟩
    rw [hR1] at hR1l hfin ⊢
    refine (?_:W _ _ _ _ _)
    refine W.seq ?_
    refine W.seq ?_
    have hR2l:(R1++(if X.2.2.2.1=S[j].2.2.2.1 then [] else [[AV.sc (.int .i64 k),.sc (.int .i64 S[j].1),.sc (.int .i64 3)]])).length≤101003:=by
     rw [List.length_append];split<;>simp<;>omega
    refine W.meet2 ⟨[(0,.pr [.ls 3 (cs.map eCrs),.ls 1 (st.map eInt),.ls 6 NV,.ls 1 FV]),(3,.pt 0 0 0),(5,.sl 1),(6,.sc (.int .i64 k)),(7,.pt 2 0 0),(8,.pt 3 0 0),(9,.sc (.int .i64 j)),(10,.sc (.int .i64 N0)),(12,.sc (.int .i64 S[j].1))],[(0,.box 29 [.ls 3 (q.cs.map eCrs),.ls 1 (q.st.map eInt),.ls 6 EV]),(1,.row 72 3 (R1++(if X.2.2.2.1=S[j].2.2.2.1 then [] else [[.sc (.int .i64 k),.sc (.int .i64 S[j].1),.sc (.int .i64 3)]]))),(2,.box 45 [.sc (.bool b),.sc (.int .i64 v),.sc (.bool dt),.sc (.bool th),.sc (.bool ti),.ls 5 SS]),(3,.box 45 [.sc (.bool b),.sc (.int .i64 v),.sc (.bool dt),.sc (.bool th),.sc (.bool ty),.ls 5 YS])],4⟩ ?_ ?_
    ·refine W.drawK zqk zqk ?_
     repeat refine DK.st rfl ?_
     refine DK.idx rfl rfl zqo hYn ?_
     repeat refine DK.st rfl ?_
     refine DK.idx rfl rfl zqo hSj ?_
     repeat (first|refine DK.st rfl ?_|refine DK.nil ?_)
     (refine W.cond rfl (fun hif=>?_) (fun hif=>?_)<;>(try simp only [decide_eq_true_eq,decide_eq_false_iff_not,Int.not_lt,Int.not_le,Bool.not_eq_true',Bool.not_eq_false'] at hif))
     ·have e1:X.2.2.2.1≠S[j].2.2.2.1:=by simpa using hif
      repeat (first|refine W.gob rfl ?_|refine WL.nil ?_|refine WL.e1 rfl ?_|refine WL.app rfl rfl rfl zqs ?_)
      refine (?_:Tr _ _ _)
      exact (zqu (fun q=>bif Nat.beq q 1 then 5 else q) (by repeat (first|exact trivial|refine ⟨⟨?_,?_,?_⟩,?_⟩|rfl|exact congrArg (fun q=>some (AO.row _ _ q)) (by rw [if_neg e1];rfl)|exact congrArg (fun q=>some (AO.rwn _ _ q)) (by rw [if_neg e1];rfl))) rfl)
     ·have e1:X.2.2.2.1=S[j].2.2.2.1:=by simpa using hif
      repeat refine W.gob rfl ?_
      refine (?_:Tr _ _ _)
      exact (zqu (fun q=>q) (by repeat (first|exact trivial|refine ⟨⟨?_,?_,?_⟩,?_⟩|rfl|exact congrArg (fun q=>some (AO.row _ _ q)) (by rw [if_pos e1,List.append_nil])|exact congrArg (fun q=>some (AO.rwn _ _ q)) (by rw [if_pos e1,List.append_nil]))) rfl)
    obtain ⟨R2,hR2⟩:∃ z,R1++(if X.2.2.2.1=S[j].2.2.2.1 then [] else [[.sc (.int .i64 k),.sc (.int .i64 S[j].1),.sc (.int .i64 3)]])=z:=⟨_,rfl⟩
    rw [hR2] at hR2l hfin ⊢
    refine (?_:W _ _ _ _ _)
    refine W.seq ?_
    refine W.drawK zqk zqk ?_
    repeat refine DK.st rfl ?_
    refine DK.idx rfl rfl zqo hYn ?_
    repeat refine DK.st rfl ?_
    refine DK.idx rfl rfl zqo hSj ?_
    repeat (first|refine DK.st rfl ?_|refine DK.nil ?_)
    (refine W.cond rfl (fun hif=>?_) (fun hif=>?_)<;>(try simp only [decide_eq_true_eq,decide_eq_false_iff_not,Int.not_lt,Int.not_le,Bool.not_eq_true',Bool.not_eq_false'] at hif))
    ·have e1:H k X≠S[j].2.2.2.2:=by simpa using hif
     have hfin:R2++[[.sc (.int .i64 k),.sc (.int .i64 S[j].1),.sc (.int .i64 4)]]=(L2++(S.take (j+1)).flatMap (lsS C H k)).map eLk:=by rw [← hfin,if_neg e1]
     repeat (first|refine W.gob rfl ?_|refine WL.nil ?_|refine WL.e1 rfl ?_|refine WL.ar rfl rfl z19i ?_|refine WL.app rfl rfl rfl zqs ?_)
     exact ⟨j+1,by omega,by omega,(zqu (fun q=>bif Nat.beq q 1 then 5 else q) (by repeat (first|exact trivial|refine ⟨⟨?_,?_,?_⟩,?_⟩|rfl|exact congrArg (fun q=>some (AO.row _ _ q)) hfin|exact congrArg (fun q=>some (AO.rwn _ _ q)) hfin)) rfl)⟩
    ·have e1:H k X=S[j].2.2.2.2:=by simpa using hif
     have hfin:R2=(L2++(S.take (j+1)).flatMap (lsS C H k)).map eLk:=by rw [← hfin,if_pos e1,List.append_nil]
     repeat (first|refine W.gob rfl ?_|refine WL.nil ?_|refine WL.e1 rfl ?_|refine WL.ar rfl rfl z19i ?_)
     exact ⟨j+1,by omega,by omega,(zqu (fun q=>q) (by repeat (first|exact trivial|refine ⟨⟨?_,?_,?_⟩,?_⟩|rfl|exact congrArg (fun q=>some (AO.row _ _ q)) hfin|exact congrArg (fun q=>some (AO.rwn _ _ q)) hfin)) rfl)⟩
 ·obtain rfl:j=S.length:=by omega
  rw [List.take_length]
  have hend:L2++S.flatMap (lsS C H k)=lsL C H q.evs (k+1):=by
   have h:=lsL_ev (C:=C) (H:=H) hlt
   rw [hev] at h
   dsimp only at h
   rw [hty,hL0,hL1,hL2] at h
   exact h.symm
  repeat (first|refine W.gob rfl ?_|refine WL.nil ?_|refine WL.bf rfl rfl rfl zqo ?_|refine WL.e1 rfl ?_|refine WL.ar rfl rfl z19i ?_|refine WL.len rfl rfl zql ?_|refine W.condF rfl ?_)
  exact ⟨k+1,by omega,by omega,(zqu (fun q=>q) (by repeat (first|exact trivial|refine ⟨⟨?_,?_,?_⟩,?_⟩|rfl|exact congrArg (fun q=>some (AO.row _ _ q)) (congrArg (List.map eLk) hend)|exact congrArg (fun q=>some (AO.rwn _ _ q)) (congrArg (List.map eLk) hend))) rfl)⟩
end Go.Proofs.YtaeelcfjkhfpkaaGreat
