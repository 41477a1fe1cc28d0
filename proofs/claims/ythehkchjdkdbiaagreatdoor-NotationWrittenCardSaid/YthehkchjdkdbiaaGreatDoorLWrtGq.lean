/- The law: what is read is a valid piece that can be said, its text the one that was read but for the second line. -/
import Derived.Test.YthehkchjdkdbiaaGreatDoorRq5ubGq
import Derived.Test.YthehkchjdkdbiaaGreatDoorNrJGq
set_option maxHeartbeats 4000000
set_option maxRecDepth 100000
set_option linter.unusedVariables false
set_option linter.unusedSimpArgs false
namespace Go.Proofs.YthehkchjdkdbiaaGreatDoor
section
open Go.RowKit
theorem nr_bad_zero {s:Int} {cs:List Crs}:∀ {L:List (List UInt8)} {k:Nat},nr_bad s cs k L=none→∀ i (h:i<L.length),nr_err s cs (k+i) L[i]=0
 | t::r,k,h,i,hi=>by
  unfold nr_bad at h
  by_cases e:nr_err s cs k t≠0
  ·rw [if_pos e] at h;cases h
  ·rw [if_neg e] at h
   cases i with
   | zero=>exact Decidable.not_not.1 e
   | succ i =>
    have:=nr_bad_zero h i (by simpa using hi)
    rw [List.getElem_cons_succ,show k+(i+1)=k+1+i by omega]
    exact this
theorem nr_bad_ne {s:Int} {cs:List Crs}:∀ {L:List (List UInt8)} {k:Nat} {x:Nat×Int},nr_bad s cs k L=some x→x.2≠0
 | t::r,k,x,h=>by
  unfold nr_bad at h
  by_cases e:nr_err s cs k t≠0
  ·rw [if_pos e]at h;cases h;exact e
  ·rw [if_neg e]at h;exact nr_bad_ne h
theorem nw_read_of {t:List UInt8} (h:(nr_read t).2.2.2=0):∃ s l1 F,NwR t s l1 F:=by
 have e0:nr_read t=nr_one (rq_spl 10 t).2 (rq_spl 10 t).1:=rfl
 obtain⟨⟨F0,tl⟩,hF⟩:∃ z,rq_spl 10 t=z:=⟨_,rfl⟩
 rw [e0,hF]at h
 rw [hF]at e0
 dsimp only at h e0
 cases F0 with
 | nil=>exact absurd h (by show ¬ (4:Int)=0;decide)
 | cons l0 F1 =>
  unfold nr_one at h e0
  dsimp only at h e0
  cases hs:nr_sys l0 with
  | none=>rw [hs]at h;exact absurd h (by show ¬ (4:Int)=0;decide)
  | some s =>
   rw [hs]at h e0
   dsimp only at h e0
   cases F1 with
   | nil=>exact absurd h (by show ¬ (4:Int)=0;decide)
   | cons l1 F =>
    unfold nr_two at h e0
    dsimp only at h e0
    by_cases hi:(nr_ins l1).2≠0
    ·rw [if_pos hi]at h
     exact absurd h hi
    rw [if_neg hi]at h e0
    by_cases hm:400<F.length+(if tl=[]then 0 else 1)
    ·rw [if_pos hm]at h
     exact absurd h (by show ¬ (2:Int)=0;decide)
    rw [if_neg hm]at h e0
    unfold nr_evs at h e0
    cases hb:nr_bad s (nr_ins l1).1.1 0 F with
    | some x =>
     rw [hb]at h
     exact absurd h (nr_bad_ne hb)
    | none =>
     rw [hb]at h e0
     dsimp only at h e0
     by_cases ht:tl≠[]
     ·rw [if_pos ht]at h
      exact absurd h (by show ¬ (4:Int)=0;decide)
     rw [if_neg ht]at h e0
     have ht2:tl=[]:=Decidable.not_not.1 ht
     cases hh:nr_hB s (F.map (nr_nc s (nr_ins l1).1.1))with
     | some i =>
      rw [hh]at h
      exact absurd h (by show ¬ (24:Int)=0;decide)
     | none =>
      rw [hh]at e0
      obtain⟨q1,q2⟩:=nw_l0_of hs
      subst q1
      subst ht2
      refine⟨s,l1,F,hF,q2,Decidable.not_not.1 hi,by simpa using hm,fun i hi=>?_,hh,e0⟩
      have:=nr_bad_zero hb i hi
      rw [Nat.zero_add]at this
      exact this
theorem nw_err_of {s:Int} {cs:List Crs} {k:Nat} {t:List UInt8} (h:nr_err s cs k t=0):nr_form s (nr_staff s cs) t=some (nr_nc s cs t)∧¬ (k=0∧(nr_nc s cs t).v=0)∧¬ (k=0∧(nr_nc s cs t).tie=true)∧∀ y∈(nr_nc s cs t).l,nr_note cs y=0:=by
 unfold nr_err at h
 unfold nr_nc
 cases hf:nr_form s (nr_staff s cs) t with
 | none=>rw [hf] at h;cases h
 | some x =>
  rw [hf] at h
  dsimp only at h
  unfold nr_chk at h
  refine ⟨rfl,?_⟩
  show ¬ (k=0∧x.v=0)∧¬ (k=0∧x.tie=true)∧∀ y∈x.l,nr_note cs y=0
  by_cases h1:(k == 0)=true∧x.v=0
  ·rw [if_pos h1] at h;cases h
  ·rw [if_neg h1] at h
   by_cases h2:((k == 0) && x.tie)=true
   ·rw [if_pos h2] at h;cases h
   ·rw [if_neg h2] at h
    refine ⟨fun q=>h1 ⟨by simpa using q.1,q.2⟩,fun q=>h2 (by rw [q.1,q.2];rfl),nw_notes_of h⟩
theorem nw_ins_chk {l:List UInt8} (h:(nr_ins l).2=0):insE (nr_ins l).1.1 (nr_ins l).1.2=0:=by
 unfold nr_ins at h ⊢
 split at h
 ·rename_i c;exact absurd h c
 ·rename_i c
  split at h
  ·rename_i c2;exact absurd h c2
  ·rename_i c2
   rw [if_neg c,if_neg c2]
   exact Decidable.not_not.1 c2
theorem evsE_zero {p:Pce}:∀ {l:List Ev} {k:Nat},(∀ i (h:i<l.length),evE p ((k+i:Nat):Int) l[i]=0)→evsE p k l=0
 | [],_,_=>rfl
 | e::r,k,h=>by
  have h0:=h 0 (by simp)
  simp only [Nat.add_zero,List.getElem_cons_zero] at h0
  unfold evsE
  rw [if_neg (by rw [h0];decide)]
  exact evsE_zero fun i hi=>by
   have:=h (i+1) (by simpa using hi)
   rw [List.getElem_cons_succ] at this
   rw [← this];congr 2;omega
theorem nw_pceE_of {p:Pce} (h1:insE p.cs p.st=0)(h2:p.evs.length≤400)(h3:∀ i (h:i<p.evs.length),evE p i p.evs[i]=0):pceE p=0:=by
 unfold pceE
 rw [if_neg (by rw [h1];decide),if_neg (by omega)]
 exact evsE_zero fun i hi=>by rw [Nat.zero_add];exact h3 i hi
theorem stopsE_zero {p:Pce} {i:Int}:∀ {l:List Stp} {last:Int},(l.Pairwise fun x y=>x.1<y.1)→(∀ x∈l,last<x.1)→(∀ x∈l,∀ la,la<x.1→stopE p i x la=0)→stopsE p i last l=0
 | [],_,_,_,_=>rfl
 | x::r,last,h1,h2,h3=>by
  unfold stopsE
  rw [if_neg (by rw [h3 x (by simp) last (h2 x (by simp))];decide)]
  exact stopsE_zero (List.pairwise_cons.1 h1).2 (List.pairwise_cons.1 h1).1 fun y hy=>h3 y (by simp [hy])
section
variable {t:List UInt8} {s:Int} {l1:List UInt8} {F:List (List UInt8)}
noncomputable def nw_P (s:Int)(l1:List UInt8)(F:List (List UInt8)):Pce:=⟨(nr_ins l1).1.1,(nr_ins l1).1.2,nr_fin s (F.map (nr_nc s (nr_ins l1).1.1))⟩
theorem nr_fin_len(s:Int)(E:List NC):(nr_fin s E).length=E.length:=List.length_mapIdx
theorem nw_fin_long (s:Int)(E:List NC)(i c:Int):longestN (nr_fin s E) i c=longestN (E.map nr_ev0) i c:=by
 refine nr_longest ?_ i c
 unfold nr_fin
 apply List.ext_getElem
 ·simp
 ·intro k a1 a2
  have hk:k < E.length:=by simpa using a2
  simp only [List.getElem_map,List.getElem_mapIdx]
  unfold nr_crsE nr_ev0 nr_evW restB
  refine Prod.ext ?_ ?_
  ·show List.map _ (List.map _ _)=List.map _ (List.map _ _)
   rw [List.map_map,List.map_map];rfl
  ·show ((List.map _ E[k].l).length == 0 && !E[k].tie)=((List.map _ E[k].l).length == 0 && !E[k].tie)
   rw [List.length_map,List.length_map]
theorem nw_P_len (h:NwR t s l1 F):(nw_P s l1 F).evs.length=F.length:=by
 show (nr_fin s (F.map (nr_nc s (nr_ins l1).1.1))).length=_
 rw [nr_fin_len,List.length_map]
theorem nw_event (h:NwR t s l1 F) {i:Nat} (hi:i < (nw_P s l1 F).evs.length) (hF:i < F.length) :
  colS s (nw_P s l1 F) i (nw_P s l1 F).evs[i]=F[i]∧lackE s (nw_P s l1 F) i (nw_P s l1 F).evs[i]=[]∧evE (nw_P s l1 F) i (nw_P s l1 F).evs[i]=0∧(nw_P s l1 F).evs[i].stops.length≤20:=by
 obtain ⟨e1,e2,e3,e4⟩:=nw_err_of (h.bad i hF)
 have hbn:=h.hb
 unfold nr_hB at hbn
 rw [List.find?_eq_none] at hbn
 have hb:=hbn i (List.mem_range.2 (by rw [List.length_map];exact hF))
 rw [List.getElem?_map,List.getElem?_eq_getElem hF] at hb
 have hb2:∀ y∈(nr_nc s (nr_ins l1).1.1 F[i]).l,nr_hE s (F.map (nr_nc s (nr_ins l1).1.1)) i y=false:=by
  rw [Bool.not_eq_true] at hb
  intro y hy
  have:=List.any_eq_false.1 (show ((nr_nc s (nr_ins l1).1.1 F[i]).l.any (nr_hE s (F.map (nr_nc s (nr_ins l1).1.1)) i))=false from hb) y hy
  simpa using this
 have hlong:∀ c,longestN (nw_P s l1 F).evs i c=longestN ((F.map (nr_nc s (nr_ins l1).1.1)).map nr_ev0) i c:=fun c=>nw_fin_long _ _ _ _
 have hev:(nw_P s l1 F).evs[i]=nr_evW (nr_nc s (nr_ins l1).1.1 F[i]) fun y=>nw_v s (longestN (nw_P s l1 F).evs i y.1) y.2.2.2.2:=by
  have:(nw_P s l1 F).evs[i]=nr_evW (nr_nc s (nr_ins l1).1.1 F[i]) (nr_hV s (F.map (nr_nc s (nr_ins l1).1.1)) i):=by
   rw [List.getElem_of_eq (show (nw_P s l1 F).evs=(F.map (nr_nc s (nr_ins l1).1.1)).mapIdx fun i x=>nr_evW x (nr_hV s (F.map (nr_nc s (nr_ins l1).1.1)) i) from rfl) hi,List.getElem_mapIdx,List.getElem_map]
  rw [this]
  congr 1
  funext y
  rw [hlong];rfl
 have hH:∀ y∈(nr_nc s (nr_ins l1).1.1 F[i]).l,NwH s (fun c=>longestN (nw_P s l1 F).evs i c) y:=fun y hy=>by
  have:=hb2 y hy
  unfold nr_hE nr_lg at this
  rw [← hlong] at this
  refine ⟨fun h0=>?_,fun h1=>?_⟩
  ·intro hz
   rw [decide_eq_true h0,decide_eq_true (show ((longestN (nw_P s l1 F).evs i y.1:Nat):Int)=0 by rw [show longestN (nw_P s l1 F).evs i y.1=0 from hz];rfl)] at this
   simp at this
  ·by_cases h0:y.2.2.2.2=0
   ·rw [h0];exact Nat.zero_le _
   ·rcases Nat.lt_or_ge (longestN (nw_P s l1 F).evs i y.1) y.2.2.2.2 with q|q
    ·rw [decide_eq_true h0,decide_eq_true h1,decide_eq_true (show ((longestN (nw_P s l1 F).evs i y.1:Nat):Int) < ((y.2.2.2.2:Nat):Int) by omega)] at this
     simp at this
    ·exact q
 obtain ⟨c1,c2,c3⟩:=nw_line (p:=nw_P s l1 F) (i:=(i:Int)) h.y e1 hH
 rw [← hev] at c1 c2
 refine ⟨c1,c2,?_,?_⟩
 ·-- the event is valid
  have hstops:(nw_P s l1 F).evs[i].stops=(nr_nc s (nr_ins l1).1.1 F[i]).l.map (nw_st s fun c=>longestN (nw_P s l1 F).evs i c):=by rw [hev];rfl
  have hval:(nw_P s l1 F).evs[i].val=((nr_nc s (nr_ins l1).1.1 F[i]).v:Int):=by rw [hev];rfl
  have htie:(nw_P s l1 F).evs[i].tie=(nr_nc s (nr_ins l1).1.1 F[i]).tie:=by rw [hev];rfl
  have hsg:sgOk (nw_P s l1 F).evs[i].val (nw_P s l1 F).evs[i].dot (nw_P s l1 F).evs[i].three=true:=by rw [hev];exact c3.sg
  unfold evE
  rw [hstops,htie,hval] at *
  rw [if_neg (fun q=>by
   rcases q with q|q
   ·have:=hsg
    rw [q] at this;cases this
   ·exact e2 ⟨by omega,by omega⟩),if_neg (fun q=>by
   have hnil:=c3.tie q.1
   rcases q.2 with k|k
   ·rw [hnil] at k;simp at k
   ·exact e3 ⟨by omega,q.1⟩)]
  refine stopsE_zero ?_ ?_ ?_
  ·rw [List.pairwise_map]
   refine List.Pairwise.imp (fun {a b} hab=>?_) c3.asc
   show ((a.1:Nat):Int) < ((b.1:Nat):Int)
   omega
  ·intro x hx
   obtain ⟨y,hy,rfl⟩:=List.mem_map.1 hx
   have:=(c3.st y hy).c
   show 0 < (y.1:Int)
   have h2:(1:Int)≤(y.1:Int):=this.1
   omega
  ·intro x hx la hla
   obtain ⟨y,hy,rfl⟩:=List.mem_map.1 hx
   obtain ⟨d1,d2,d3,d4,d5,d6,d7,d8⟩:=c3.st y hy
   have h1:1≤y.1:=by have h2:(1:Int)≤(y.1:Int):=d1.1;omega
   obtain ⟨f1,f2⟩:=(nw_note_iff h1).1 (e4 y hy)
   have a1:(nw_st s (fun c=>longestN (nw_P s l1 F).evs i c) y).1=(y.1:Int):=rfl
   have a2:(nw_st s (fun c=>longestN (nw_P s l1 F).evs i c) y).2.1=(y.2.1:Int):=rfl
   have a3:(nw_P s l1 F).cs=(nr_ins l1).1.1:=rfl
   refine stopE_ok ?_ ?_ ?_ ?_ ?_
   ·rw [a1,a3];omega
   ·rw [a1,a2,a3];omega
   ·omega
   ·omega
   ·intro q
    rcases q with q|q
    ·rcases q with q|q
     ·omega
     ·omega
    ·exact d7 q.1 q.2
 ·rw [hev]
  show ((nr_nc s (nr_ins l1).1.1 F[i]).l.map _).length≤20
  rw [List.length_map]
  rcases nr_asc_len (a:=0) c3.asc (fun x hx=>by
   have h2:=(c3.st x hx).c
   have h3:(1:Int)≤(x.1:Int)∧(x.1:Int)≤14:=h2
   omega) with q|q
  ·omega
  ·rw [q];simp
theorem nw_written (h:NwR t s l1 F):NwP s (nw_P s l1 F)∧PcOk (nw_P s l1 F)∧nw_T s (nw_P s l1 F)=rq_joinC 10 (nw_l0 s::fmT (nw_P s l1 F).cs (nw_P s l1 F).st::F) []:=by
 have hl:=nw_P_len h
 have hI:=nw_ins_chk h.ins
 obtain⟨i1,i2,i3,_,_⟩:=insE_len hI
 have hcols:nw_cols s (nw_P s l1 F)=F:=by
  apply List.ext_getElem
  ·rw [nw_cols_len,hl]
  ·intro i a1 a2
   rw [nw_cols_at a1]
   exact (nw_event h _ a2).1
 refine⟨⟨nw_pceE_of hI (by have:=h.len;omega) fun i hi=>(nw_event h hi zqo).2.2.1,h.y,fun i hi=>(nw_event h hi zqo).2.1⟩,⟨?_,?_,?_,fun k hk=>(nw_event h hk zqo).2.2.2⟩,?_⟩
 ·show (nr_ins l1).1.1.length≤64;omega
 ·show (nr_ins l1).1.2.length≤64;omega
 ·have:=h.len;omega
 ·unfold nw_T;rw [hcols]
end
end
section
open Go.RowKit
theorem written_G (t:List UInt8):Ctg tabW Tryz.prog 4 [.sc (.string (bs t))] (.sc (.bool true)):=by
 refine Ctg.intro stabW Tryz.func4 rfl Tryz.ntmps4 (Nat.le_of_ble_eq_true rfl) (bd_all rfl) fun w0 F0 hB=>?_;dsimp only [St.init,number,Nat.reduceAdd]
 refine zqg15 ?_
 (refine W.cond rfl (fun hif=>?_) (fun hif=>?_)<;>(try simp only [decide_eq_true_eq,decide_eq_false_iff_not,Int.not_lt,Int.not_le,Bool.not_eq_true',Bool.not_eq_false'] at hif))
 ·refine zqg15 ?_
  refine WL.vl rfl (zqc Tryz.func10 works_FS) ?_
  refine zqg15 ?_
  exact W.ret zqr
 have hl:t.length≤20000:=by omega
 have hP:=(read_G t zqo).wN
 by_cases he:(nr_read t).2.2.2=0
 rotate_left
 ·unfold rdR at hP
  obtain ⟨⟨s,p,n,e⟩,hr⟩:∃ z,nr_read t=z:=⟨_,rfl⟩
  rw [hr] at hP he
  dsimp only at hP he
  refine zqg15 ?_
  refine WL.vl rfl (WV.callG hB rfl (callF Tryz.func11 rfl rfl) rfl rfl hP) ?_
  refine zqg16 ?_
  refine WL.vl rfl (zqc Tryz.func10 works_FS) ?_
  refine zqg16 ?_
  exact W.ret zqr
 obtain ⟨s,l1,F,hR⟩:=nw_read_of he
 obtain ⟨q1,q2,q3⟩:=nw_written hR
 have hEq:=hR.eq
 have hPe:(⟨(nr_ins l1).1.1,(nr_ins l1).1.2,nr_fin s (F.map (nr_nc s (nr_ins l1).1.1))⟩:Pce)=nw_P s l1 F:=rfl
 rw [hPe] at hEq
 rw [hEq] at hP
 obtain ⟨w1,w2,w3,w4⟩:=nw_wr q1
 have hW:=(pWrite_G s (nw_P s l1 F) q2).wB
 rw [w3,w4] at hW
 have hC:=rCheck_FS (nw_P s l1 F) q2
 rw [q1.e] at hC
 have hTl:=nw_T_len q1
 have hLt:=rLines_FS t zqo
 have hLu:=rLines_FS (nw_T s (nw_P s l1 F)) zqo
 have hspl:rq_spl 10 (nw_T s (nw_P s l1 F))=(nw_l0 s::fmT (nw_P s l1 F).cs (nw_P s l1 F).st::F,[]):=by
  rw [q3]
  have hno:=(rq_spl_no 10 t).1
  rw [hR.spl] at hno
  refine rq_spl_uniq (fun l hlm=>?_) (fun b hb=>by cases hb)
  rcases List.mem_cons.1 hlm with rfl|hlm
  ·exact (nw_sys_of hR.y).2
  ·rcases List.mem_cons.1 hlm with rfl|hlm
   ·exact (nw_ins (pceE_zero q1.e).1).2
   ·exact hno l (by simp [hlm])
 rw [hR.spl] at hLt
 rw [hspl] at hLu
 dsimp only at hLt hLu
 rw [if_pos rfl,decide_eq_true rfl] at hLt hLu
 have hl2:(nw_l0 s::l1::F).length=(nw_l0 s::fmT (nw_P s l1 F).cs (nw_P s l1 F).st::F).length:=rfl
 have hlt0:((nw_l0 s::l1::F).map eTx).length=F.length+2:=by simp
 have hlu0:((nw_l0 s::fmT (nw_P s l1 F).cs (nw_P s l1 F).st::F).map eTx).length=F.length+2:=by simp
 have hFl:=hR.len
 have hat:∀ k (h:k < F.length+2),∃ a b:List UInt8,((nw_l0 s::l1::F).map eTx)[((k:Nat):Int).toNat]?=some (eTx a)∧((nw_l0 s::fmT (nw_P s l1 F).cs (nw_P s l1 F).st::F).map eTx)[((k:Nat):Int).toNat]?=some (eTx b)∧(k≠1→a=b):=fun k h=>by
  rw [Int.toNat_natCast]
  match k,h with
  | 0,_=>exact ⟨nw_l0 s,nw_l0 s,rfl,rfl,fun _=>rfl⟩
  | 1,_=>exact ⟨l1,fmT (nw_P s l1 F).cs (nw_P s l1 F).st,rfl,rfl,fun h=>absurd rfl h⟩
  | k+2,h =>
   have hk:k < F.length:=by omega
   refine ⟨F[k],F[k],?_,?_,fun _=>rfl⟩
   ·rw [List.getElem?_map,List.getElem?_cons_succ,List.getElem?_cons_succ,List.getElem?_eq_getElem hk];rfl
   ·rw [List.getElem?_map,List.getElem?_cons_succ,List.getElem?_cons_succ,List.getElem?_eq_getElem hk];rfl
 obtain ⟨A,hA⟩:∃ z,(nw_l0 s::l1::F).map eTx=z:=⟨_,rfl⟩
 obtain ⟨Bb,hBb⟩:∃ z,(nw_l0 s::fmT (nw_P s l1 F).cs (nw_P s l1 F).st::F).map eTx=z:=⟨_,rfl⟩
 rw [hA] at hLt hlt0 hat
 rw [hBb] at hLu hlu0 hat
 obtain ⟨U,hU⟩:∃ z,nw_T s (nw_P s l1 F)=z:=⟨_,rfl⟩
 rw [hU] at hW hLu
 obtain ⟨p,hp⟩:∃ z,nw_P s l1 F=z:=⟨_,rfl⟩
 rw [hp] at hP hW hC
 unfold rdR at hP
 unfold ePce at hW hC
 dsimp only at hP
 clear hEq hPe q1 q2 q3 w1 w2 w3 w4 hspl hl2 hA hBb hU hp he
 refine zqg16 ?_
 refine WL.vl rfl (WV.callG hB rfl (callF Tryz.func11 rfl rfl) rfl rfl hP) ?_
 refine zqg16 ?_
 refine WL.vl rfl (WV.callG hB rfl (callF Tryz.func14 rfl rfl) rfl rfl hW) ?_
 refine zqg16 ?_
 refine WL.vl rfl (zqc Tryz.func15 hC) ?_
 refine zqg16 ?_
 refine WL.vl rfl (zqc Tryz.func16 hLt) ?_
 refine zqg16 ?_
 refine WL.vl rfl (zqc Tryz.func16 hLu) ?_
 refine zqg16 ?_
 refine W.loop (fun k:Nat=>k≤F.length+2) (fun k=>⟨[(9,.ls 1 A),(11,.ls 1 Bb),(13,.sc (.int .i64 (k:Int)))],[],0⟩) (fun k=>F.length+2 - k) 0 zqo (zqt id) fun k hk=>?_
 by_cases hkl:k < F.length+2
 ·obtain ⟨a,b,ha,hb,hab⟩:=hat k hkl
  clear hat
  by_cases k1:k=1
  ·cases hne:(a == b) with
   | true =>
    refine zqg17 ?_
    refine W.drawK zqk zqk ?_
    repeat (first|refine DK.ff rfl (by first|(simp;done)|fail) ?_|refine DK.st rfl ?_|refine DK.nil ?_)
    refine DK.idx rfl rfl zqo ha ?_
    repeat (first|refine DK.ff rfl (by first|(simp;done)|fail) ?_|refine DK.st rfl ?_|refine DK.nil ?_)
    refine DK.idx rfl rfl zqo hb ?_
    repeat (first|refine DK.ff rfl (by first|(simp;done)|fail) ?_|refine DK.st rfl ?_|refine DK.nil ?_)
    rw [hne]
    repeat (first|refine DK.ff rfl (by first|(simp;done)|fail) ?_|refine DK.st rfl ?_|refine DK.nil ?_)
    refine zqg17 ?_
    exact ⟨k+1,by omega,by omega,(zqt id)⟩
   | false =>
    refine zqg17 ?_
    refine W.drawK zqk zqk ?_
    repeat (first|refine DK.ff rfl (by first|(simp;done)|fail) ?_|refine DK.st rfl ?_|refine DK.nil ?_)
    refine DK.idx rfl rfl zqo ha ?_
    repeat (first|refine DK.ff rfl (by first|(simp;done)|fail) ?_|refine DK.st rfl ?_|refine DK.nil ?_)
    refine DK.idx rfl rfl zqo hb ?_
    repeat (first|refine DK.ff rfl (by first|(simp;done)|fail) ?_|refine DK.st rfl ?_|refine DK.nil ?_)
    rw [hne]
    repeat (first|refine DK.ff rfl (by first|(simp;done)|fail) ?_|refine DK.st rfl ?_|refine DK.nil ?_)
    rw [show decide ((k:Int)=1)=true from decide_eq_true (by omega)]
    repeat (first|refine DK.ff rfl (by first|(simp;done)|fail) ?_|refine DK.st rfl ?_|refine DK.nil ?_)
    refine zqg17 ?_
    exact ⟨k+1,by omega,by omega,(zqt id)⟩
  ·obtain rfl:=hab k1
   refine zqg17 ?_
   refine W.drawK zqk zqk ?_
   repeat (first|refine DK.ff rfl (by first|(simp;done)|fail) ?_|refine DK.st rfl ?_|refine DK.nil ?_)
   refine DK.idx rfl rfl zqo ha ?_
   repeat (first|refine DK.ff rfl (by first|(simp;done)|fail) ?_|refine DK.st rfl ?_|refine DK.nil ?_)
   refine DK.idx rfl rfl zqo hb ?_
   repeat (first|refine DK.ff rfl (by first|(simp;done)|fail) ?_|refine DK.st rfl ?_|refine DK.nil ?_)
   refine zqg17 ?_
   exact ⟨k+1,by omega,by omega,(zqt id)⟩
 ·obtain rfl:k=F.length+2:=by omega
  clear hat
  refine zqg17 ?_
  refine WL.vl rfl (zqc Tryz.func10 works_FS) ?_
  refine zqg17 ?_
  exact W.ret zqr
end
end Go.Proofs.YthehkchjdkdbiaaGreatDoor
