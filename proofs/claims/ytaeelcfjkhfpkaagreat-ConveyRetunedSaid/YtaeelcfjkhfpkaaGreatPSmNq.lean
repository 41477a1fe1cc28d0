/- piece.Same of the program: a piece is the same as itself. -/
import Derived.Test.YtaeelcfjkhfpkaaGreatLngNq
import Derived.Test.YtaeelcfjkhfpkaaGreatPnNq
set_option maxHeartbeats 8000000
set_option maxRecDepth 100000
set_option linter.unusedVariables false
set_option linter.unusedSimpArgs false
namespace Go.Proofs.YtaeelcfjkhfpkaaGreat
section
open Go.RowKit
theorem z30i {z:Int} (h:I64 z:=by unfold I64;omega):I64 z:=h
def gmE(g:Stp→Stp)(e:Ev):Ev:={ e with stops:=e.stops.map g }
end
section
open Go.RowKit
theorem ls_nil {C:Cg} {H:Nat→Stp→Int} {evs:List Ev}:∀ n,n≤evs.length→lsL C H evs n=[]→∀ k (hk:k<evs.length),k<n→lsE C H k evs[k]=[]
 | 0,_,_,k,hk,h=>absurd h (Nat.not_lt_zero _)
 | n+1,hn,h,k,hk,hkn=>by
  rw [lsL_at (show n<evs.length by omega),List.append_eq_nil_iff] at h
  by_cases e:k=n
  ·subst e;exact h.2
  ·exact ls_nil n zqo h.1 k hk zqo
theorem lsE_nil {C:Cg} {H:Nat→Stp→Int} {i:Nat} {e:Ev} (h:lsE C H i e=[]):∀ x∈e.stops,∃ y,C.mv x=some y∧H i y=x.2.2.2.2:=by
 intro x hx
 unfold lsE at h
 rw [List.append_eq_nil_iff,List.flatMap_eq_nil_iff]at h
 have hq:=h.2 x hx
 unfold lsS at hq
 cases hm:C.mv x with
 | none=>rw [hm]at hq;cases hq
 | some y =>
  rw [hm]at hq
  dsimp only at hq
  rw [List.append_eq_nil_iff]at hq
  refine⟨y,rfl,?_⟩
  by_cases hh:H i y=x.2.2.2.2
  ·exact hh
  ·rw [if_neg hh]at hq;cases hq.2
theorem nwS_map {C:Cg} {g:Stp→Stp}:∀ {l:List Stp},(∀ x∈l,C.mv x=some (g x))→nwS C l=l.map g
 | [],_=>rfl
 | x::r,h=>by
  have ih:=nwS_map (C:=C) (g:=g) (l:=r) fun y hy=>h y (by simp [hy])
  unfold nwS at ih ⊢
  rw [List.filterMap_cons,h x (by simp),ih,List.map_cons]
theorem nwT_all {C:Cg} (ht:∀ i e,C.tie i e=e.tie) {i:Nat} {e:Ev} (h:(nwS C e.stops).length=e.stops.length):nwT C i e=e.tie:=by
 unfold nwT
 by_cases h0:e.stops.length=0
 ·rw [if_pos h0];exact ht i e
 ·rw [if_neg h0,if_neg (by omega)]
theorem fn_whole {C:Cg} (ht:∀ i e,C.tie i e=e.tie) {H:Nat→Stp→Int} {i:Nat} {e:Ev} {g:Stp→Stp} (hm:∀ x∈e.stops,C.mv x=some (g x)) (hh:∀ x∈e.stops,H i (g x)=(g x).2.2.2.2):fnE H i (nwE C i e)=gmE g e:=by
 have hn:=nwS_map hm
 have hl:(nwS C e.stops).length=e.stops.length:=by rw [hn,List.length_map]
 unfold fnE nwE gmE
 rw [nwT_all ht hl,hn]
 have:(e.stops.map g).map (fun y=>stH y (H i y))=e.stops.map g:=by
  rw [List.map_map]
  refine List.map_congr_left fun x hx=>?_
  show stH (g x) (H i (g x))=g x
  rw [hh x hx];rfl
 rw [this]
theorem fn_all {C:Cg} (ht:∀ i e,C.tie i e=e.tie) {H:Nat→Stp→Int} {evs:List Ev} {g:Stp→Stp} (hm:∀ k (hk:k<evs.length),∀ x∈evs[k].stops,C.mv x=some (g x)∧H k (g x)=(g x).2.2.2.2):fnL H (nwL C evs)=evs.map (gmE g):=by
 apply List.ext_getElem (by rw [fnL_len,nwL_len,List.length_map])
 intro k h1 h2
 have hk:k<evs.length:=by rw [List.length_map] at h2;exact h2
 rw [fnL_get (by rw [nwL_len];exact hk),nwL_get hk,List.getElem_map]
 exact fn_whole ht (fun x hx=>(hm k hk x hx).1) fun x hx=>(hm k hk x hx).2
theorem cg_ok {C:Cg} {p:Pce} {cs:List (Int×Int×Bool)} (h0:pceE p=0)(hmv:∀ x y,C.mv x=some y→y.1=x.1∧y.2.2=x.2.2)(hl:cs.length=p.cs.length)(ht:∀ i e,C.tie i e=e.tie)(hb:∀ i,C.bare i=decide (0<i))
  (hfr:∀ k (hk:k<p.evs.length),∀ x∈p.evs[k].stops,∀ y,C.mv x=some y→0≤y.2.1∧y.2.1≤fretsOf cs y.1):CgOk C p cs:=by
 refine⟨fun x y h=>⟨(hmv x y h).1,by rw [(hmv x y h).2]⟩,hl,fun k hk x hx y hy=>?_,fun k hk htk=>?_⟩
 ·obtain⟨e1,e2⟩:=hmv x y hy
  refine⟨hfr k hk x hx y hy,?_⟩
  obtain⟨j,hj,rfl⟩:=List.getElem_of_mem hx
  obtain⟨_,_,b3,b4,_⟩:=stopsIn_of h0 k hk j hj
  rw [e2]
  exact⟨b3,b4⟩
 ·have hE:=evOk_of h0 hk
  unfold nwT at htk
  by_cases h1:p.evs[k].stops.length=0
  ·rw [if_pos h1,ht] at htk
   exact⟨(hE.tie htk).2,by rw [List.eq_nil_of_length_eq_zero h1];rfl⟩
  ·rw [if_neg h1] at htk
   by_cases h2:(nwS C p.evs[k].stops).length=0
   ·rw [if_pos h2,hb] at htk
    exact⟨of_decide_eq_true htk,List.eq_nil_of_length_eq_zero h2⟩
   ·rw [if_neg h2] at htk
    exact absurd (by rw [(hE.tie htk).1];rfl) h1
theorem stepsBad_asc:∀ {st:List Int} {last:Int},stepsBad last st=false→st.Pairwise (fun x y=>x<y)∧∀ x∈st,last<x∧x≤127
 | [],_,_=>⟨.nil,fun x hx=>by cases hx⟩
 | x::r,last,h=>by
  unfold stepsBad at h
  rw [Bool.or_eq_false_iff] at h
  have hx:=of_decide_eq_false h.1
  obtain⟨a,b⟩:=stepsBad_asc h.2
  refine⟨.cons (fun y hy=>(b y hy).1) a,fun y hy=>?_⟩
  rcases List.mem_cons.1 hy with rfl|hy
  ·omega
  ·have:=b y hy;omega
theorem stAt {st:List Int} {f:Int} (h1:1≤f)(h2:f≤st.length):∃ h:(f-1).toNat<st.length,st.getD (f-1).toNat 0=st[(f-1).toNat]∧st.getD (f.toNat-1) 0=st[(f-1).toNat]:=by
 have hk:(f-1).toNat<st.length:=by omega
 refine⟨hk,?_,?_⟩
 ·rw [List.getD_eq_getElem?_getD,List.getElem?_eq_getElem hk];rfl
 ·rw [show f.toNat-1=(f-1).toNat by omega,List.getD_eq_getElem?_getD,List.getElem?_eq_getElem hk];rfl
end
section
open Go.RowKit
theorem eqs_stp (a b c d e a' b' c' d' e':Int) (w:World):(Op.equalIn 10000 48 (.agg #[.int .i64 a,.int .i64 b,.int .i64 c,.int .i64 d,.int .i64 e]) (.agg #[.int .i64 a',.int .i64 b',.int .i64 c',.int .i64 d',.int .i64 e'])).run Tryz.prog w=.ok (decide ((a,b,c,d,e)=(a',b',c',d',e'))) w:=by
 rw [run_equalIn_agg w 9999 _ _ _ zqk zqk]
 refine Eq.trans (congrArg (fun fs=>Sem.run _ (Op.eqFields 9999 _ _ fs) w) (rfl:(Tryz.prog.fieldsOf 48).toList=[_,_,_,_,_])) ?_
 by_cases h1:a=a'
 ·subst h1
  by_cases h2:b=b'
  ·subst h2
   by_cases h3:c=c'
   ·subst h3
    by_cases h4:d=d'
    ·subst h4
     by_cases h5:e=e'
     ·subst h5;simp [go_sem]
     ·simp [go_sem,h5]
    ·simp [go_sem,h4]
   ·simp [go_sem,h3]
  ·simp [go_sem,h2]
 ·simp [go_sem,h1]
theorem ext_len' {α:Type} {l m:List α} (h1:l.length=m.length)(h2:∀ k(h:k<l.length),l[k]=m[k]'(by omega)):l=m:=List.ext_getElem h1 fun i a b=>h2 i a
theorem ne_at' {α:Type} {l m:List α} {k:Nat} (h1:k<l.length)(h2:k<m.length)(h:¬ l[k]=m[k]):¬ l=m:=fun e=>by subst e;exact h rfl
theorem eqStp_FS (l m:List Stp) (h1:l.length≤1000) (h2:m.length≤1000):Ctr Tryz.prog 91 [.ls 5 (l.map eStp),.ls 5 (m.map eStp)] (.sc (.bool (decide (l=m)))):=by
 by_cases hl:l.length=m.length
 rotate_left
 ·have e:decide (l=m)=false:=decide_eq_false fun h=>hl (by rw [h])
  rw [e]
  refine zqe Tryz.func91 Tryz.ntmps91 fun w0 F0=>?_;dsimp only [St.init,number,Nat.reduceAdd]
  repeat (first|refine W.gob rfl ?_|refine WL.nil ?_|refine WL.bt rfl rfl rfl zqo ?_|refine WL.bf rfl rfl rfl zqo ?_|refine WL.nt rfl rfl rfl zqo ?_|refine WL.nf rfl rfl rfl zqo ?_|refine WL.e1 rfl ?_|refine WL.ar rfl rfl z30i ?_|refine WL.len rfl rfl zql ?_|refine W.condT rfl ?_|refine W.condF rfl ?_)
  (first|refine (?_:W _ _ _ _ _)|refine (?_:WL _ _ _ _ _ _)|skip)
  try dsimp only [St.put,Nat.reduceAdd]
  exact W.ret zqr
 refine zqe Tryz.func91 Tryz.ntmps91 fun w0 F0=>?_;dsimp only [St.init,number,Nat.reduceAdd]
 repeat (first|refine W.gob rfl ?_|refine WL.nil ?_|refine WL.bt rfl rfl rfl zqo ?_|refine WL.bf rfl rfl rfl zqo ?_|refine WL.nt rfl rfl rfl zqo ?_|refine WL.nf rfl rfl rfl zqo ?_|refine WL.e1 rfl ?_|refine WL.ar rfl rfl z30i ?_|refine WL.len rfl rfl zql ?_|refine W.condT rfl ?_|refine W.condF rfl ?_)
 (first|refine (?_:W _ _ _ _ _)|refine (?_:WL _ _ _ _ _ _)|skip)
 try dsimp only [St.put,Nat.reduceAdd]
 refine W.loop (fun k:Nat=>k≤l.length∧∀ i (hi:i < k) (h:i < l.length),l[i]=m[i]' zqo) (fun k=>⟨[(0,.ls 5 (l.map eStp)),(1,.ls 5 (m.map eStp)),(12,.sc (.int .i64 l.length)),(13,.sc (.int .i64 k))],[],0⟩) (fun k=>l.length - k) 0 ⟨by omega,fun i hi=>by omega⟩ (zqt id) fun k hk=>?_
 obtain ⟨hk,hgood⟩:=hk
 by_cases hlt:k < l.length
 ·have hlt2:k < m.length:=by omega
  by_cases he:l[k]=m[k]
  ·repeat (first|refine W.gob rfl ?_|refine WL.nil ?_|refine WL.bt rfl rfl rfl zqo ?_|refine WL.bf rfl rfl rfl zqo ?_|refine WL.nt rfl rfl rfl zqo ?_|refine WL.nf rfl rfl rfl zqo ?_|refine WL.e1 rfl ?_|refine WL.ar rfl rfl z30i ?_|refine WL.len rfl rfl zql ?_|refine W.condT rfl ?_|refine W.condF rfl ?_)
   (first|refine (?_:W _ _ _ _ _)|refine (?_:WL _ _ _ _ _ _)|skip)
   try dsimp only [St.put,Nat.reduceAdd]
   refine W.drawK zqk zqk ?_
   repeat (first|refine DK.st rfl ?_|refine DK.idx rfl rfl zqo zqm ?_|refine DK.nil ?_)
   refine DK.vl rfl (WV.ane rfl rfl rfl rfl rfl zqk (fun w=>eqs_stp _ _ _ _ _ _ _ _ _ _ w)) ?_
   repeat (first|refine DK.st rfl ?_|refine DK.idx rfl rfl zqo zqm ?_|refine DK.nil ?_)
   have hd:decide ((l[k].1,l[k].2.1,l[k].2.2.1,l[k].2.2.2.1,l[k].2.2.2.2)=(m[k].1,m[k].2.1,m[k].2.2.1,m[k].2.2.2.1,m[k].2.2.2.2))=true:=decide_eq_true he
   rw [hd]
   repeat (first|refine W.go rfl ?_|refine WL.nil ?_|refine WL.ev rfl ?_|refine WL.ar rfl rfl z30i ?_|refine WL.len rfl rfl zql ?_|refine W.condT rfl ?_|refine W.condF rfl ?_)
   (first|refine (?_:W _ _ _ _ _)|refine (?_:WL _ _ _ _ _ _)|skip)
   try dsimp only [St.put,Nat.reduceAdd]
   exact ⟨k+1,⟨by omega,fun i hi h=>by
    by_cases e:i=k
    ·subst e;exact he
    ·exact hgood i zqo h⟩,by omega,(zqt id)⟩
  ·have e:decide (l=m)=false:=decide_eq_false (ne_at' hlt hlt2 he)
   rw [e]
   repeat (first|refine W.gob rfl ?_|refine WL.nil ?_|refine WL.bt rfl rfl rfl zqo ?_|refine WL.bf rfl rfl rfl zqo ?_|refine WL.nt rfl rfl rfl zqo ?_|refine WL.nf rfl rfl rfl zqo ?_|refine WL.e1 rfl ?_|refine WL.ar rfl rfl z30i ?_|refine WL.len rfl rfl zql ?_|refine W.condT rfl ?_|refine W.condF rfl ?_)
   (first|refine (?_:W _ _ _ _ _)|refine (?_:WL _ _ _ _ _ _)|skip)
   try dsimp only [St.put,Nat.reduceAdd]
   refine W.drawK zqk zqk ?_
   repeat (first|refine DK.st rfl ?_|refine DK.idx rfl rfl zqo zqm ?_|refine DK.nil ?_)
   refine DK.vl rfl (WV.ane rfl rfl rfl rfl rfl zqk (fun w=>eqs_stp _ _ _ _ _ _ _ _ _ _ w)) ?_
   repeat (first|refine DK.st rfl ?_|refine DK.idx rfl rfl zqo zqm ?_|refine DK.nil ?_)
   have hd:decide ((l[k].1,l[k].2.1,l[k].2.2.1,l[k].2.2.2.1,l[k].2.2.2.2)=(m[k].1,m[k].2.1,m[k].2.2.1,m[k].2.2.2.1,m[k].2.2.2.2))=false:=decide_eq_false he
   rw [hd]
   repeat (first|refine W.go rfl ?_|refine WL.nil ?_|refine WL.ev rfl ?_|refine WL.ar rfl rfl z30i ?_|refine WL.len rfl rfl zql ?_|refine W.condT rfl ?_|refine W.condF rfl ?_)
   (first|refine (?_:W _ _ _ _ _)|refine (?_:WL _ _ _ _ _ _)|skip)
   try dsimp only [St.put,Nat.reduceAdd]
   exact W.ret zqr
 have hlm:l=m:=ext_len' hl fun q hq=>hgood q zqo hq
 have e:decide (l=m)=true:=decide_eq_true hlm
 rw [e]
 repeat (first|refine W.gob rfl ?_|refine WL.nil ?_|refine WL.bt rfl rfl rfl zqo ?_|refine WL.bf rfl rfl rfl zqo ?_|refine WL.nt rfl rfl rfl zqo ?_|refine WL.nf rfl rfl rfl zqo ?_|refine WL.e1 rfl ?_|refine WL.ar rfl rfl z30i ?_|refine WL.len rfl rfl zql ?_|refine W.condT rfl ?_|refine W.condF rfl ?_)
 (first|refine (?_:W _ _ _ _ _)|refine (?_:WL _ _ _ _ _ _)|skip)
 try dsimp only [St.put,Nat.reduceAdd]
 exact W.ret zqr
end
section
open Go.RowKit
theorem sm1_FS (e:Ev) (h:e.stops.length≤20):Ctr Tryz.prog 90 [.ag (eEv e),.ag (eEv e)] (.sc (.bool true)):=by
 have hS:=eqStp_FS e.stops e.stops zqo zqo
 have hd:decide (e.stops=e.stops)=true:=decide_eq_true rfl
 rw [hd] at hS
 refine zqe Tryz.func90 Tryz.ntmps90 fun w0 F0=>?_;dsimp only [St.init,number,Nat.reduceAdd]
 repeat (first|refine W.go rfl ?_|refine WL.ev rfl ?_|refine WL.gyes rfl rfl rfl rfl ?_)
 (first|refine (?_:W _ _ _ _ _)|refine (?_:WL _ _ _ _ _ _)|skip)
 try dsimp only [St.put,Nat.reduceAdd]
 refine WL.partG rfl rfl rfl rfl (fun hp=>?_) (fun hp=>absurd hp (by simp))
 repeat (first|refine W.go rfl ?_|refine WL.ev rfl ?_|refine WL.gyes rfl rfl rfl rfl ?_)
 (first|refine (?_:W _ _ _ _ _)|refine (?_:WL _ _ _ _ _ _)|skip)
 try dsimp only [St.put,Nat.reduceAdd]
 refine WL.vl rfl (WV.aeq rfl rfl rfl rfl rfl zqk (fun w=>eqs_sign _ _ _ _ _ _ w)) ?_
 repeat (first|refine W.go rfl ?_|refine WL.ev rfl ?_|refine WL.gyes rfl rfl rfl rfl ?_)
 (first|refine (?_:W _ _ _ _ _)|refine (?_:WL _ _ _ _ _ _)|skip)
 try dsimp only [St.put,Nat.reduceAdd]
 refine WL.partG rfl rfl rfl rfl (fun hp=>?_) (fun hp=>absurd hp (by simp))
 repeat (first|refine W.go rfl ?_|refine WL.ev rfl ?_|refine WL.gyes rfl rfl rfl rfl ?_)
 (first|refine (?_:W _ _ _ _ _)|refine (?_:WL _ _ _ _ _ _)|skip)
 try dsimp only [St.put,Nat.reduceAdd]
 refine WL.partG rfl rfl rfl rfl (fun hp=>?_) (fun hp=>absurd hp (by simp))
 repeat (first|refine W.go rfl ?_|refine WL.ev rfl ?_|refine WL.gyes rfl rfl rfl rfl ?_)
 (first|refine (?_:W _ _ _ _ _)|refine (?_:WL _ _ _ _ _ _)|skip)
 try dsimp only [St.put,Nat.reduceAdd]
 refine WL.vl rfl (zqc Tryz.func91 hS) ?_
 repeat (first|refine W.go rfl ?_|refine WL.ev rfl ?_|refine WL.gyes rfl rfl rfl rfl ?_)
 (first|refine (?_:W _ _ _ _ _)|refine (?_:WL _ _ _ _ _ _)|skip)
 try dsimp only [St.put,Nat.reduceAdd]
 exact W.ret zqr
theorem eqF_FS (l:List Ev) (hl:l.length≤1000) (h20:∀ e∈l,e.stops.length≤20):Ctr Tryz.prog 89 [.ls 6 (l.map eEv),.ls 6 (l.map eEv),.sc (.func (.func 90) #[] #[])] (.sc (.bool true)):=by
 refine zqe Tryz.func89 Tryz.ntmps89 fun w0 F0=>?_;dsimp only [St.init,number,Nat.reduceAdd]
 repeat (first|refine W.gob rfl ?_|refine WL.nil ?_|refine WL.bt rfl rfl rfl zqo ?_|refine WL.bf rfl rfl rfl zqo ?_|refine WL.nf rfl rfl rfl zqo ?_|refine WL.e1 rfl ?_|refine WL.ar rfl rfl z30i ?_|refine WL.len rfl rfl zql ?_|refine WL.idx rfl rfl zqo zqm ?_|refine W.condT rfl ?_|refine W.condF rfl ?_)
 (first|refine (?_:W _ _ _ _ _)|refine (?_:WL _ _ _ _ _ _)|skip)
 try dsimp only [St.put,Nat.reduceAdd]
 refine W.loop (fun k:Nat=>k≤l.length) (fun k=>⟨[(1,.ls 6 (l.map eEv)),(2,.sc (.func (.func 90) #[] #[])),(15,.ls 6 (l.map eEv)),(16,.sc (.int .i64 l.length)),(17,.sc (.int .i64 k))],[],0⟩) (fun k=>l.length - k) 0 zqo (zqt id) fun k hk=>?_
 by_cases hlt:k < l.length
 ·have h1:=sm1_FS l[k] (h20 _ (List.getElem_mem hlt))
  repeat (first|refine W.gob rfl ?_|refine WL.nil ?_|refine WL.bt rfl rfl rfl zqo ?_|refine WL.bf rfl rfl rfl zqo ?_|refine WL.nf rfl rfl rfl zqo ?_|refine WL.e1 rfl ?_|refine WL.ar rfl rfl z30i ?_|refine WL.len rfl rfl zql ?_|refine WL.idx rfl rfl zqo zqm ?_|refine W.condT rfl ?_|refine W.condF rfl ?_)
  (first|refine (?_:W _ _ _ _ _)|refine (?_:WL _ _ _ _ _ _)|skip)
  try dsimp only [St.put,Nat.reduceAdd]
  refine WL.vl rfl (WV.callV (truH _) rfl (callF Tryz.func90 rfl rfl) rfl rfl rfl rfl rfl h1.g) ?_
  repeat (first|refine W.go rfl ?_|refine WL.nil ?_|refine WL.ev rfl ?_|refine WL.ar rfl rfl z30i ?_|refine WL.len rfl rfl zql ?_|refine WL.idx rfl rfl zqo zqm ?_|refine W.condT rfl ?_|refine W.condF rfl ?_)
  (first|refine (?_:W _ _ _ _ _)|refine (?_:WL _ _ _ _ _ _)|skip)
  try dsimp only [St.put,Nat.reduceAdd]
  exact ⟨k+1,by omega,by omega,(zqt id)⟩
 ·obtain rfl:k=l.length:=by omega
  repeat (first|refine W.gob rfl ?_|refine WL.nil ?_|refine WL.bt rfl rfl rfl zqo ?_|refine WL.bf rfl rfl rfl zqo ?_|refine WL.nf rfl rfl rfl zqo ?_|refine WL.e1 rfl ?_|refine WL.ar rfl rfl z30i ?_|refine WL.len rfl rfl zql ?_|refine WL.idx rfl rfl zqo zqm ?_|refine W.condT rfl ?_|refine W.condF rfl ?_)
  (first|refine (?_:W _ _ _ _ _)|refine (?_:WL _ _ _ _ _ _)|skip)
  try dsimp only [St.put,Nat.reduceAdd]
  exact W.ret zqr
theorem pSame_FS (p:Pce) (hO:PcOk p):Ctr Tryz.prog 42 [ePce p,ePce p] (.sc (.bool true)):=by
 have hI:=pSameI_FS p.cs p.st p.cs p.st hO.n1 hO.n2 hO.n1 hO.n2
 have hd:sameI p.cs p.st p.cs p.st=true:=decide_eq_true ⟨rfl,rfl⟩
 rw [hd] at hI
 have hn:=hO.n3
 have hE:=eqF_FS p.evs zqo (fun e he=>by
  obtain ⟨k,hk,rfl⟩:=List.getElem_of_mem he
  exact hO.n4 k hk)
 refine zqe Tryz.func42 Tryz.ntmps42 fun w0 F0=>?_;dsimp only [St.init,number,Nat.reduceAdd]
 repeat (first|refine W.go rfl ?_|refine WL.ev rfl ?_|refine WL.gyes rfl rfl rfl rfl ?_)
 (first|refine (?_:W _ _ _ _ _)|refine (?_:WL _ _ _ _ _ _)|skip)
 try dsimp only [St.put,Nat.reduceAdd]
 refine WL.vl rfl (zqc Tryz.func81 hI) ?_
 repeat (first|refine W.go rfl ?_|refine WL.ev rfl ?_|refine WL.gyes rfl rfl rfl rfl ?_)
 (first|refine (?_:W _ _ _ _ _)|refine (?_:WL _ _ _ _ _ _)|skip)
 try dsimp only [St.put,Nat.reduceAdd]
 refine WL.vl rfl (zqc Tryz.func89 hE) ?_
 repeat (first|refine W.go rfl ?_|refine WL.ev rfl ?_|refine WL.gyes rfl rfl rfl rfl ?_)
 (first|refine (?_:W _ _ _ _ _)|refine (?_:WL _ _ _ _ _ _)|skip)
 try dsimp only [St.put,Nat.reduceAdd]
 exact W.ret zqr
end
end Go.Proofs.YtaeelcfjkhfpkaaGreat
