/- An instrument behind a capo, and a piece there: plain. -/
import Derived.Test.YtockempedekkkaaGreatDoorFZJq
set_option maxHeartbeats 8000000
set_option maxRecDepth 100000
set_option linter.unusedVariables false
set_option linter.unusedSimpArgs false
namespace Go.Proofs.YtockempedekkkaaGreatDoor
section
open Go.RowKit
theorem z41i {z:Int} (h:I64 z:=by unfold I64;omega):I64 z:=h
def eEvO (e:Ev):List AV:=[.sc (.bool e.bar),.sc (.int .i64 e.val),.sc (.bool e.dot),.sc (.bool e.three),.sc (.bool e.tie),.ow 41 5 (e.stops.map eStp)]
theorem fz0(av:AV):av.fz 0=av:=by cases av<;>rfl
theorem fz0_rows (l:List (List AV)):(l.map fun r=>r.map (AV.fz 0))=l:=by
 refine (List.map_congr_left fun r _=>?_).trans (List.map_id _)
 exact (List.map_congr_left fun x _=>fz0 x).trans (List.map_id _)
theorem eEvO_fz (e:Ev):(eEvO e).map (AV.fz 1)=eEv e:=by
 show [_,_,_,_,_,AV.ls 5 ((e.stops.map eStp).map fun r=>r.map (AV.fz 0))]=_
 rw [fz0_rows];rfl
theorem eEvO_rows (l:List Ev):((l.map eEvO).map fun r=>r.map (AV.fz 1))=l.map eEv:=by
 rw [List.map_map]
 exact List.map_congr_left fun e _=>eEvO_fz e
theorem eStp_own(l:List Stp):∀ q∈l.map eStp,∀ av∈q,av.own=false:=fun q hq av hav=>by
 obtain⟨s,_,rfl⟩:=List.mem_map.1 hq
 simp only [eStp,List.mem_cons,List.not_mem_nil,or_false]at hav
 rcases hav with rfl|rfl|rfl|rfl|rfl<;>rfl
theorem own_shal {d:Nat} {av:AV} (h:av.own=false):av.shal d=true:=by
 cases d<;>cases av<;>first|rfl|cases h
theorem eEvO_shal (l:List Ev):∀ r∈l.map eEvO,∀ av∈r,av.shal 1=true:=fun r hr av hav=>by
 obtain⟨e,_,rfl⟩:=List.mem_map.1 hr
 simp only [eEvO,List.mem_cons,List.not_mem_nil,or_false]at hav
 rcases hav with rfl|rfl|rfl|rfl|rfl|rfl
 ·rfl
 ·rfl
 ·rfl
 ·rfl
 ·rfl
 ·show ((e.stops.map eStp).all fun r=>r.all (AV.shal 0))=true
  rw [List.all_eq_true]
  intro q hq
  rw [List.all_eq_true]
  exact fun x hx=>own_shal (eStp_own _ q hq x hx)
end
section
open Go.RowKit
theorem asc_ge {l:List Stp} (ha:l.Pairwise fun x y=>x.1<y.1) (h1:∀ x∈l,1≤x.1):∀ k (h:k<l.length),(k:Int)+1≤l[k].1
 | 0,h=>by have:=h1 _ (List.getElem_mem h);omega
 | k+1,h=>by
  have:=asc_ge ha h1 k zqo
  have h2:=List.pairwise_iff_getElem.1 ha k (k+1) (by omega) h (by omega)
  omega
theorem asc14 {l:List Stp} (ha:l.Pairwise fun x y=>x.1<y.1) (hb:∀ x∈l,1≤x.1∧x.1≤14):l.length≤14:=by
 rcases Nat.eq_zero_or_pos l.length with h|h
 ·omega
 ·have h1:=asc_ge ha (fun x hx=>(hb x hx).1) (l.length-1) zqo
  have h2:=(hb _ (List.getElem_mem (show l.length-1<l.length by omega))).2
  omega
def evK(evs:List Ev) (n:Nat) (K:List Stp):List Ev:=evs.set n { (evs.getD n ⟨false,0,false,false,false,[]⟩)with stops:=K }
theorem evK_at {evs:List Ev} {n:Nat} (h:n<evs.length)(K:List Stp):evK evs n K=evs.set n { evs[n]with stops:=K }:=by
 unfold evK
 rw [List.getD_eq_getElem?_getD,List.getElem?_eq_getElem h];rfl
theorem evK_len(evs:List Ev)(n:Nat)(K:List Stp):(evK evs n K).length=evs.length:=by unfold evK;rw [List.length_set]
theorem evK_crs {evs:List Ev} {n:Nat} (h:n<evs.length) {K:List Stp} (hK:K.map (fun x=>x.1)=evs[n].stops.map fun x=>x.1):(evK evs n K).map crsE'=evs.map crsE':=by
 rw [evK_at h,List.map_set]
 have e:crsE' { evs[n]with stops:=K }=crsE' evs[n]:=by
  have hl:K.length=evs[n].stops.length:=by have:=congrArg List.length hK;simpa using this
  unfold crsE' restB
  show (_,_)=(_,_)
  rw [hK,hl]
 rw [e]
 apply List.ext_getElem (by rw [List.length_set])
 intro i h1 h2
 rw [List.getElem_set]
 split
 ·rename_i hi;subst hi;rw [List.getElem_map]
 ·rfl
theorem evK_20 {evs:List Ev} {n:Nat} (h:n<evs.length) {K:List Stp} (hK:K.length≤20)(h20:∀ e∈evs,e.stops.length≤20):∀ e∈evK evs n K,e.stops.length≤20:=by
 intro e he
 rw [evK_at h]at he
 rcases List.mem_or_eq_of_mem_set he with he|rfl
 ·exact h20 e he
 ·exact hK
theorem evK_rowsO {evs:List Ev} {n:Nat} (h:n<evs.length)(K:List Stp):(evs.map eEvO).set n ((eEvO evs[n]).set 5 (.ow 41 5 (K.map eStp)))=(evK evs n K).map eEvO:=by
 rw [evK_at h,List.map_set];rfl
theorem evK_rows {evs:List Ev} {n:Nat} (h:n<evs.length)(K:List Stp):(evs.map eEv).set n ((eEv evs[n]).set 5 (.ls 5 (K.map eStp)))=(evK evs n K).map eEv:=by
 rw [evK_at h,List.map_set];rfl
theorem evK_lent {evs:List Ev} {n:Nat} (h:n<evs.length)(K:List Stp):((evs.map eEvO).map fun r=>r.map (AV.fz 1)).set n (((eEvO evs[n]).map (AV.fz 1)).set 5 (.ls 5 (K.map eStp)))=(evK evs n K).map eEv:=by
 rw [eEvO_rows,eEvO_fz];exact evK_rows h K
theorem evO_at {evs:List Ev} {n:Nat} (h:n<evs.length):(evs.map eEvO)[n]?=some (eEvO evs[n]):=by rw [List.getElem?_map,List.getElem?_eq_getElem h];rfl
theorem stpK_row {K:List Stp} {j:Nat} {x:Stp} (h:K[j]?=some x):(K.map eStp)[j]?=some (eStp x):=by rw [List.getElem?_map,h];rfl
theorem stpK_put {K:List Stp} {j:Nat} (x:Stp)(h:Int):(K.map eStp).set j (putL 4 [.sc (.int .i64 h)] (eStp x))=(K.set j (stH x h)).map eStp:=by rw [List.map_set];rfl
theorem set_crs {K:List Stp} {j:Nat} {x:Stp} (h:K[j]?=some x)(z:Int):(K.set j (stH x z)).map (fun x=>x.1)=K.map fun x=>x.1:=by
 rw [List.map_set]
 have hj:j<K.length:=(List.getElem?_eq_some_iff.1 h).1
 have e:(stH x z).1=(K.map fun x=>x.1)[j]'(by rw [List.length_map];exact hj):=by
  rw [List.getElem_map]
  rw [List.getElem?_eq_getElem hj]at h
  rw [Option.some.inj h];rfl
 rw [e,List.set_getElem_self]
theorem fnK_crs (H:Nat→Stp→Int)(n j:Nat)(l:List Stp):(fnK H n j l).map (fun x=>x.1)=l.map fun x=>x.1:=by
 unfold fnK
 rw [List.map_append,List.map_map,show ((fun x:Stp=>x.1) ∘ fun y=>stH y (H n y))=fun x:Stp=>x.1 from rfl,← List.map_append,List.take_append_drop]
theorem fnN_0at {H:Nat→Stp→Int} {evs:List Ev} {n:Nat} (h:n<evs.length):(fnN H evs n 0)[n]'(by rw [fnN_len];exact h)=evs[n]:=by
 simp only [fnN,List.getElem_mapIdx]
 simp
theorem evK_done {H:Nat→Stp→Int} {evs:List Ev} {n:Nat} (h:n<evs.length):evK (fnN H evs n 0) n (fnK H n evs[n].stops.length evs[n].stops)=fnN H evs (n+1) 0:=by
 rw [evK_at (by rw [fnN_len];exact h)]
 apply List.ext_getElem (by rw [List.length_set,fnN_len,fnN_len])
 intro i h1 h2
 have hi:i<evs.length:=by rw [fnN_len] at h2;exact h2
 rw [List.getElem_set]
 simp only [fnN,List.getElem_mapIdx]
 by_cases e:n=i
 ·subst e
  simp [fnE,fnK]
 ·rw [if_neg e]
  by_cases e2:i<n
  ·rw [if_pos e2,if_pos (by omega)]
  ·rw [if_neg e2,if_neg (fun h=>e h.symm),if_neg (by omega)]
   by_cases e3:i=n+1
   ·subst e3;simp
   ·rw [if_neg e3]
theorem fnN_20 {H:Nat→Stp→Int} {evs:List Ev} (h20:∀ e∈evs,e.stops.length≤20)(n k:Nat):∀ e∈fnN H evs n k,e.stops.length≤20:=by
 intro e he
 obtain⟨i,hi,rfl⟩:=List.getElem_of_mem he
 have hi':i<evs.length:=by rw [fnN_len]at hi;exact hi
 rw [fnN_stops hi']
 exact h20 _ (List.getElem_mem hi')
end
section
open Go.RowKit
section
variable {P:Program} {C:Cx} {σ:St}
def ldaV (P:Program)(σ:St):Op→Option (TypeId×List (List AV)×Nat×Nat)
 | .load T x =>
  match σ.ev x with
  | some (.pt k i j) =>
   match look k σ.M with
   | some (.row _ _ rows)=>some (T,rows,i,j)
   | some (.rwn _ _ rows)=>some (T,rows,i,j)
   | _=>none
  | _=>none
 | _=>none
theorem ldaV_of {o:Oper} {T:TypeId} {rows:List (List AV)} {i j:Nat} {r:List AV} {av:AV} (h:ldaV P σ o.op=some (T,rows,i,j))(hi:rows[i]?=some r)(ht:takeO P T (r.drop j)=some av):WV P C o σ av:=by
 unfold ldaV at h
 split at h
 ·rename_i T' x ho
  split at h
  ·rename_i k i' j' hx
   split at h
   ·rename_i T2 n rows' hk
    cases h
    have hf:(AO.row T2 n rows).from_ i j=some (r.drop j):=by simp [AO.from_,hi]
    exact loadV_of ho hx (by simp only [loadV,hk,hf];exact ht)
   ·rename_i T2 n rows' hk
    cases h
    have hf:(AO.rwn T2 n rows).from_ i j=some (r.drop j):=by simp [AO.from_,hi]
    exact loadV_of ho hx (by simp only [loadV,hk,hf];exact ht)
   ·cases h
  ·cases h
 ·cases h
variable {ops:Array Oper} {o:Oper} {rest:List Oper} {d:Tmp} {Q:Exit→St→Prop}
theorem DK.lda {T:TypeId} {rows:List (List AV)} {i j:Nat} {r:List AV} {av:AV} (hd:dstD C.N ops σ o=some d)(h:ldaV P (σ.only (o.looksAt ops)) o.op=some (T,rows,i,j))(hi:rows[i]?=some r)(ht:takeO P T (r.drop j)=some av)(k:DK P C ops rest (σ.put d av) Q):DK P C ops (o::rest) σ Q:=DK.vl hd (ldaV_of h hi ht) k
end
end
section
open Go.RowKit
def cmI(a b:Int):Int:=if a<b then -1 else if b<a then 1 else 0
theorem yNan_FS (a:Int):Ctr Tryz.prog 118 [.sc (.int .i64 a)] (.sc (.bool false)):=by
 refine zqe Tryz.func118 Tryz.ntmps118 fun w0 F0=>?_;dsimp only [St.init,number,Nat.reduceAdd]
 repeat (first|refine W.go rfl ?_)
 (first|refine (?_:W _ _ _ _ _)|refine (?_:WL _ _ _ _ _ _)|skip)
 try dsimp only [St.put,Nat.reduceAdd]
 refine W.ret (fin1 rfl rfl (sc_bool ?_) rfl)
 simp
theorem yCmp_FS (a b:Int):Ctr Tryz.prog 96 [.sc (.int .i64 a),.sc (.int .i64 b)] (.sc (.int .i64 (cmI a b))):=by
 have h1:=yNan_FS a
 have h2:=yNan_FS b
 by_cases hlt:a < b
 ·rw [show cmI a b=-1 from if_pos hlt]
  refine zqe Tryz.func96 Tryz.ntmps96 fun w0 F0=>?_;dsimp only [St.init,number,Nat.reduceAdd]
  repeat (first|refine W.go rfl ?_|refine WL.nil ?_|refine W.condT rfl ?_|refine W.condF rfl ?_)
  (first|refine (?_:W _ _ _ _ _)|refine (?_:WL _ _ _ _ _ _)|skip)
  try dsimp only [St.put,Nat.reduceAdd]
  refine WL.vl rfl (zqc Tryz.func118 h1) ?_
  repeat (first|refine W.gob rfl ?_|refine WL.nil ?_|refine WL.bt rfl rfl rfl zqo ?_|refine WL.bf rfl rfl rfl zqo ?_|refine WL.e1 rfl ?_|refine W.condT rfl ?_|refine W.condF rfl ?_)
  (first|refine (?_:W _ _ _ _ _)|refine (?_:WL _ _ _ _ _ _)|skip)
  try dsimp only [St.put,Nat.reduceAdd]
  refine WL.vl rfl (zqc Tryz.func118 h2) ?_
  repeat (first|refine W.gob rfl ?_|refine WL.nil ?_|refine WL.bt rfl rfl rfl zqo ?_|refine WL.bf rfl rfl rfl zqo ?_|refine WL.e1 rfl ?_|refine W.condT rfl ?_|refine W.condF rfl ?_)
  (first|refine (?_:W _ _ _ _ _)|refine (?_:WL _ _ _ _ _ _)|skip)
  try dsimp only [St.put,Nat.reduceAdd]
  exact W.ret zqr
 ·by_cases hgt:b < a
  ·rw [show cmI a b=1 by unfold cmI;rw [if_neg hlt,if_pos hgt]]
   refine zqe Tryz.func96 Tryz.ntmps96 fun w0 F0=>?_;dsimp only [St.init,number,Nat.reduceAdd]
   repeat (first|refine W.go rfl ?_|refine WL.nil ?_|refine W.condT rfl ?_|refine W.condF rfl ?_)
   (first|refine (?_:W _ _ _ _ _)|refine (?_:WL _ _ _ _ _ _)|skip)
   try dsimp only [St.put,Nat.reduceAdd]
   refine WL.vl rfl (zqc Tryz.func118 h1) ?_
   repeat (first|refine W.gob rfl ?_|refine WL.nil ?_|refine WL.bt rfl rfl rfl zqo ?_|refine WL.bf rfl rfl rfl zqo ?_|refine WL.e1 rfl ?_|refine W.condT rfl ?_|refine W.condF rfl ?_)
   (first|refine (?_:W _ _ _ _ _)|refine (?_:WL _ _ _ _ _ _)|skip)
   try dsimp only [St.put,Nat.reduceAdd]
   refine WL.vl rfl (zqc Tryz.func118 h2) ?_
   repeat (first|refine W.gob rfl ?_|refine WL.nil ?_|refine WL.bt rfl rfl rfl zqo ?_|refine WL.bf rfl rfl rfl zqo ?_|refine WL.e1 rfl ?_|refine W.condT rfl ?_|refine W.condF rfl ?_)
   (first|refine (?_:W _ _ _ _ _)|refine (?_:WL _ _ _ _ _ _)|skip)
   try dsimp only [St.put,Nat.reduceAdd]
   exact W.ret zqr
  ·rw [show cmI a b=0 by unfold cmI;rw [if_neg hlt,if_neg hgt]]
   refine zqe Tryz.func96 Tryz.ntmps96 fun w0 F0=>?_;dsimp only [St.init,number,Nat.reduceAdd]
   repeat (first|refine W.go rfl ?_|refine WL.nil ?_|refine W.condT rfl ?_|refine W.condF rfl ?_)
   (first|refine (?_:W _ _ _ _ _)|refine (?_:WL _ _ _ _ _ _)|skip)
   try dsimp only [St.put,Nat.reduceAdd]
   refine WL.vl rfl (zqc Tryz.func118 h1) ?_
   repeat (first|refine W.gob rfl ?_|refine WL.nil ?_|refine WL.bt rfl rfl rfl zqo ?_|refine WL.bf rfl rfl rfl zqo ?_|refine WL.e1 rfl ?_|refine W.condT rfl ?_|refine W.condF rfl ?_)
   (first|refine (?_:W _ _ _ _ _)|refine (?_:WL _ _ _ _ _ _)|skip)
   try dsimp only [St.put,Nat.reduceAdd]
   refine WL.vl rfl (zqc Tryz.func118 h2) ?_
   repeat (first|refine W.gob rfl ?_|refine WL.nil ?_|refine WL.bt rfl rfl rfl zqo ?_|refine WL.bf rfl rfl rfl zqo ?_|refine WL.e1 rfl ?_|refine W.condT rfl ?_|refine W.condF rfl ?_)
   (first|refine (?_:W _ _ _ _ _)|refine (?_:WL _ _ _ _ _ _)|skip)
   try dsimp only [St.put,Nat.reduceAdd]
   exact W.ret zqr
theorem one1_FS (x y:Stp):Ctr Tryz.prog 95 [.ag (eStp x),.ag (eStp y)] (.sc (.int .i64 (cmI x.1 y.1))):=by
 refine zqe Tryz.func95 Tryz.ntmps95 fun w0 F0=>?_;dsimp only [St.init,number,Nat.reduceAdd]
 repeat (first|refine W.go rfl ?_|refine WL.ev rfl ?_)
 (first|refine (?_:W _ _ _ _ _)|refine (?_:WL _ _ _ _ _ _)|skip)
 try dsimp only [St.put,Nat.reduceAdd]
 refine WL.vl rfl (WV.call rfl (callF Tryz.func96 rfl rfl) rfl rfl (yCmp_FS x.1 y.1)) ?_
 repeat (first|refine W.go rfl ?_|refine WL.ev rfl ?_)
 (first|refine (?_:W _ _ _ _ _)|refine (?_:WL _ _ _ _ _ _)|skip)
 try dsimp only [St.put,Nat.reduceAdd]
 exact W.ret zqr
theorem one1_asc {l:List Stp} (ha:l.Pairwise fun x y=>x.1<y.1) {i j:Nat} (h:i<j)(hj:j<l.length):Ctr Tryz.prog 95 [.ag (eStp l[j]),.ag (eStp (l[i]'(by omega)))] (.sc (.int .i64 1)):=by
 have hlt:=List.pairwise_iff_getElem.1 ha i j (by omega) hj h
 have:=one1_FS l[j] (l[i]' zqo)
 rw [show cmI l[j].1 (l[i]'(by omega)).1=1 by unfold cmI;rw [if_neg (by omega),if_pos hlt]] at this
 exact this
theorem stp_at {l:List Stp} {z:Int} {k:Nat} (hz:z.toNat=k)(h:k<l.length):(l.map eStp)[z.toNat]?=some (eStp l[k]):=by
 rw [hz,List.getElem?_map,List.getElem?_eq_getElem h];rfl
theorem yIns_G (l:List Stp) (ha:l.Pairwise fun x y=>x.1 < y.1) (hl:l.length≤100) :
  Cto truB 0 Tryz.prog 131 [.sl 0,.sc (.int .i64 0),.sc (.int .i64 l.length),.sc (.func (.func 95) #[] #[])] [(0,.row 41 5 (l.map eStp))] 1 (.tu []) [(0,.row 41 5 (l.map eStp))] 1:=by
 have hRl:(l.map eStp).length=l.length:=List.length_map _
 refine Cto.intro truS Tryz.func131 rfl Tryz.ntmps131 (Nat.le_of_ble_eq_true rfl) rfl fun w0 F0 fp pg hB=>?_
 dsimp only [number,Nat.reduceAdd]
 repeat (first|refine W.go rfl ?_|refine WL.nil ?_|refine WL.ev rfl ?_|refine WL.ar rfl rfl z41i ?_|refine W.condT rfl ?_|refine W.condF rfl ?_)
 (first|refine (?_:W _ _ _ _ _)|refine (?_:WL _ _ _ _ _ _)|skip)
 try dsimp only [St.put,Nat.reduceAdd]
 refine W.loop (fun k:Nat=>1≤k) (fun k=>⟨[(0,.sl 0),(1,.sc (.int .i64 0)),(2,.sc (.int .i64 l.length)),(3,.sc (.func (.func 95) #[] #[])),(8,.sc (.int .i64 k))],[(0,.row 41 5 (l.map eStp))],1⟩) (fun k=>l.length - k) 1 zqo (zqt id) fun k hk=>?_
 by_cases hlt:k < l.length
 ·have hC:=one1_asc ha (show k - 1 < k by omega) hlt
  have r1:=stp_at (l:=l) (z:=(k:Int)) (k:=k) zqo hlt
  have r0:=stp_at (l:=l) (z:=(k:Int) - 1) (k:=k - 1) zqo zqo
  obtain ⟨R,hR⟩:∃ z,l.map eStp=z:=⟨_,rfl⟩
  rw [hR] at hRl r1 r0 ⊢
  repeat (first|refine W.gob rfl ?_|refine WL.nil ?_|refine WL.bt rfl rfl rfl zqo ?_|refine WL.bf rfl rfl rfl zqo ?_|refine WL.e1 rfl ?_|refine WL.ar rfl rfl z41i ?_|refine W.condT rfl ?_|refine W.condF rfl ?_)
  (first|refine (?_:W _ _ _ _ _)|refine (?_:WL _ _ _ _ _ _)|skip)
  try dsimp only [St.put,Nat.reduceAdd]
  refine W.loop (fun u:Unit=>True) (fun _=>⟨[(0,.sl 0),(1,.sc (.int .i64 0)),(2,.sc (.int .i64 l.length)),(3,.sc (.func (.func 95) #[] #[])),(8,.sc (.int .i64 k)),(9,.sc (.int .i64 k))],[(0,.row 41 5 R)],1⟩) (fun _=>0) () trivial (zqt id) fun u hu=>?_
  repeat (first|refine W.gob rfl ?_|refine WL.nil ?_|refine WL.bt rfl rfl rfl zqo ?_|refine WL.bf rfl rfl rfl zqo ?_|refine WL.e1 rfl ?_|refine WL.ar rfl rfl z41i ?_|refine W.condT rfl ?_|refine W.condF rfl ?_)
  (first|refine (?_:W _ _ _ _ _)|refine (?_:WL _ _ _ _ _ _)|skip)
  try dsimp only [St.put,Nat.reduceAdd]
  refine W.drawK zqk zqk ?_
  repeat (first|refine DK.bt rfl rfl (by omega) ?_|refine DK.bf rfl rfl (by omega) ?_|refine DK.tt rfl (by first|(simp;done)|fail) ?_|refine DK.ff rfl (by first|(simp;done)|fail) ?_|refine DK.st rfl ?_|refine DK.ar rfl rfl z41i ?_|refine DK.ixs rfl rfl zqs ?_|refine DK.nil ?_)
  refine DK.lda rfl rfl r1 rfl ?_
  repeat (first|refine DK.bt rfl rfl (by omega) ?_|refine DK.bf rfl rfl (by omega) ?_|refine DK.tt rfl (by first|(simp;done)|fail) ?_|refine DK.ff rfl (by first|(simp;done)|fail) ?_|refine DK.st rfl ?_|refine DK.ar rfl rfl z41i ?_|refine DK.ixs rfl rfl zqs ?_|refine DK.nil ?_)
  refine DK.lda rfl rfl r0 rfl ?_
  repeat (first|refine DK.bt rfl rfl (by omega) ?_|refine DK.bf rfl rfl (by omega) ?_|refine DK.tt rfl (by first|(simp;done)|fail) ?_|refine DK.ff rfl (by first|(simp;done)|fail) ?_|refine DK.st rfl ?_|refine DK.ar rfl rfl z41i ?_|refine DK.ixs rfl rfl zqs ?_|refine DK.nil ?_)
  refine DK.vl rfl (WV.callV (truH _) rfl (callF Tryz.func95 rfl rfl) rfl rfl rfl rfl rfl hC.g) ?_
  repeat (first|refine DK.bt rfl rfl (by omega) ?_|refine DK.bf rfl rfl (by omega) ?_|refine DK.tt rfl (by first|(simp;done)|fail) ?_|refine DK.ff rfl (by first|(simp;done)|fail) ?_|refine DK.st rfl ?_|refine DK.ar rfl rfl z41i ?_|refine DK.ixs rfl rfl zqs ?_|refine DK.nil ?_)
  repeat (first|refine W.gob rfl ?_|refine WL.nil ?_|refine WL.bt rfl rfl rfl zqo ?_|refine WL.bf rfl rfl rfl zqo ?_|refine WL.e1 rfl ?_|refine WL.ar rfl rfl z41i ?_|refine W.condT rfl ?_|refine W.condF rfl ?_)
  (first|refine (?_:W _ _ _ _ _)|refine (?_:WL _ _ _ _ _ _)|skip)
  try dsimp only [St.put,Nat.reduceAdd]
  exact ⟨k+1,by omega,by omega,(zqt id)⟩
 ·repeat (first|refine W.gob rfl ?_|refine WL.nil ?_|refine WL.bt rfl rfl rfl zqo ?_|refine WL.bf rfl rfl rfl zqo ?_|refine WL.e1 rfl ?_|refine WL.ar rfl rfl z41i ?_|refine W.condT rfl ?_|refine W.condF rfl ?_)
  (first|refine (?_:W _ _ _ _ _)|refine (?_:WL _ _ _ _ _ _)|skip)
  try dsimp only [St.put,Nat.reduceAdd]
  exact finMuL rfl rfl rfl rfl rfl
theorem yPart_G (l:List Stp) (ha:l.Pairwise fun x y=>x.1 < y.1) (hl:l.length≤100) (h1:1≤l.length) :
  Cto truB 0 Tryz.prog 136 [.sl 0,.sc (.int .i64 0),.sc (.int .i64 l.length),.sc (.func (.func 95) #[] #[])] [(0,.row 41 5 (l.map eStp))] 1 (.sc (.bool true)) [(0,.row 41 5 (l.map eStp))] 1:=by
 have hRl:(l.map eStp).length=l.length:=List.length_map _
 refine Cto.intro truS Tryz.func136 rfl Tryz.ntmps136 (Nat.le_of_ble_eq_true rfl) rfl fun w0 F0 fp pg hB=>?_
 dsimp only [number,Nat.reduceAdd]
 repeat (first|refine W.go rfl ?_|refine WL.nil ?_|refine WL.ev rfl ?_|refine WL.ar rfl rfl z41i ?_|refine W.condT rfl ?_|refine W.condF rfl ?_)
 (first|refine (?_:W _ _ _ _ _)|refine (?_:WL _ _ _ _ _ _)|skip)
 try dsimp only [St.put,Nat.reduceAdd]
 refine W.loop (fun u:Unit=>True) (fun _=>⟨[(0,.sl 0),(1,.sc (.int .i64 0)),(2,.sc (.int .i64 l.length)),(3,.sc (.func (.func 95) #[] #[])),(9,.sc (.int .i64 1)),(10,.sc (.int .i64 0))],[(0,.row 41 5 (l.map eStp))],1⟩) (fun _=>0) () trivial (zqt id) fun u hu=>?_
 repeat (first|refine W.gob rfl ?_|refine WL.nil ?_|refine WL.bt rfl rfl rfl zqo ?_|refine WL.e1 rfl ?_|refine WL.ar rfl rfl z41i ?_|refine W.condT rfl ?_|refine W.condF rfl ?_)
 (first|refine (?_:W _ _ _ _ _)|refine (?_:WL _ _ _ _ _ _)|skip)
 try dsimp only [St.put,Nat.reduceAdd]
 refine W.loop (fun k:Nat=>1≤k∧k≤l.length) (fun k=>⟨[(0,.sl 0),(1,.sc (.int .i64 0)),(2,.sc (.int .i64 l.length)),(3,.sc (.func (.func 95) #[] #[])),(9,.sc (.int .i64 k)),(10,.sc (.int .i64 0))],[(0,.row 41 5 (l.map eStp))],1⟩) (fun k=>l.length - k) 1 zqo (zqt id) fun k hk=>?_
 by_cases hlt:k < l.length
 ·have hC:=one1_asc ha (show k - 1 < k by omega) hlt
  have r1:=stp_at (l:=l) (z:=(k:Int)) (k:=k) zqo hlt
  have r0:=stp_at (l:=l) (z:=(k:Int) - 1) (k:=k - 1) zqo zqo
  obtain ⟨R,hR⟩:∃ z,l.map eStp=z:=⟨_,rfl⟩
  rw [hR] at hRl r1 r0 ⊢
  repeat (first|refine W.gob rfl ?_|refine WL.nil ?_|refine WL.bt rfl rfl rfl zqo ?_|refine WL.e1 rfl ?_|refine WL.ar rfl rfl z41i ?_|refine W.condT rfl ?_|refine W.condF rfl ?_)
  (first|refine (?_:W _ _ _ _ _)|refine (?_:WL _ _ _ _ _ _)|skip)
  try dsimp only [St.put,Nat.reduceAdd]
  refine W.drawK zqk zqk ?_
  repeat (first|refine DK.bt rfl rfl (by omega) ?_|refine DK.bf rfl rfl (by omega) ?_|refine DK.tt rfl (by first|(simp;done)|fail) ?_|refine DK.ff rfl (by first|(simp;done)|fail) ?_|refine DK.st rfl ?_|refine DK.ar rfl rfl z41i ?_|refine DK.ixs rfl rfl zqs ?_|refine DK.nil ?_)
  refine DK.lda rfl rfl r1 rfl ?_
  repeat (first|refine DK.bt rfl rfl (by omega) ?_|refine DK.bf rfl rfl (by omega) ?_|refine DK.tt rfl (by first|(simp;done)|fail) ?_|refine DK.ff rfl (by first|(simp;done)|fail) ?_|refine DK.st rfl ?_|refine DK.ar rfl rfl z41i ?_|refine DK.ixs rfl rfl zqs ?_|refine DK.nil ?_)
  refine DK.lda rfl rfl r0 rfl ?_
  repeat (first|refine DK.bt rfl rfl (by omega) ?_|refine DK.bf rfl rfl (by omega) ?_|refine DK.tt rfl (by first|(simp;done)|fail) ?_|refine DK.ff rfl (by first|(simp;done)|fail) ?_|refine DK.st rfl ?_|refine DK.ar rfl rfl z41i ?_|refine DK.ixs rfl rfl zqs ?_|refine DK.nil ?_)
  refine DK.vl rfl (WV.callV (truH _) rfl (callF Tryz.func95 rfl rfl) rfl rfl rfl rfl rfl hC.g) ?_
  repeat (first|refine DK.bt rfl rfl (by omega) ?_|refine DK.bf rfl rfl (by omega) ?_|refine DK.tt rfl (by first|(simp;done)|fail) ?_|refine DK.ff rfl (by first|(simp;done)|fail) ?_|refine DK.st rfl ?_|refine DK.ar rfl rfl z41i ?_|refine DK.ixs rfl rfl zqs ?_|refine DK.nil ?_)
  repeat (first|refine W.gob rfl ?_|refine WL.nil ?_|refine WL.bt rfl rfl rfl zqo ?_|refine WL.e1 rfl ?_|refine WL.ar rfl rfl z41i ?_|refine W.condT rfl ?_|refine W.condF rfl ?_)
  (first|refine (?_:W _ _ _ _ _)|refine (?_:WL _ _ _ _ _ _)|skip)
  try dsimp only [St.put,Nat.reduceAdd]
  exact ⟨k+1,by omega,by omega,(zqt id)⟩
 ·obtain rfl:k=l.length:=by omega
  repeat (first|refine W.gob rfl ?_|refine WL.nil ?_|refine WL.bt rfl rfl rfl zqo ?_|refine WL.e1 rfl ?_|refine WL.ar rfl rfl z41i ?_|refine W.condT rfl ?_|refine W.condF rfl ?_)
  (first|refine (?_:W _ _ _ _ _)|refine (?_:WL _ _ _ _ _ _)|skip)
  try dsimp only [St.put,Nat.reduceAdd]
  refine W.drawK zqk zqk ?_
  repeat (first|refine DK.bt rfl rfl (by omega) ?_|refine DK.bf rfl rfl (by omega) ?_|refine DK.tt rfl (by first|(simp;done)|fail) ?_|refine DK.ff rfl (by first|(simp;done)|fail) ?_|refine DK.st rfl ?_|refine DK.ar rfl rfl z41i ?_|refine DK.ixs rfl rfl zqs ?_|refine DK.nil ?_)
  repeat (first|refine W.gob rfl ?_|refine WL.nil ?_|refine WL.bt rfl rfl rfl zqo ?_|refine WL.e1 rfl ?_|refine WL.ar rfl rfl z41i ?_|refine W.condT rfl ?_|refine W.condF rfl ?_)
  (first|refine (?_:W _ _ _ _ _)|refine (?_:WL _ _ _ _ _ _)|skip)
  try dsimp only [St.put,Nat.reduceAdd]
  refine W.tr (σ':=⟨[(8,.sc (.bool true))],[(0,.row 41 5 (l.map eStp))],1⟩) (zqt id) ?_
  exact W.ret (finM rfl rfl rfl rfl rfl)
theorem yOrd_G (l:List Stp) (ha:l.Pairwise fun x y=>x.1 < y.1) (i j:Nat) (h:i < j) (hj:j < l.length) (hl:l.length≤100) :
  Cto truB 0 Tryz.prog 147 [.sl 0,.sc (.int .i64 i),.sc (.int .i64 j),.pt 1 0 0,.sc (.func (.func 95) #[] #[])] [(0,.row 41 5 (l.map eStp)),(1,.box 3 [.sc (.int .i64 0)])] 2
   (.tu [.sc (.int .i64 i),.sc (.int .i64 j)]) [(0,.row 41 5 (l.map eStp)),(1,.box 3 [.sc (.int .i64 0)])] 2:=by
 have hRl:(l.map eStp).length=l.length:=List.length_map _
 have hC:=one1_asc ha h hj
 have r1:=stp_at (l:=l) (z:=(j:Int)) (k:=j) zqo hj
 have r0:=stp_at (l:=l) (z:=(i:Int)) (k:=i) zqo zqo
 obtain ⟨R,hR⟩:∃ z,l.map eStp=z:=⟨_,rfl⟩
 rw [hR] at hRl r1 r0 ⊢
 refine Cto.intro truS Tryz.func147 rfl Tryz.ntmps147 (Nat.le_of_ble_eq_true rfl) rfl fun w0 F0 fp pg hB=>?_
 dsimp only [number,Nat.reduceAdd]
 repeat (first|refine W.go rfl ?_|refine WL.nil ?_|refine W.condF rfl ?_)
 (first|refine (?_:W _ _ _ _ _)|refine (?_:WL _ _ _ _ _ _)|skip)
 try dsimp only [St.put,Nat.reduceAdd]
 refine W.drawK zqk zqk ?_
 repeat (first|refine DK.bf rfl rfl zqo ?_|refine DK.st rfl ?_|refine DK.ixs rfl rfl zqs ?_|refine DK.nil ?_)
 refine DK.lda rfl rfl r1 rfl ?_
 repeat (first|refine DK.bf rfl rfl zqo ?_|refine DK.st rfl ?_|refine DK.ixs rfl rfl zqs ?_|refine DK.nil ?_)
 refine DK.lda rfl rfl r0 rfl ?_
 repeat (first|refine DK.bf rfl rfl zqo ?_|refine DK.st rfl ?_|refine DK.ixs rfl rfl zqs ?_|refine DK.nil ?_)
 refine DK.vl rfl (WV.callV (truH _) rfl (callF Tryz.func95 rfl rfl) rfl rfl rfl rfl rfl hC.g) ?_
 repeat (first|refine DK.bf rfl rfl zqo ?_|refine DK.st rfl ?_|refine DK.ixs rfl rfl zqs ?_|refine DK.nil ?_)
 repeat (first|refine W.gob rfl ?_|refine WL.nil ?_|refine WL.e1 rfl ?_|refine W.condF rfl ?_)
 (first|refine (?_:W _ _ _ _ _)|refine (?_:WL _ _ _ _ _ _)|skip)
 try dsimp only [St.put,Nat.reduceAdd]
 exact W.ret (finM rfl rfl rfl rfl rfl)
theorem yMed_G (l:List Stp) (ha:l.Pairwise fun x y=>x.1 < y.1) (i j k:Nat) (h:i < j) (h2:j < k) (hk:k < l.length) (hl:l.length≤100) :
  Cto truB 0 Tryz.prog 146 [.sl 0,.sc (.int .i64 i),.sc (.int .i64 j),.sc (.int .i64 k),.pt 1 0 0,.sc (.func (.func 95) #[] #[])] [(0,.row 41 5 (l.map eStp)),(1,.box 3 [.sc (.int .i64 0)])] 2
   (.sc (.int .i64 j)) [(0,.row 41 5 (l.map eStp)),(1,.box 3 [.sc (.int .i64 0)])] 2:=by
 have c1:=yOrd_G l ha i j h zqo hl
 have c2:=yOrd_G l ha j k h2 hk hl
 refine Cto.intro truS Tryz.func146 rfl Tryz.ntmps146 (Nat.le_of_ble_eq_true rfl) rfl fun w0 F0 fp pg hB=>?_
 dsimp only [number,Nat.reduceAdd]
 repeat (first|refine W.go rfl ?_|refine WL.ev rfl ?_)
 (first|refine (?_:W _ _ _ _ _)|refine (?_:WL _ _ _ _ _ _)|skip)
 try dsimp only [St.put,Nat.reduceAdd]
 refine WL.cto (truH _) [0,1] rfl rfl (callF Tryz.func147 rfl rfl) c1 rfl rfl rfl ⟨⟨rfl,rfl,rfl⟩,⟨rfl,rfl,rfl⟩,trivial⟩ rfl rfl rfl rfl ?_
 repeat (first|refine W.go rfl ?_|refine WL.ev rfl ?_)
 (first|refine (?_:W _ _ _ _ _)|refine (?_:WL _ _ _ _ _ _)|skip)
 try dsimp only [St.put,Nat.reduceAdd]
 refine WL.cto (truH _) [0,1] rfl rfl (callF Tryz.func147 rfl rfl) c2 rfl rfl rfl ⟨⟨rfl,rfl,rfl⟩,⟨rfl,rfl,rfl⟩,trivial⟩ rfl rfl rfl rfl ?_
 repeat (first|refine W.go rfl ?_|refine WL.ev rfl ?_)
 (first|refine (?_:W _ _ _ _ _)|refine (?_:WL _ _ _ _ _ _)|skip)
 try dsimp only [St.put,Nat.reduceAdd]
 refine WL.cto (truH _) [0,1] rfl rfl (callF Tryz.func147 rfl rfl) c1 rfl rfl rfl ⟨⟨rfl,rfl,rfl⟩,⟨rfl,rfl,rfl⟩,trivial⟩ rfl rfl rfl rfl ?_
 repeat (first|refine W.go rfl ?_|refine WL.ev rfl ?_)
 (first|refine (?_:W _ _ _ _ _)|refine (?_:WL _ _ _ _ _ _)|skip)
 try dsimp only [St.put,Nat.reduceAdd]
 exact W.ret (finM rfl rfl rfl rfl rfl)
theorem yPiv_G (l:List Stp) (ha:l.Pairwise fun x y=>x.1 < y.1) (h1:12 < l.length) (hl:l.length≤14) :
  Cto truB 0 Tryz.prog 134 [.sl 0,.sc (.int .i64 0),.sc (.int .i64 l.length),.sc (.func (.func 95) #[] #[])] [(0,.row 41 5 (l.map eStp))] 1
   (.tu [.sc (.int .i64 6),.sc (.int .i64 1)]) [(0,.row 41 5 (l.map eStp))] 1:=by
 have c1:=yMed_G l ha 3 6 9 zqo zqo zqo zqo
 have hn:l.length=13∨l.length=14:=by omega
 rcases hn with hn|hn
 all_goals
  rw [hn]
  refine Cto.intro truS Tryz.func134 rfl Tryz.ntmps134 (Nat.le_of_ble_eq_true rfl) rfl fun w0 F0 fp pg hB=>?_
  dsimp only [number,Nat.reduceAdd]
  repeat (first|refine W.gob rfl ?_|refine WL.nil ?_|refine WL.bt rfl rfl rfl zqo ?_|refine WL.bf rfl rfl rfl zqo ?_|refine WL.e1 rfl ?_|refine WL.ar rfl rfl z41i ?_|refine WL.div rfl rfl zqo ?_|refine W.condT rfl ?_|refine W.condF rfl ?_)
  (first|refine (?_:W _ _ _ _ _)|refine (?_:WL _ _ _ _ _ _)|skip)
  try dsimp only [St.put,Nat.reduceAdd]
  refine WL.cto (truH _) [0,1] rfl rfl (callF Tryz.func146 rfl rfl) c1 rfl rfl rfl ⟨⟨rfl,rfl,rfl⟩,⟨rfl,rfl,rfl⟩,trivial⟩ rfl rfl rfl rfl ?_
  repeat (first|refine W.gob rfl ?_|refine WL.nil ?_|refine WL.bt rfl rfl rfl zqo ?_|refine WL.bf rfl rfl rfl zqo ?_|refine WL.e1 rfl ?_|refine WL.ar rfl rfl z41i ?_|refine WL.div rfl rfl zqo ?_|refine W.condT rfl ?_|refine W.condF rfl ?_)
  (first|refine (?_:W _ _ _ _ _)|refine (?_:WL _ _ _ _ _ _)|skip)
  try dsimp only [St.put,Nat.reduceAdd]
  refine W.tr (σ':=⟨[(8,.sc (.int .i64 6)),(9,.sc (.int .i64 1))],[(0,.row 41 5 (l.map eStp))],1⟩) (zqt id) ?_
  exact W.ret (finM rfl rfl rfl rfl rfl)
theorem yPdq_G (l:List Stp) (ha:l.Pairwise fun x y=>x.1 < y.1) (hl:l.length≤14) (z:Int) (hz:12 < l.length→z≠0) :
  Cto truB 0 Tryz.prog 116 [.sl 0,.sc (.int .i64 0),.sc (.int .i64 l.length),.sc (.int .i64 z),.sc (.func (.func 95) #[] #[])] [(0,.row 41 5 (l.map eStp))] 1 (.tu []) [(0,.row 41 5 (l.map eStp))] 1:=by
 by_cases h:l.length≤12
 ·have c:=yIns_G l ha zqo
  refine Cto.intro truS Tryz.func116 rfl Tryz.ntmps116 (Nat.le_of_ble_eq_true rfl) rfl fun w0 F0 fp pg hB=>?_
  dsimp only [number,Nat.reduceAdd]
  repeat (first|refine W.gob rfl ?_|refine WL.nil ?_|refine WL.bt rfl rfl rfl zqo ?_|refine WL.bf rfl rfl rfl zqo ?_|refine WL.e1 rfl ?_|refine WL.gyes rfl rfl rfl rfl ?_|refine WL.ar rfl rfl z41i ?_|refine W.condT rfl ?_|refine W.condF rfl ?_)
  (first|refine (?_:W _ _ _ _ _)|refine (?_:WL _ _ _ _ _ _)|skip)
  try dsimp only [St.put,Nat.reduceAdd]
  refine W.loop (fun u:Unit=>True) (fun _=>⟨[(0,.sl 0),(1,.sc (.int .i64 0)),(2,.sc (.int .i64 l.length)),(3,.sc (.int .i64 z)),(4,.sc (.func (.func 95) #[] #[])),(10,.sc (.bool true)),(11,.sc (.bool true))],[(0,.row 41 5 (l.map eStp))],1⟩) (fun _=>0) () trivial (zqt id) fun u hu=>?_
  repeat (first|refine W.gob rfl ?_|refine WL.nil ?_|refine WL.bt rfl rfl rfl zqo ?_|refine WL.bf rfl rfl rfl zqo ?_|refine WL.e1 rfl ?_|refine WL.gyes rfl rfl rfl rfl ?_|refine WL.ar rfl rfl z41i ?_|refine W.condT rfl ?_|refine W.condF rfl ?_)
  (first|refine (?_:W _ _ _ _ _)|refine (?_:WL _ _ _ _ _ _)|skip)
  try dsimp only [St.put,Nat.reduceAdd]
  refine WL.cto (truH _) [0] rfl rfl (callF Tryz.func131 rfl rfl) c rfl rfl rfl ⟨⟨rfl,rfl,rfl⟩,trivial⟩ rfl rfl rfl rfl ?_
  repeat (first|refine W.gob rfl ?_|refine WL.nil ?_|refine WL.bt rfl rfl rfl zqo ?_|refine WL.bf rfl rfl rfl zqo ?_|refine WL.e1 rfl ?_|refine WL.gyes rfl rfl rfl rfl ?_|refine WL.ar rfl rfl z41i ?_|refine W.condT rfl ?_|refine W.condF rfl ?_)
  (first|refine (?_:W _ _ _ _ _)|refine (?_:WL _ _ _ _ _ _)|skip)
  try dsimp only [St.put,Nat.reduceAdd]
  exact W.ret (finM rfl rfl rfl rfl rfl)
 ·have c:=yPiv_G l ha zqo hl
  have c2:=yPart_G l ha zqo zqo
  have hz0:=hz zqo
  refine Cto.intro truS Tryz.func116 rfl Tryz.ntmps116 (Nat.le_of_ble_eq_true rfl) rfl fun w0 F0 fp pg hB=>?_
  dsimp only [number,Nat.reduceAdd]
  repeat (first|refine W.gob rfl ?_|refine WL.nil ?_|refine WL.bt rfl rfl rfl zqo ?_|refine WL.bf rfl rfl rfl zqo ?_|refine WL.e1 rfl ?_|refine WL.gyes rfl rfl rfl rfl ?_|refine WL.ar rfl rfl z41i ?_|refine W.condT rfl ?_|refine W.condF rfl ?_)
  (first|refine (?_:W _ _ _ _ _)|refine (?_:WL _ _ _ _ _ _)|skip)
  try dsimp only [St.put,Nat.reduceAdd]
  refine W.loop (fun u:Unit=>True) (fun _=>⟨[(0,.sl 0),(1,.sc (.int .i64 0)),(2,.sc (.int .i64 l.length)),(3,.sc (.int .i64 z)),(4,.sc (.func (.func 95) #[] #[])),(10,.sc (.bool true)),(11,.sc (.bool true))],[(0,.row 41 5 (l.map eStp))],1⟩) (fun _=>0) () trivial (zqt id) fun u hu=>?_
  repeat (first|refine W.gob rfl ?_|refine WL.nil ?_|refine WL.bt rfl rfl rfl zqo ?_|refine WL.bf rfl rfl rfl zqo ?_|refine WL.e1 rfl ?_|refine WL.gyes rfl rfl rfl rfl ?_|refine WL.ar rfl rfl z41i ?_|refine W.condT rfl ?_|refine W.condF rfl ?_)
  (first|refine (?_:W _ _ _ _ _)|refine (?_:WL _ _ _ _ _ _)|skip)
  try dsimp only [St.put,Nat.reduceAdd]
  refine WL.cto (truH _) [0] rfl rfl (callF Tryz.func134 rfl rfl) c rfl rfl rfl ⟨⟨rfl,rfl,rfl⟩,trivial⟩ rfl rfl rfl rfl ?_
  repeat (first|refine W.gob rfl ?_|refine WL.nil ?_|refine WL.bt rfl rfl rfl zqo ?_|refine WL.bf rfl rfl rfl zqo ?_|refine WL.e1 rfl ?_|refine WL.gyes rfl rfl rfl rfl ?_|refine WL.ar rfl rfl z41i ?_|refine W.condT rfl ?_|refine W.condF rfl ?_)
  (first|refine (?_:W _ _ _ _ _)|refine (?_:WL _ _ _ _ _ _)|skip)
  try dsimp only [St.put,Nat.reduceAdd]
  refine WL.cto (truH _) [0] rfl rfl (callF Tryz.func136 rfl rfl) c2 rfl rfl rfl ⟨⟨rfl,rfl,rfl⟩,trivial⟩ rfl rfl rfl rfl ?_
  repeat (first|refine W.gob rfl ?_|refine WL.nil ?_|refine WL.bt rfl rfl rfl zqo ?_|refine WL.bf rfl rfl rfl zqo ?_|refine WL.e1 rfl ?_|refine WL.gyes rfl rfl rfl rfl ?_|refine WL.ar rfl rfl z41i ?_|refine W.condT rfl ?_|refine W.condF rfl ?_)
  (first|refine (?_:W _ _ _ _ _)|refine (?_:WL _ _ _ _ _ _)|skip)
  try dsimp only [St.put,Nat.reduceAdd]
  exact W.ret (finM rfl rfl rfl rfl rfl)
def bL(n:Nat):Int:=if n=0 then 0 else if n<2 then 1 else if n<4 then 2 else if n<8 then 3 else 4
theorem bL_0 {n:Nat} (h:12<n):bL n≠0:=by
 unfold bL
 rw [if_neg (by omega),if_neg (by omega),if_neg (by omega),if_neg (by omega)];decide
theorem len64_FS (n:Nat) (hn:n≤14):Ctr Tryz.prog 122 [.sc (.int .u64 n)] (.sc (.int .i64 (bL n))):=by
 obtain rfl|rfl|rfl|rfl|rfl|rfl|rfl|rfl|rfl|rfl|rfl|rfl|rfl|rfl|rfl:n=0∨n=1∨n=2∨n=3∨n=4∨n=5∨n=6∨n=7∨n=8∨n=9∨n=10∨n=11∨n=12∨n=13∨n=14:=by omega
 all_goals
  refine zqe Tryz.func122 Tryz.ntmps122 fun w0 F0=>?_;dsimp only [St.init,number,Nat.reduceAdd]
  repeat (first|refine W.go rfl ?_|refine WL.ev rfl ?_|refine WL.ar rfl rfl z41i ?_|refine W.condF rfl ?_)
  (first|refine (?_:W _ _ _ _ _)|refine (?_:WL _ _ _ _ _ _)|skip)
  try dsimp only [St.put,Nat.reduceAdd]
  refine WL.cvt rfl rfl rfl rfl ?_
  repeat (first|refine W.go rfl ?_|refine WL.ev rfl ?_|refine WL.ar rfl rfl z41i ?_|refine W.condF rfl ?_)
  (first|refine (?_:W _ _ _ _ _)|refine (?_:WL _ _ _ _ _ _)|skip)
  try dsimp only [St.put,Nat.reduceAdd]
  refine WL.six rfl rfl (by decide) ?_
  repeat (first|refine W.go rfl ?_|refine WL.ev rfl ?_|refine WL.ar rfl rfl z41i ?_|refine W.condF rfl ?_)
  (first|refine (?_:W _ _ _ _ _)|refine (?_:WL _ _ _ _ _ _)|skip)
  try dsimp only [St.put,Nat.reduceAdd]
  first|refine WL.cvt (m:=0) rfl rfl rfl (by decide +kernel) ?_|refine WL.cvt (m:=1) rfl rfl rfl (by decide +kernel) ?_|refine WL.cvt (m:=2) rfl rfl rfl (by decide +kernel) ?_|refine WL.cvt (m:=3) rfl rfl rfl (by decide +kernel) ?_|refine WL.cvt (m:=4) rfl rfl rfl (by decide +kernel) ?_
  repeat (first|refine W.go rfl ?_|refine WL.ev rfl ?_|refine WL.ar rfl rfl z41i ?_|refine W.condF rfl ?_)
  (first|refine (?_:W _ _ _ _ _)|refine (?_:WL _ _ _ _ _ _)|skip)
  try dsimp only [St.put,Nat.reduceAdd]
  exact W.ret zqr
theorem wrapU {n:Nat} (h:n≤14):IntKind.u64.wrap (n:Int)=(n:Int):=by
 obtain rfl|rfl|rfl|rfl|rfl|rfl|rfl|rfl|rfl|rfl|rfl|rfl|rfl|rfl|rfl:n=0∨n=1∨n=2∨n=3∨n=4∨n=5∨n=6∨n=7∨n=8∨n=9∨n=10∨n=11∨n=12∨n=13∨n=14:=by omega
 all_goals rfl
theorem bitsLen_FS (n:Nat) (hn:n≤14):Ctr Tryz.prog 117 [.sc (.int .u64 n)] (.sc (.int .i64 (bL n))):=by
 have h:=len64_FS n hn
 refine zqe Tryz.func117 Tryz.ntmps117 fun w0 F0=>?_;dsimp only [St.init,number,Nat.reduceAdd]
 repeat (first|refine W.go rfl ?_|refine WL.ev rfl ?_|refine W.condF rfl ?_)
 (first|refine (?_:W _ _ _ _ _)|refine (?_:WL _ _ _ _ _ _)|skip)
 try dsimp only [St.put,Nat.reduceAdd]
 refine WL.vl rfl (zqc Tryz.func122 h) ?_
 repeat (first|refine W.go rfl ?_|refine WL.ev rfl ?_|refine W.condF rfl ?_)
 (first|refine (?_:W _ _ _ _ _)|refine (?_:WL _ _ _ _ _ _)|skip)
 try dsimp only [St.put,Nat.reduceAdd]
 exact W.ret zqr
theorem ySort_G (l:List Stp) (ha:l.Pairwise fun x y=>x.1 < y.1) (hl:l.length≤14) :
  Cto truB 0 Tryz.prog 94 [.sl 0,.sc (.func (.func 95) #[] #[])] [(0,.row 41 5 (l.map eStp))] 1 (.tu []) [(0,.row 41 5 (l.map eStp))] 1:=by
 have hRl:(l.map eStp).length=l.length:=List.length_map _
 have c:=yPdq_G l ha hl (bL l.length) bL_0
 have cb:=bitsLen_FS l.length hl
 obtain ⟨z,hz⟩:∃ z,bL l.length=z:=⟨_,rfl⟩
 rw [hz] at c cb
 refine Cto.intro truS Tryz.func94 rfl Tryz.ntmps94 (Nat.le_of_ble_eq_true rfl) rfl fun w0 F0 fp pg hB=>?_
 dsimp only [number,Nat.reduceAdd]
 repeat (first|refine W.go rfl ?_|refine WL.nil ?_|refine WL.ev rfl ?_|refine WL.len rfl rfl zql ?_)
 (first|refine (?_:W _ _ _ _ _)|refine (?_:WL _ _ _ _ _ _)|skip)
 try dsimp only [St.put,Nat.reduceAdd]
 refine WL.cvt rfl rfl rfl (wrapU hl) ?_
 repeat (first|refine W.go rfl ?_|refine WL.nil ?_|refine WL.ev rfl ?_|refine WL.len rfl rfl zql ?_)
 (first|refine (?_:W _ _ _ _ _)|refine (?_:WL _ _ _ _ _ _)|skip)
 try dsimp only [St.put,Nat.reduceAdd]
 refine WL.vl rfl (zqc Tryz.func117 cb) ?_
 repeat (first|refine W.go rfl ?_|refine WL.nil ?_|refine WL.ev rfl ?_|refine WL.len rfl rfl zql ?_)
 (first|refine (?_:W _ _ _ _ _)|refine (?_:WL _ _ _ _ _ _)|skip)
 try dsimp only [St.put,Nat.reduceAdd]
 refine WL.cto (truH _) [0] rfl rfl (callF Tryz.func116 rfl rfl) c rfl rfl rfl ⟨⟨rfl,rfl,rfl⟩,trivial⟩ rfl rfl rfl rfl ?_
 repeat (first|refine W.go rfl ?_|refine WL.nil ?_|refine WL.ev rfl ?_|refine WL.len rfl rfl zql ?_)
 (first|refine (?_:W _ _ _ _ _)|refine (?_:WL _ _ _ _ _ _)|skip)
 try dsimp only [St.put,Nat.reduceAdd]
 exact finMuL rfl rfl rfl rfl rfl
end
section
open Go.RowKit
section
variable {B:World→View→Prop} {gl:Nat} {P:Program} {C:Cx} {σ:St} {o:Oper} {d:Tmp}
theorem fpM_nil {G:Gh} {x:Nat}:¬ fpM G [] x:=by
 unfold fpM
 rintro⟨k,ob,h,_⟩
 cases h
theorem WO.lendO (hB:Holds B gl C) {f:FuncId} {y:Operand} {fv:AV} {xs:Array Operand} {ts:Array TypeId} {args0 caps args args':List AV} {T n q:Nat} {rows:List (List AV)} (ho:o.op=.call { callee:=.value y,args:=xs,argTypes:=ts }) (hc:∀ vs w,(callFunc f vs).run P w=.ok (.enter f vs) w)
  (hy:σ.ev y=some fv) (hf:fnOf fv=some (f,caps)) (hx:σ.evs xs.toList=some args0) (hcat:args0++caps=args) (hl:Lents C σ args args') (hst:∀ w F F',View.le F F'→B w F→B w F') (h:Cto B gl P f args' [] 0 (.sl 0) [(0,.row T n rows)] 1)
  (hr:∀ r∈rows,∀ av∈r,∃ z,av=.sc z) (hds:o.dst=some d) (hd:Nat.blt d C.N=true) (hq:σ.nk=q):WO P C o σ ((σ.new (.row T n rows)).put d (.sl q)):=by
 intro G a w ok N Q' hN
 obtain ⟨cs,ey,h1,h2⟩:=fnOf_of hf (ok.evr hy).2
 obtain ⟨e1,e2⟩:=ok.evl2 hx h1 h2 hcat
 obtain ⟨q1,q2⟩:=hl.at_
 have hF:G.F.le fun q=>w.cell? q:=fun p u x=>ok.fw p u x
 refine call_wp ho hc ey (h w ⟨fun q=>w.cell? q,fun _=>0,fun _=>0,fun _=>undef,fun _ _=>False⟩ _ (hst w _ _ hF (hB.1 w G.F ok.bel ok.f0)) (fun x hx=>(fpM_nil hx).elim)
  ⟨fun _ _ x=>x,fun k o hk=>(by cases hk),fun k o x hk=>(by cases hk),fun k o k2 o2 x hk=>(by cases hk),fun k o x p u hk=>(by cases hk)⟩ (by rw [e1,q1]) fun i av u p qq=>?_) fun e w1 ⟨v,G',he,hk,h3,h4,hO,hmy,hpin,hle,hbd,hR⟩=>?_
 ·obtain ⟨b,hb,hL⟩:=q2 i av p
  exact .pu _ _ (hL G a w ok u (e2 i b u hb qq))
 ·obtain ⟨_,_,g1,g2,g3⟩:=hO.ob 0 _ rfl
  obtain ⟨r1,vs,Φ,r2,r3,r4,r5,r6,r7,r8,r9⟩:=g3
  obtain ⟨ev,eo⟩:=hR.sl_of
  have hnew:∀ x,G'.fp 0 x→w.heap.size≤x:=fun x hx=>(hmy 0 _ x rfl hx).elim id fun z=>(fpM_nil z).elim
  have ok':=ok.newObj (w':=w1) (S:=fun _=>False) (b:=G'.b 0) (n:=n) (h:=G'.h 0) (φ:=G'.fp 0) (ob:=.row T n rows)
   ⟨hk.os,hk.tape,hk.output,hk.size,fun k hk' _=>hk.block k hk' fpM_nil⟩ (fun _ h=>h.elim) (fun _ _ _ _ _ h=>h) (fun _ _ _ h=>h)
   ⟨with_n,(fun g hg=>by rw [with_h] at hg;rw [with_b];exact g2 g hg),by
    rw [with_h,with_f]
    refine ⟨r1,vs,Φ,r2,r3,r4,r5,r6,r7,r8,fun i r r' j av u a b c d=>?_⟩
    obtain ⟨z,rfl⟩:=hr r (List.mem_of_getElem? a) av (List.mem_of_getElem? c)
    have:=r9 i r r' j _ u a b c d
    rw [show u=z from RP.sc_eq this]
    exact .sc _⟩ trivial (fun x hx=>⟨.inl (Nat.le_trans ok.bel.size (hnew x hx)),hO.my 0 _ x rfl hx,fun k o h1 h2=>by
     have:=(ok.my k o x h1 h2).2
     have:=hnew x hx
     omega,fun p u h1 h2=>by
     have:=cell_block (ok.fw p u h1)
     have:=hnew x hx
     omega⟩)
  refine ⟨v,he,?_⟩
  rw [hds]
  subst hq
  rw [ev] at eo ⊢
  exact hN _ _ _ (ok'.set (d:=some d) (av:=.sl σ.nk) (v:=G'.h 0) (with_sl eo) (.sl _ (Nat.lt_succ_self _)) fun x hx=>by cases hx;exact of_blt hd)
end
end
section
open Go.RowKit
def cpS (st:List Int)(f:Int):Int:=st.getD (f.toNat-1) 0
def cp1(st:List Int)(f:Int)(x:Int×Int×Bool):Int×Int×Bool:=if x.2.1=0 then x else(x.1+cpS st f,x.2.1-f,x.2.2)
def cpBad (cs:List (Int×Int×Bool))(f:Int):Bool:=cs.any fun x=>decide (x.2.1≠0∧x.2.1<f)
def cpX (cs:List (Int×Int×Bool))(st:List Int)(f:Int):Int:=if insE cs st≠0 then insE cs st else if f<0∨(st.length:Int)<f then 13 else if f=0 then 0 else if cpBad cs f=true then 13 else 0
def cpCs (cs:List (Int×Int×Bool))(st:List Int)(f:Int):List (Int×Int×Bool):=if cpX cs st f=0 then (if f=0 then cs else cs.map (cp1 st f))else []
def cpSt (cs:List (Int×Int×Bool))(st:List Int)(f:Int):List Int:=if cpX cs st f=0 then (if f=0 then st else (st.drop f.toNat).map fun x=>x-cpS st f)else []
def capF (cs:List (Int×Int×Bool))(f:Int)(x:Stp):Int:=if 0<fretsOf cs x.1 then x.2.1-f else x.2.1
def capC (cs:List (Int×Int×Bool))(f:Int):Cg where
 ch x:=((x.1,capF cs f x,x.2.2),decide (capF cs f x<0))
 mr y:=y
 ml _:=[]
 tie _ e:=e.tie
 bare i:=decide (0<i)
def capE(p:Pce)(f:Int):Int:=if pceE p≠0 then pceE p else cpX p.cs p.st f
def capN (p:Pce)(f:Int):List Ev:=nwL (capC p.cs f) p.evs
def capP (p:Pce) (f:Int):Pce:=if capE p f=0 then ⟨cpCs p.cs p.st f,cpSt p.cs p.st f,fnL (ftH (capN p f)) (capN p f)⟩else noP
def capL (p:Pce) (f:Int):List Lck:=if capE p f=0 then lsL (capC p.cs f) (ftH (capN p f)) p.evs p.evs.length else []
theorem capC_mv {cs:List (Int×Int×Bool)} {f:Int} {x y:Stp} (h:(capC cs f).mv x=some y):0≤capF cs f x∧y=(x.1,capF cs f x,x.2.2):=by
 unfold Cg.mv at h
 by_cases hp:capF cs f x<0
 ·rw [if_pos (by show decide (capF cs f x<0)=true;exact decide_eq_true hp)]at h;cases h
 ·rw [if_neg (by show ¬ decide (capF cs f x<0)=true;simpa using hp)]at h
  exact⟨by omega,(Option.some.inj h).symm⟩
theorem capC_crs {cs:List (Int×Int×Bool)} {f:Int} (x y:Stp)(h:(capC cs f).mv x=some y):y.1=x.1∧y.2.2.2.2=x.2.2.2.2:=by
 obtain⟨_,rfl⟩:=capC_mv h;exact⟨rfl,rfl⟩
theorem cpS_bd {cs:List (Int×Int×Bool)} {st:List Int} (h:insE cs st=0) {f:Int} (h1:1≤f)(h2:f≤st.length):(f-1).toNat<st.length∧st[(f-1).toNat]?=some (cpS st f)∧1≤cpS st f∧cpS st f≤127:=by
 have hk:(f-1).toNat<st.length:=by omega
 obtain⟨_,_,_,l4,_⟩:=insE_len h
 have e:cpS st f=st[(f-1).toNat]:=by
  unfold cpS
  rw [List.getD_eq_getElem?_getD,show f.toNat-1=(f-1).toNat by omega,List.getElem?_eq_getElem hk];rfl
 refine⟨hk,by rw [e,List.getElem?_eq_getElem hk],?_⟩
 rw [e]
 exact stepsBad_bd zqo l4 _ hk
end
end Go.Proofs.YtockempedekkkaaGreatDoor
