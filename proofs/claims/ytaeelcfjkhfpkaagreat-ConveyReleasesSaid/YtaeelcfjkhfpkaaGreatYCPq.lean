/- An instrument behind a capo, and a piece there: plain. -/
import Derived.Test.YtaeelcfjkhfpkaaGreatEOPq
set_option maxHeartbeats 8000000
set_option maxRecDepth 100000
set_option linter.unusedVariables false
set_option linter.unusedSimpArgs false
namespace Go.Proofs.YtaeelcfjkhfpkaaGreat
section
open Go.RowKit
section
variable {P:Program} {C:Cx} {σ:St} {G:Gh} {a:Act} {w:World} {o:Oper} {d:Tmp} {ops:Array Oper} {rest:List Oper} {Q:Exit→St→Prop}
theorem WO.buildO {T e n q:Nat} {z:Value} {parts:Array (Nat×Operand)} {x0:Operand} {av0 y0:AV} {j0:Nat} (ho:o.op=.buildSlice T 1 parts) (hT:P.underlying T=some (.slice e)) (hn:sizeB P e=some n) (hz:(P.info? e).bind (·.zero)=some z)
  (hp:parts.toList=number 0 [x0]) (hb:Nat.ble (1*n) 16777216=true) (hds:o.dst=some d) (hd:Nat.blt d C.N=true) (hx:σ.ev x0=some av0) (hcB:av0.cellB=true) (hcl:av0.cells.length=n) (hc1:av0.cells.all AV.oneB=true) (hcj:av0.cells[j0]?=some y0) (hc0:∀ s x,s≠j0→av0.cells[s]?=some x→x.pu0=true) (hq:σ.nk=q) :
  WO P C o σ ((σ.new (.rwo e n [av0.cells] 0 j0 y0)).put d (.sl q)):=by
 intro G a w ok N Q' hN
 obtain ⟨hbd,hr⟩:=ok.evr hx
 obtain ⟨c1,c2⟩:=cells_of hr hcB
 have hv:(a.eval x0).cells.size=n:=c1.trans hcl
 have hrun:=run_buildS (P:=P) (T:=T) (e:=e) (n:=n) (m:=1) (vs:=[a.eval x0]) (parts:=parts.map fun (i,x)=>(i,a.eval x)) hT hn hz (by
  have:=number_map a.eval 0 [x0]
  rw [← hp] at this
  simpa using this) rfl (fun v hv'=>by obtain rfl:=List.mem_singleton.1 hv';exact hv) (Nat.le_of_ble_eq_true hb) w
 have hfl:(([a.eval x0]).map fun v=>v.cells.toList).flatten=(a.eval x0).cells.toList:=by simp
 have hown:=own_built w e n 1 (([a.eval x0]).map fun v=>v.cells.toList).flatten.toArray (by unfold maxLen;omega) (by
  rw [hfl,Array.toArray_toList,hv];omega)
 have honeR:∀ r∈[(a.eval x0).cells.toList],∀ u∈r,u.oneCell'=true:=fun r hr' u hu=>by
  obtain rfl:=List.mem_singleton.1 hr'
  obtain ⟨j,hj,rfl⟩:=List.getElem_of_mem hu
  have hj2:j<av0.cells.length:=by rw [← c1];simpa using hj
  exact oneB_of (c2 j _ _ (List.getElem?_eq_getElem hj2) (by simp at hj;simp [hj])) (List.all_eq_true.1 hc1 _ (List.getElem_mem hj2))
 have hsl:(.slice (some ⟨w.heap.size,0,none⟩) 1 1:Value).ownBlock=some w.heap.size:=rfl
 have hy:Bd σ.nk y0:=cells_bd hbd j0 y0 hcj
 have ok':=ok.newObj (w':=w.alloc (.cells (([a.eval x0]).map fun v=>v.cells.toList).flatten.toArray e)) (S:=fun _=>False) (b:=w.heap.size) (n:=n) (h:=.slice (some ⟨w.heap.size,0,none⟩) 1 1) (φ:=fun x=>x=w.heap.size) (ob:=.rwo e n [av0.cells] 0 j0 y0)
  (Kept.below ((Below.refl _ _).alloc (Nat.le_refl _) _)) (fun _ h=>h.elim) (fun _ _ _ _ _ h=>h) (fun _ _ _ h=>h)
  ⟨with_n,(fun g hg=>by rw [with_h,hsl] at hg;rw [with_b];exact (Option.some.inj hg).symm),by
   rw [with_h,with_f]
   refine ⟨fun r hr'=>by obtain rfl:=List.mem_singleton.1 hr';exact hcl,[(a.eval x0).cells.toList],fun _ _ _=>False,?_,rfl,honeR,fun g hg=>by rw [hsl] at hg;exact (Option.some.inj hg).symm,
    fun _ _ _ h=>h.elim,fun _ _ _ _ _ h=>h.elim,fun i r r' h1 h2=>?_,fun i r r' j av u h1 h2 h3 h4=>?_⟩
   ·exact own_weaken (by simpa using hown) (Nat.zero_le _)
   ·cases i with
    | zero=>cases h1;cases h2;simpa using c1
    | succ i=>simp at h1
   ·cases i with
    | succ i=>simp at h1
    | zero =>
     cases h1;cases h2
     have hR:=c2 j av u h3 (by simpa using h4)
     unfold XQ
     by_cases e:j=j0
     ·subst e
      rw [if_pos ⟨rfl,rfl⟩]
      rw [hcj] at h3
      cases h3
      exact hR.mono (G.with_le σ.nk _ _ _ _) hy
     ·rw [if_neg (fun h=>e h.2)]
      exact .pu _ _ _ (show RP G.F av u from (pu0_bd (hc0 j av e h3) 0).rp hR)⟩ (hy.mono (Nat.le_succ _)) (fun x hx=>by
   obtain rfl:x=w.heap.size:=hx
   refine ⟨.inl ok.bel.size,by simp,fun k o h1 h2=>?_,fun p u h1 h2=>?_⟩
   ·have:=(ok.my k o _ h1 h2).2;omega
   ·have:=cell_block (ok.fw p u h1);omega)
 unfold Oper.wp execOp
 simp only [ho,Sem.run_bind,hrun,Result.andThen_ok,Sem.run_pure,Oper.upon]
 rw [hds]
 subst hq
 exact hN _ _ _ (ok'.set (d:=some d) (av:=.sl σ.nk) (v:=.slice (some ⟨w.heap.size,0,none⟩) 1 1) (with_sl rfl) (.sl _ (Nat.lt_succ_self _)) fun x hx=>by cases hx;exact of_blt hd)
structure BdD where
 e:TypeId
 n:Nat
 cells:List AV
def bdoV (P:Program) (σ:St):Op→Option BdD
 | .buildSlice T 1 ⟨[(0,x)]⟩ =>
  match P.underlying T,σ.ev x with
  | some (.slice e),some av =>
   match sizeB P e,(P.info? e).bind (·.zero) with
   | some n,some _=>bif av.cellB && Nat.beq av.cells.length n && av.cells.all AV.oneB && Nat.ble (1*n) 16777216 then some ⟨e,n,av.cells⟩ else none
   | _,_=>none
  | _,_=>none
 | _=>none
def pu0But (j:Nat):Nat→List AV→Bool
 | _,[]=>true
 | s,x::r=>(Nat.beq s j|| x.pu0) && pu0But j (s+1) r
theorem pu0But_at {j:Nat}:∀ {l:List AV} {s:Nat},pu0But j s l=true→∀ i x,s+i≠j→l[i]?=some x→x.pu0=true
 | [],s,_,i,x,_,h=>by simp at h
 | y::r,s,hp,i,x,hi,h=>by
  simp only [pu0But,Bool.and_eq_true,Bool.or_eq_true] at hp
  cases i with
  | zero =>
   cases h
   rcases hp.1 with e|e
   ·exact absurd (Nat.eq_of_beq_eq_true e) hi
   ·exact e
  | succ i=>exact pu0But_at hp.2 i x (by omega) (by simpa using h)
theorem WL.bdO {x:BdD} {t:List (Nat×AV)} {M:List (Nat×AO)} {nk:Nat} (j:Nat) {y:AV} (hd:dstB C.N o=some d) (h:bdoV P ⟨t,M,nk⟩ o.op=some x) (hj:x.cells[j]?=some y) (hp:pu0But j 0 x.cells=true)
  (k:WL P C ops rest ⟨(d,.sl nk)::t,(nk,.rwo x.e x.n [x.cells] 0 j y)::M,nk+1⟩ Q):WL P C ops (o::rest) ⟨t,M,nk⟩ Q:=by
 obtain ⟨hg,hds,hdb⟩:=dstB_of hd
 refine WL.op hg ?_ k
 unfold bdoV at h
 split at h
 ·rename_i T x0 ho
  split at h
  ·rename_i e av hT hx
   split at h
   ·rename_i n z hn hz
    cases hb:av.cellB && Nat.beq av.cells.length n && av.cells.all AV.oneB && Nat.ble (1*n) 16777216 with
    | false=>rw [hb] at h;cases h
    | true =>
     rw [hb] at h
     cases h
     simp only [Bool.and_eq_true] at hb
     obtain ⟨⟨⟨b1,b2⟩,b3⟩,b4⟩:=hb
     exact WO.buildO (σ:=⟨t,M,nk⟩) ho hT hn hz rfl b4 hds hdb hx b1 (Nat.eq_of_beq_eq_true b2) b3 hj (fun s x hs hx=>pu0But_at hp s x zqo hx) rfl
   ·cases h
  ·cases h
 ·cases h
structure ApmD where
 T:TypeId
 n:Nat
 k:Nat
 q:Nat
 a:List (List AV)
 b:List (List AV)
def apmV (P:Program) (σ:St):Op→Option ApmD
 | .call { callee:=.builtin .append,args:=⟨[x,y]⟩,argTypes:=⟨[T,T']⟩ } =>
  match P.underlying T,σ.ev x,σ.ev y with
  | some (.slice e),some (.sl k),some (.sl q) =>
   match P.info? e,look k σ.M,look q σ.M with
   | some i,some (.rwn e' n rows),some (.rwn _ n' rows2) =>
    match i.zero with
    | some z=>bif Nat.beq T T' && Nat.beq e e' && Nat.beq n n' && Nat.beq i.size n && Nat.beq z.cells.size n && Nat.blt 0 n && Nat.ble i.bytes 100000 && !Nat.beq k q then some ⟨e,n,k,q,rows,rows2⟩else none
    | _=>none
   | _,_,_=>none
  | _,_,_=>none
 | _=>none
theorem WL.apM {x:ApmD} {t:List (Nat×AV)} {M M1 M':List (Nat×AO)} {nk:Nat} (hd:dstB C.N o=some d) (h:apmV P ⟨t,M,nk⟩ o.op=some x) (hM:remS x.k M=some M1) (hM2:remS x.q M1=some M') (hl:x.a.length+x.b.length≤1000000000)
  (k:WL P C ops rest ⟨(d,.sl nk)::t,(nk,.rwn x.T x.n (x.a++x.b))::M',nk+1⟩ Q):WL P C ops (o::rest) ⟨t,M,nk⟩ Q:=by
 rw [remS_eq hM2,remS_eq hM] at k
 obtain ⟨hg,hds,hdb⟩:=dstB_of hd
 refine WL.op hg ?_ k
 unfold apmV at h
 split at h
 ·rename_i x0 y0 T T' ho
  split at h
  ·rename_i e k' q' hT hx hy
   split at h
   ·rename_i i e' n rows e2 n' rows2 hi hk hq
    split at h
    ·rename_i z hz
     cases hb:Nat.beq T T' && Nat.beq e e' && Nat.beq n n' && Nat.beq i.size n && Nat.beq z.cells.size n && Nat.blt 0 n && Nat.ble i.bytes 100000 && !Nat.beq k' q' with
     | false=>rw [hb] at h;cases h
     | true =>
      rw [hb] at h
      simp only [Bool.and_eq_true,Bool.not_eq_true'] at hb
      cases h
      obtain ⟨⟨⟨⟨⟨⟨⟨b1,b2⟩,b3⟩,b4⟩,b5⟩,b6⟩,b7⟩,b8⟩:=hb
      obtain rfl:=Nat.eq_of_beq_eq_true b1
      obtain rfl:=Nat.eq_of_beq_eq_true b2
      obtain rfl:=Nat.eq_of_beq_eq_true b3
      exact WO.appendM (σ:=⟨t,M,nk⟩) ho hT hi hz (Nat.eq_of_beq_eq_true b4) rfl (Nat.eq_of_beq_eq_true b5) b6 hds hdb hx hk hy hq b8 rfl hl b7 rfl
    ·cases h
   ·cases h
  ·cases h
 ·cases h
end
end
section
open Go.RowKit
def eEvO (e:Ev):List AV:=[.sc (.bool e.bar),.sc (.int .i64 e.val),.sc (.bool e.dot),.sc (.bool e.three),.sc (.bool e.tie),.ow 48 5 (e.stops.map eStp)]
theorem fz0(av:AV):av.fz 0=av:=by cases av<;>rfl
theorem fz0_rows (l:List (List AV)):(l.map fun r=>r.map (AV.fz 0))=l:=by
 refine (List.map_congr_left fun r _=>?_).trans (List.map_id _)
 exact (List.map_congr_left fun x _=>fz0 x).trans (List.map_id _)
theorem eEvO_fz (e:Ev):(eEvO e).map (AV.fz 1)=eEv e:=by
 show [_,_,_,_,_,AV.ls 5 ((e.stops.map eStp).map fun r=>r.map (AV.fz 0))]=_
 rw [fz0_rows];rfl
theorem eEvO_rows (l:List Ev):((l.map eEvO).map fun r=>r.map (AV.fz 1))=l.map eEv:=by
 rw [List.map_map]
 exact List.map_congr_left fun e _=>eEvO_fz e
theorem eStp_own(l:List Stp):∀ q∈l.map eStp,∀ av∈q,av.own=false:=fun q hq av hav=>by
 obtain⟨s,_,rfl⟩:=List.mem_map.1 hq
 simp only [eStp,List.mem_cons,List.not_mem_nil,or_false]at hav
 rcases hav with rfl|rfl|rfl|rfl|rfl<;>rfl
theorem own_shal {d:Nat} {av:AV} (h:av.own=false):av.shal d=true:=by
 cases d<;>cases av<;>first|rfl|cases h
theorem eEvO_shal (l:List Ev):∀ r∈l.map eEvO,∀ av∈r,av.shal 1=true:=fun r hr av hav=>by
 obtain⟨e,_,rfl⟩:=List.mem_map.1 hr
 simp only [eEvO,List.mem_cons,List.not_mem_nil,or_false]at hav
 rcases hav with rfl|rfl|rfl|rfl|rfl|rfl
 ·rfl
 ·rfl
 ·rfl
 ·rfl
 ·rfl
 ·show ((e.stops.map eStp).all fun r=>r.all (AV.shal 0))=true
  rw [List.all_eq_true]
  intro q hq
  rw [List.all_eq_true]
  exact fun x hx=>own_shal (eStp_own _ q hq x hx)
end
section
open Go.RowKit
theorem asc_ge {l:List Stp} (ha:l.Pairwise fun x y=>x.1<y.1) (h1:∀ x∈l,1≤x.1):∀ k (h:k<l.length),(k:Int)+1≤l[k].1
 | 0,h=>by have:=h1 _ (List.getElem_mem h);omega
 | k+1,h=>by
  have:=asc_ge ha h1 k zqo
  have h2:=List.pairwise_iff_getElem.1 ha k (k+1) (by omega) h (by omega)
  omega
theorem asc14 {l:List Stp} (ha:l.Pairwise fun x y=>x.1<y.1) (hb:∀ x∈l,1≤x.1∧x.1≤14):l.length≤14:=by
 rcases Nat.eq_zero_or_pos l.length with h|h
 ·omega
 ·have h1:=asc_ge ha (fun x hx=>(hb x hx).1) (l.length-1) zqo
  have h2:=(hb _ (List.getElem_mem (show l.length-1<l.length by omega))).2
  omega
def evK(evs:List Ev) (n:Nat) (K:List Stp):List Ev:=evs.set n { (evs.getD n ⟨false,0,false,false,false,[]⟩)with stops:=K }
theorem evK_at {evs:List Ev} {n:Nat} (h:n<evs.length)(K:List Stp):evK evs n K=evs.set n { evs[n]with stops:=K }:=by
 unfold evK
 rw [List.getD_eq_getElem?_getD,List.getElem?_eq_getElem h];rfl
theorem evK_len(evs:List Ev)(n:Nat)(K:List Stp):(evK evs n K).length=evs.length:=by unfold evK;rw [List.length_set]
theorem evK_crs {evs:List Ev} {n:Nat} (h:n<evs.length) {K:List Stp} (hK:K.map (fun x=>x.1)=evs[n].stops.map fun x=>x.1):(evK evs n K).map crsE'=evs.map crsE':=by
 rw [evK_at h,List.map_set]
 have e:crsE' { evs[n]with stops:=K }=crsE' evs[n]:=by
  have hl:K.length=evs[n].stops.length:=by have:=congrArg List.length hK;simpa using this
  unfold crsE' restB
  show (_,_)=(_,_)
  rw [hK,hl]
 rw [e]
 apply List.ext_getElem (by rw [List.length_set])
 intro i h1 h2
 rw [List.getElem_set]
 split
 ·rename_i hi;subst hi;rw [List.getElem_map]
 ·rfl
theorem evK_20 {evs:List Ev} {n:Nat} (h:n<evs.length) {K:List Stp} (hK:K.length≤20)(h20:∀ e∈evs,e.stops.length≤20):∀ e∈evK evs n K,e.stops.length≤20:=by
 intro e he
 rw [evK_at h]at he
 rcases List.mem_or_eq_of_mem_set he with he|rfl
 ·exact h20 e he
 ·exact hK
theorem evK_rowsO {evs:List Ev} {n:Nat} (h:n<evs.length)(K:List Stp):(evs.map eEvO).set n ((eEvO evs[n]).set 5 (.ow 48 5 (K.map eStp)))=(evK evs n K).map eEvO:=by
 rw [evK_at h,List.map_set];rfl
theorem evK_rows {evs:List Ev} {n:Nat} (h:n<evs.length)(K:List Stp):(evs.map eEv).set n ((eEv evs[n]).set 5 (.ls 5 (K.map eStp)))=(evK evs n K).map eEv:=by
 rw [evK_at h,List.map_set];rfl
theorem evK_lent {evs:List Ev} {n:Nat} (h:n<evs.length)(K:List Stp):((evs.map eEvO).map fun r=>r.map (AV.fz 1)).set n (((eEvO evs[n]).map (AV.fz 1)).set 5 (.ls 5 (K.map eStp)))=(evK evs n K).map eEv:=by
 rw [eEvO_rows,eEvO_fz];exact evK_rows h K
theorem evO_at {evs:List Ev} {n:Nat} (h:n<evs.length):(evs.map eEvO)[n]?=some (eEvO evs[n]):=by rw [List.getElem?_map,List.getElem?_eq_getElem h];rfl
theorem stpK_row {K:List Stp} {j:Nat} {x:Stp} (h:K[j]?=some x):(K.map eStp)[j]?=some (eStp x):=by rw [List.getElem?_map,h];rfl
theorem stpK_put {K:List Stp} {j:Nat} (x:Stp)(h:Int):(K.map eStp).set j (putL 4 [.sc (.int .i64 h)] (eStp x))=(K.set j (stH x h)).map eStp:=by rw [List.map_set];rfl
theorem set_crs {K:List Stp} {j:Nat} {x:Stp} (h:K[j]?=some x)(z:Int):(K.set j (stH x z)).map (fun x=>x.1)=K.map fun x=>x.1:=by
 rw [List.map_set]
 have hj:j<K.length:=(List.getElem?_eq_some_iff.1 h).1
 have e:(stH x z).1=(K.map fun x=>x.1)[j]'(by rw [List.length_map];exact hj):=by
  rw [List.getElem_map]
  rw [List.getElem?_eq_getElem hj]at h
  rw [Option.some.inj h];rfl
 rw [e,List.set_getElem_self]
theorem fnK_crs (H:Nat→Stp→Int)(n j:Nat)(l:List Stp):(fnK H n j l).map (fun x=>x.1)=l.map fun x=>x.1:=by
 unfold fnK
 rw [List.map_append,List.map_map,show ((fun x:Stp=>x.1) ∘ fun y=>stH y (H n y))=fun x:Stp=>x.1 from rfl,← List.map_append,List.take_append_drop]
theorem fnN_0at {H:Nat→Stp→Int} {evs:List Ev} {n:Nat} (h:n<evs.length):(fnN H evs n 0)[n]'(by rw [fnN_len];exact h)=evs[n]:=by
 simp only [fnN,List.getElem_mapIdx]
 simp
theorem evK_done {H:Nat→Stp→Int} {evs:List Ev} {n:Nat} (h:n<evs.length):evK (fnN H evs n 0) n (fnK H n evs[n].stops.length evs[n].stops)=fnN H evs (n+1) 0:=by
 rw [evK_at (by rw [fnN_len];exact h)]
 apply List.ext_getElem (by rw [List.length_set,fnN_len,fnN_len])
 intro i h1 h2
 have hi:i<evs.length:=by rw [fnN_len] at h2;exact h2
 rw [List.getElem_set]
 simp only [fnN,List.getElem_mapIdx]
 by_cases e:n=i
 ·subst e
  simp [fnE,fnK]
 ·rw [if_neg e]
  by_cases e2:i<n
  ·rw [if_pos e2,if_pos (by omega)]
  ·rw [if_neg e2,if_neg (fun h=>e h.symm),if_neg (by omega)]
   by_cases e3:i=n+1
   ·subst e3;simp
   ·rw [if_neg e3]
theorem fnN_20 {H:Nat→Stp→Int} {evs:List Ev} (h20:∀ e∈evs,e.stops.length≤20)(n k:Nat):∀ e∈fnN H evs n k,e.stops.length≤20:=by
 intro e he
 obtain⟨i,hi,rfl⟩:=List.getElem_of_mem he
 have hi':i<evs.length:=by rw [fnN_len]at hi;exact hi
 rw [fnN_stops hi']
 exact h20 _ (List.getElem_mem hi')
end
section
open Go.RowKit
theorem cur_le_e {mem s:Nat→Bool} {e:Nat} (h:∀ i,e≤i→mem i=true→s i=false):∀ {m:Nat},cur mem s m≤e
 | 0=>Nat.zero_le _
 | m+1=>by
  unfold cur
  split
  ·rename_i x
   rcases Nat.lt_or_ge m e with h5|h5
   ·omega
   ·have:=h m h5 x.1
    rw [x.2]at this;cases this
  ·exact cur_le_e h
section
variable {P:Program} {C:Cx} {σ σ':St} {G G':Gh} {a:Act} {w w':World} {ops:Array Oper} {Q:Exit→St→Prop}
inductive DT (P:Program) (C:Cx) (ops:Array Oper) (mem:List Bool) (Mc McB:List (Nat×AO)) (e0 nk0:Nat):Nat→List Oper→St→St→Prop
 | nil (k:Nat) (σ:St):DT P C ops mem Mc McB e0 nk0 k [] σ σ
 | val (k:Nat) (o:Oper) (rest:List Oper) (d:Tmp) (av:AV) (nk:Nat) (mc:List (Nat×AO)) (σ σ':St):(mc=Mc∨(mc=McB∧needs ops k ops.size e0=true))→mem.getD k false=false→o.dst=some d→Nat.blt d C.N=true→(nk=nk0∨(nk=σ.nk∧behindB ops mem k=true))→DoesV P C ops o σ.t mc nk av →
   DT P C ops mem Mc McB e0 nk0 (k+1) rest (σ.put d av) σ'→DT P C ops mem Mc McB e0 nk0 k (o::rest) σ σ'
 | mem (k:Nat) (o:Oper) (rest:List Oper) (av:AV) (M':List (Nat×AO)) (nk':Nat) (σ σ':St):mem.getD k false=true→Nat.ble σ.nk nk'=true→msSub Mc M'→(Nat.blt k e0=true→msSub McB M')→DoesS P C ops o σ av M' nk' →
   DT P C ops mem Mc McB e0 nk0 (k+1) rest ⟨ent1 o.dst true av++σ.t,M',nk'⟩ σ'→DT P C ops mem Mc McB e0 nk0 k (o::rest) σ σ'
theorem DT.data {mem:List Bool} {Mc McB:List (Nat×AO)} {e0 nk0 k:Nat} {l:List Oper} {σ σ':St} (h:DT P C ops mem Mc McB e0 nk0 k l σ σ'):∃ (avs:Nat→AV) (ms:Nat→List (Nat×AO)) (nks:Nat→Nat),ms 0=σ.M∧nks 0=σ.nk ∧
  σ'=⟨ents l.toArray avs (fun _=>true) l.length++σ.t,ms l.length,nks l.length⟩ ∧
  ∀ (j:Nat) (oj:Oper),l[j]?=some oj →
   ((mem.getD (k+j) false=false∧(∃ d,oj.dst=some d∧d<C.N)∧ms (j+1)=ms j∧nks (j+1)=nks j∧∃ nk mc,(mc=Mc∨(mc=McB∧needs ops (k+j) ops.size e0=true))∧(nk=nk0∨(nk=nks j∧behindB ops mem (k+j)=true))∧DoesV P C ops oj (ents l.toArray avs (fun _=>true) j++σ.t) mc nk (avs j)) ∨
    (mem.getD (k+j) false=true∧nks j≤nks (j+1)∧msSub Mc (ms (j+1))∧(Nat.blt (k+j) e0=true→msSub McB (ms (j+1)))∧DoesS P C ops oj ⟨ents l.toArray avs (fun _=>true) j++σ.t,ms j,nks j⟩ (avs j) (ms (j+1)) (nks (j+1)))):=by
 have key:∀ (o:Oper) (rest:List Oper) (av:AV) (avs:Nat→AV),∀ m,m≤rest.length→ents (o::rest).toArray (fun j=>if j=0 then av else avs (j-1)) (fun _=>true) (m+1)=ents rest.toArray avs (fun _=>true) m++ent1 o.dst true av:=by
  intro o rest av avs m
  induction m with
  | zero=>intro _;simp [ents]
  | succ m ihm =>
   intro hm
   rw [ents,ihm (by omega),ents]
   simp
 induction h with
 | nil k σ=>exact ⟨fun _=>.sc undef,fun _=>σ.M,fun _=>σ.nk,rfl,rfl,rfl,fun j oj h=>by simp at h⟩
 | val k o rest d av nk mc σ σ' hmc0 hm hd hN hq hdo _ ih =>
  obtain ⟨avs,ms,nks,m0,n0,e1,e2⟩:=ih
  have hent:ent1 o.dst true av=[(d,av)]:=by rw [hd];rfl
  refine ⟨fun j=>if j=0 then av else avs (j-1),fun j=>if j=0 then σ.M else ms (j-1),fun j=>if j=0 then σ.nk else nks (j-1),rfl,rfl,?_,fun j oj hj=>?_⟩
  ·rw [e1,List.length_cons,key o rest av avs _ (Nat.le_refl _),hent]
   simp [St.put]
  ·cases j with
   | zero =>
    cases hj
    exact .inl ⟨hm,⟨d,hd,of_blt hN⟩,m0,n0,nk,mc,hmc0,hq,by simpa [ents] using hdo⟩
   | succ j =>
    have hj':rest[j]?=some oj:=by simpa using hj
    have q2:=e2 j oj hj'
    rw [key o rest av avs j (by have:=(List.getElem?_eq_some_iff.1 hj').1;omega),hent]
    simpa [St.put,Nat.add_assoc,Nat.add_comm 1 j] using q2
 | mem k o rest av M' nk' σ σ' hm hn hsub hsubB hdo _ ih =>
  obtain ⟨avs,ms,nks,m0,n0,e1,e2⟩:=ih
  refine ⟨fun j=>if j=0 then av else avs (j-1),fun j=>if j=0 then σ.M else ms (j-1),fun j=>if j=0 then σ.nk else nks (j-1),rfl,rfl,?_,fun j oj hj=>?_⟩
  ·rw [e1,List.length_cons,key o rest av avs _ (Nat.le_refl _)]
   simp
  ·cases j with
   | zero =>
    cases hj
    refine .inr ⟨hm,?_,?_,?_,?_⟩
    ·show σ.nk≤nks 0
     rw [n0];exact Nat.le_of_ble_eq_true hn
    ·show msSub Mc (ms 0)
     rw [m0];exact hsub
    ·show _→msSub McB (ms 0)
     rw [m0];exact hsubB
    ·show DoesS P C ops o _ av (ms 0) (nks 0)
     rw [m0,n0];simpa [ents] using hdo
   | succ j =>
    have hj':rest[j]?=some oj:=by simpa using hj
    have q2:=e2 j oj hj'
    rw [key o rest av avs j (by have:=(List.getElem?_eq_some_iff.1 hj').1;omega)]
    simpa [Nat.add_assoc,Nat.add_comm 1 j] using q2
theorem WA.drawT2 {l:List Oper} (mem:List Bool) (Mc McB:List (Nat×AO)) (e0:Nat) (hlast:∀ i,e0 < i→i < l.length→mem.getD i false=false) (hB:Region.lexB .any l.toArray=true) (hch:chainB l.toArray mem=true) (hMc:msSub Mc σ.M) (hMcB:msSub McB σ.M) (h:DT P C l.toArray mem Mc McB e0 σ.nk 0 l σ σ') (k:Q .normal σ'):WA P C l.toArray σ Q:=by
 intro G a w ok
 obtain ⟨avs,ms,nks,m0,n0,e1,e2⟩:=h.data
 simp only [Nat.zero_add] at e2
 simp only [Region.lexB,Bool.and_eq_true] at hB
 obtain ⟨FA,FB⟩:=lex_facts (ops:=l.toArray) l.toArray.size 0 (Array.replicate l.toArray.size false) (by simp) (by simp) (fun i hi=>by simp [Array.getD_eq_getD_getElem?,hi] at hi ⊢;simp [hi]) hB.2
 have sz:l.toArray.size=l.length:=by simp
 have mconst:∀ i,i < l.length→mem.getD i false=false→ms (i+1)=ms i∧nks (i+1)=nks i:=fun i hi hf=>by
  have q:=e2 i l[i] (List.getElem?_eq_getElem hi)
  rcases q with ⟨_,_,a,b,_⟩|⟨a,_⟩
  ·exact ⟨a,b⟩
  ·rw [hf] at a;cases a
 have mmono:∀ i,i < l.length→nks i≤nks (i+1):=fun i hi=>by
  have q:=e2 i l[i] (List.getElem?_eq_getElem hi)
  rcases q with ⟨_,_,_,b,_⟩|⟨_,b,_⟩
  ·rw [b];exact Nat.le_refl _
  ·exact b
 have hnp0:C.np≤nks 0:=by rw [n0];exact ok.df.2.1
 have hnpj:∀ i,i≤l.length→C.np≤nks i:=fun i=>by
  induction i with
  | zero=>exact fun _=>hnp0
  | succ i ih=>exact fun h=>Nat.le_trans (ih zqo) (mmono i zqo)
 have msub:∀ i,i≤l.length→msSub Mc (ms i):=fun i=>by
  induction i with
  | zero=>intro _;rw [m0];exact hMc
  | succ i ih =>
   intro hi
   have q:=e2 i l[i] (List.getElem?_eq_getElem (by omega))
   rcases q with ⟨_,_,a,_⟩|⟨_,_,a,_⟩
   ·rw [a];exact ih (by omega)
   ·exact a
 have msubB:∀ i,i≤l.length→i≤e0→msSub McB (ms i):=fun i=>by
  induction i with
  | zero=>intro _ _;rw [m0];exact hMcB
  | succ i ih =>
   intro hi hie
   have q:=e2 i l[i] (List.getElem?_eq_getElem (by omega))
   rcases q with ⟨_,_,a,_⟩|⟨_,_,_,a,_⟩
   ·rw [a];exact ih (by omega) (by omega)
   ·exact a (Nat.ble_eq_true_of_le hie)
 have hchj:∀ j,j < l.length→mem.getD j false=true→behindB l.toArray mem j=true:=fun j hj hmj=>by
  have h1:(!(mem.getD j false)|| behindB l.toArray mem j)=true:=List.all_eq_true.1 hch j (by simpa using hj)
  rw [hmj] at h1;exact h1
 have hbeh:∀ i j,i < j→behindB l.toArray mem j=true→mem.getD i false=true→needs l.toArray i l.toArray.size j=true:=fun i j hij hb hmi=>by
  have h1:(!(mem.getD i false)|| needs l.toArray i l.toArray.size j)=true:=List.all_eq_true.1 hb i (List.mem_range.2 hij)
  rw [hmi] at h1;exact h1
 let cu:Array Bool→Nat:=fun listed=>cur (fun i=>mem.getD i false) (fun i=>listed.getD i false) l.length
 let KS:Array Bool→St:=fun listed=>⟨ents l.toArray avs (fun i=>listed.getD i false) l.length++σ.t,ms (cu listed),nks (cu listed)⟩
 have key:∀ (fuel:Nat) (listed:Array Bool) (G:Gh) (a:Act) (w:World),listed.size=l.length→(∀ j oj,l.toArray[j]?=some oj→listed.getD j false=true→∀ e∈oj.after,Region.binds .any e=true→listed.getD e.on false=true) →
   (List.range l.length).countP (fun i=>!listed.getD i false)≤fuel→Ok C (KS listed) G a w→wpAny P .any l.toArray (Post C Q) fuel listed a w:=by
  intro fuel
  have done:∀ (listed:Array Bool) (G:Gh) (a:Act) (w:World),listed.size=l.length→Region.ready .any l.toArray listed=[]→Ok C (KS listed) G a w→Post C Q .normal a w:=by
   intro listed G a w hsz hr ok
   have hall:∀ n i,i < n→i < l.length→listed.getD i false=true:=by
    intro n
    induction n with
    | zero=>intro i h;omega
    | succ n ih =>
     intro i hi hlt
     by_cases e:i < n
     ·exact ih i e hlt
     ·have hin:i=n:=by omega
      subst hin
      cases hli:listed.getD i false with
      | true=>rfl
      | false =>
       have hoi:l.toArray[i]?=some l[i]:=by simp [hlt]
       have:i∈Region.ready .any l.toArray listed:=mem_ready.2 ⟨by
        have:listed.getD i true=listed.getD i false:=by simp [Array.getD_eq_getD_getElem?,hsz,hlt]
        rw [this];exact hli,l[i],hoi,fun e he hb=>ih e.on (FA i l[i] (Nat.zero_le _) hoi e he hb) (by have:=FA i l[i] (Nat.zero_le _) hoi e he hb;omega)⟩
       rw [hr] at this;cases this
   have hcu:ms (cu listed)=ms l.length∧nks (cu listed)=nks l.length:=by
    have hs:∀ i,i < l.length→(fun i=>mem.getD i false) i=true→(fun i=>listed.getD i false) i=decide (i < l.length):=fun i hi _=>by
     show listed.getD i false=_
     rw [hall (i+1) i (by omega) hi,decide_eq_true hi]
    have h1:=cur_at (f:=ms) (fun i hi hf=>(mconst i hi hf).1) hs l.length (Nat.le_refl _)
    have h2:=cur_at (f:=nks) (fun i hi hf=>(mconst i hi hf).2) hs l.length (Nat.le_refl _)
    rw [Nat.min_self] at h1 h2
    exact ⟨h1,h2⟩
   refine ⟨σ',G,k,ok.congr_ (fun t=>?_) (by rw [e1];exact hcu.1.symm) (by rw [e1];exact hcu.2.symm)⟩
   rw [e1]
   show look t (_++_)=look t (_++_)
   rw [look_app,look_app,ents_agree (s':=fun i=>listed.getD i false) fun i hi _=>(hall (i+1) i (by omega) hi).symm]
  induction fuel with
  | zero =>
   intro listed G a w hsz hcl hf ok
   have hr:Region.ready .any l.toArray listed=[]:=by
    apply List.eq_nil_iff_forall_not_mem.2
    intro j hj
    obtain ⟨h1,oj,h2,_⟩:=mem_ready.1 hj
    have hlt:j < l.length:=by have:=(Array.getElem?_eq_some_iff.1 h2).1;omega
    have h3:listed.getD j false=false:=by
     have:listed.getD j false=listed.getD j true:=by simp [Array.getD_eq_getD_getElem?,hsz,hlt]
     rw [this];exact h1
    have:=List.countP_eq_zero.1 (Nat.le_zero.1 hf) j (List.mem_range.2 hlt)
    simp [h3] at this
   exact ⟨hr,done listed G a w hsz hr ok⟩
  | succ fuel ih =>
   intro listed G a w hsz hcl hf ok
   refine ⟨fun hr=>done listed G a w hsz hr ok,fun j hj=>?_⟩
   obtain ⟨h1,oj,h2,h4⟩:=mem_ready.1 hj
   have hlt:j < l.length:=by have:=(Array.getElem?_eq_some_iff.1 h2).1;omega
   have h3:listed.getD j false=false:=by
    have:listed.getD j false=listed.getD j true:=by simp [Array.getD_eq_getD_getElem?,hsz,hlt]
    rw [this];exact h1
   have hlj:l[j]?=some oj:=by simpa using h2
   have hdoes:=e2 j oj hlj
   have hlook:∀ t∈oj.looksAt l.toArray,∀ i,i < l.length→(l.toArray[i]?).bind (·.dst)=some t→listed.getD i false=decide (i < j):=by
    intro t ht i hi hdi
    have hoi:l.toArray[i]?=some l[i]:=by simp [hi]
    rw [hoi] at hdi
    have hdi:l[i].dst=some t:=hdi
    rcases Nat.lt_trichotomy i j with hij|hij|hij
    ·rw [decide_eq_true hij]
     by_cases hno:∃ e,e∈oj.after∧Region.binds .any e=true∧e.on=i
     ·obtain ⟨e,he,hb,rfl⟩:=hno
      exact h4 e he hb
     ·exact absurd ht ((Oper.apart_spec (FB i j _ _ (Nat.zero_le _) hij hoi h2 fun e he hb h=>hno ⟨e,he,hb,h⟩)).1 t hdi)
    ·subst hij;rw [h3];simp
    ·rw [decide_eq_false (by omega)]
     cases hli:listed.getD i false with
     | false=>rfl
     | true =>
      by_cases hno:∃ e,e∈(l[i]).after∧Region.binds .any e=true∧e.on=j
      ·obtain ⟨e,he,hb,he2⟩:=hno
       have:=hcl i _ hoi hli e he hb
       rw [he2,h3] at this;cases this
      ·exact absurd ht ((Oper.apart_spec (FB j i _ _ (Nat.zero_le _) hij h2 hoi fun e he hb h=>hno ⟨e,he,hb,h⟩)).2.2 t hdi)
   have hents:∀ t,look t (ents l.toArray avs (fun _=>true) j)=look t (ents l.toArray avs (fun i=>decide (i < j)) l.length):=by
    intro t
    have:∀ m,j≤m→look t (ents l.toArray avs (fun i=>decide (i < j)) m)=look t (ents l.toArray avs (fun i=>decide (i < j)) j):=by
     intro m
     induction m with
     | zero=>intro h;rw [Nat.le_zero.1 h]
     | succ m ihm =>
      intro h
      by_cases e:j=m+1
      ·rw [e]
      ·rw [ents,look_app,look_ent1,if_neg (fun x=>by have:=of_decide_eq_true x.1;omega),ihm (by omega)];rfl
    rw [this l.length (by omega)]
    exact ents_agree fun i hi _=>(decide_eq_true hi).symm
   have hlooks:∀ t∈oj.looksAt l.toArray,look t (KS listed).t=look t (ents l.toArray avs (fun _=>true) j++σ.t):=fun t ht=>by
    show look t (_++_)=look t (_++_)
    rw [look_app,look_app,hents t,ents_agree fun i hi hdi=>(hlook t ht i hi hdi)]
   have hslots:∀ t,look t (ents l.toArray avs (fun i=>(listed.setIfInBounds j true).getD i false) l.length++σ.t)=look t (ent1 oj.dst true (avs j)++(KS listed).t):=by
    intro t
    by_cases et:oj.dst=some t
    ·have hR:look t (ent1 oj.dst true (avs j)++(KS listed).t)=some (avs j):=by
      rw [look_app,look_ent1,if_pos ⟨rfl,et⟩];rfl
     rw [hR,look_app,ents_top (j:=j) hlt (by rw [h2];exact et) (by simp [Array.getD_eq_getD_getElem?,hsz,hlt]) fun i hij hi hdi=>?_]
     ·rfl
     ·have hoi:l.toArray[i]?=some l[i]:=by simp [hi]
      rw [hoi] at hdi
      have hdi:l[i].dst=some t:=hdi
      have hne:j≠i:=by omega
      cases hli:listed.getD i false with
      | false=>simpa [Array.getD_eq_getD_getElem?,Array.getElem?_setIfInBounds_ne hne] using hli
      | true =>
       by_cases hno:∃ e,e∈(l[i]).after∧Region.binds .any e=true∧e.on=j
       ·obtain ⟨e,he,hb,he2⟩:=hno
        have:=hcl i _ hoi hli e he hb
        rw [he2,h3] at this;cases this
       ·exact absurd hdi ((Oper.apart_spec (FB j i _ _ (Nat.zero_le _) hij h2 hoi fun e he hb h=>hno ⟨e,he,hb,h⟩)).2.1 t et)
    ·have hR:look t (ent1 oj.dst true (avs j)++(KS listed).t)=look t (KS listed).t:=by
      rw [look_app,look_ent1,if_neg (fun x=>et x.2)];rfl
     rw [hR]
     show _=look t (_++_)
     rw [look_app,look_app]
     congr 1
     refine ents_agree fun i hi hdi=>?_
     by_cases e2:j=i
     ·subst e2
      rw [h2] at hdi
      exact absurd hdi et
     ·simp [Array.getD_eq_getD_getElem?,Array.getElem?_setIfInBounds_ne e2]
   have hset:∀ i,j≠i→(listed.setIfInBounds j true).getD i false=listed.getD i false:=fun i e=>by simp [Array.getD_eq_getD_getElem?,Array.getElem?_setIfInBounds_ne e]
   have hsetj:(listed.setIfInBounds j true).getD j false=true:=by simp [Array.getD_eq_getD_getElem?,hsz,hlt]
   have hclose:∀ i oi,l.toArray[i]?=some oi→(listed.setIfInBounds j true).getD i false=true→∀ e∈oi.after,Region.binds .any e=true→(listed.setIfInBounds j true).getD e.on false=true:=by
    intro i oi hi hli e he hb
    have mono:∀ q,listed.getD q false=true→(listed.setIfInBounds j true).getD q false=true:=fun q hq=>by
     by_cases e:j=q
     ·subst e;rw [hq] at h3;cases h3
     ·rw [hset q e];exact hq
    by_cases e2:j=i
    ·subst e2
     rw [h2] at hi;cases hi
     exact mono _ (h4 e he hb)
    ·refine mono _ (hcl i oi hi ?_ e he hb)
     rw [← hset i e2];exact hli
   have hcount:(List.range l.length).countP (fun i=>!(listed.setIfInBounds j true).getD i false)≤fuel:=by
    have:=countP_lt (p:=fun i=>!listed.getD i false) (q:=fun i=>!(listed.setIfInBounds j true).getD i false) (fun i hi=>by
       by_cases e:j=i
       ·subst e;rw [hsetj] at hi;cases hi
       ·rw [hset i e] at hi;exact hi) hlt (by simp only [h3];rfl) (by simp only [hsetj];rfl)
    omega
   unfold wpOp
   simp only [h2]
   rcases hdoes with ⟨hmf,⟨d,hd,hdN⟩,hmc,hnc,nk,mc,hmcs,hnk,hmi,hti,hdo⟩|⟨hmt,hnle,hsub,_,hgd,hdo⟩
   ·-- memory stays
    have hot:onlyT (KS listed).t (oj.looksAt l.toArray)=onlyT (ents l.toArray avs (fun _=>true) j++σ.t) (oj.looksAt l.toArray):=onlyT_congr hlooks
    have hnkle:nk≤nks (cu listed):=by
     rcases hnk with rfl|⟨rfl,hbj⟩
     ·have:=cur_ge (f:=nks) (j:=0) (s:=fun i=>listed.getD i false) (mem:=fun i=>mem.getD i false) (fun i hi hf=>(mconst i hi hf).2) mmono (fun i _ h=>by omega) l.length (Nat.le_refl _)
      rw [Nat.min_zero,n0] at this
      exact this
     ·have:=cur_ge (f:=nks) (j:=j) (s:=fun i=>listed.getD i false) (mem:=fun i=>mem.getD i false) (fun i hi hf=>(mconst i hi hf).2) mmono (fun i hi hij hmi=>needs_ready hcl h2 h4 _ (hbeh i j hij hbj hmi)) l.length (Nat.le_refl _)
      rw [show min l.length j=j by omega] at this
      exact this
    have hsubc:msSub mc (ms (cu listed)):=by
     rcases hmcs with rfl|⟨rfl,hne⟩
     ·exact msub _ (cur_le _)
     ·refine msubB _ (cur_le _) (cur_le_e fun i hi hmi=>?_)
      by_cases e:i < l.length
      ·rcases Nat.lt_or_ge e0 i with h5|h5
       ·rw [hlast i h5 e] at hmi;cases hmi
       ·obtain rfl:i=e0:=by omega
        cases hli:listed.getD i false with
        | false=>rfl
        | true =>
         have:=needs_listed hcl _ _ hne hli
         rw [h3] at this;cases this
      ·have:mem.getD i false=true:=hmi
       cases hli:listed.getD i false with
       | false=>rfl
       | true=>simp [Array.getD_eq_getD_getElem?,hsz,e] at hli
    have okO:Ok C ⟨onlyT (ents l.toArray avs (fun _=>true) j++σ.t) (oj.looksAt l.toArray),mc,nk⟩ G a w :=
     ok.few (hnp:=by rcases hnk with h|⟨h,_⟩<;>rw [h]<;>first|exact hnpj j (by omega)|(rw [← n0];exact hnp0)) (ht:=fun i av hx=>⟨by rw [← hot] at hx;exact look_onlyT hx,tsInn_at hti i av hx⟩) (hM:=fun q o hx=>⟨msSub_at hsubc q o hx,(msInn_at hmi q o hx).1,(msInn_at hmi q o hx).2⟩)
    have next:∀ (v:Value) (G':Gh) (w':World),Ok C (KS listed) G' a w'→R G' (avs j) v→Bd nk (avs j)→wpAny P .any l.toArray (Post C Q) fuel (listed.setIfInBounds j true) (a.put oj.dst v) w':=by
     intro v G' w' ok' hr hb
     have ok2:=ok'.set (d:=some d) hr (hb.mono hnkle) fun x hx=>by cases hx;exact hdN
     rw [hd]
     have hcu:cu (listed.setIfInBounds j true)=cu listed:=cur_congr fun i hi hmi=>by
      by_cases e:j=i
      ·subst e;rw [hmf] at hmi;cases hmi
      ·exact hset i e
     exact ih (listed.setIfInBounds j true) G' _ w' (by simpa using hsz) hclose hcount (ok2.congr_ (fun t=>by rw [hslots t,hd];rfl) (by show ms _=ms _;rw [hcu]) (by show nks _=nks _;rw [hcu]))
    rcases hdo with ⟨hg,hv⟩|⟨hg,hv⟩
    ·rw [if_pos (guardK_wanted okO hg)]
     exact .inl (hv G a w okO _ _ fun v G' w' hk hr hb=>next v G' w' (hk _ _ ok) hr hb)
    ·rw [if_neg (by rw [guardK_wanted okO hg];simp)]
     exact next undef G w ok (by rw [hv];exact .pu _ _ (.sc _)) (by rw [hv];exact .sc _)
   ·-- memory is written
    have hbj:=hchj j hlt hmt
    have hst:∀ i,i < l.length→mem.getD i false=true→listed.getD i false=decide (i < j):=fun i hi hmi=>by
     rcases Nat.lt_trichotomy i j with hij|hij|hij
     ·rw [decide_eq_true hij]
      exact needs_ready hcl h2 h4 _ (hbeh i j hij hbj hmi)
     ·subst hij;rw [h3];simp
     ·rw [decide_eq_false (by omega)]
      cases hli:listed.getD i false with
      | false=>rfl
      | true =>
       have:=needs_listed hcl _ _ (hbeh j i hij (hchj i hi hmi) hmt) hli
       rw [h3] at this;cases this
    have hM:ms (cu listed)=ms j∧nks (cu listed)=nks j:=by
     have h1:=cur_at (f:=ms) (fun i hi hf=>(mconst i hi hf).1) hst l.length (Nat.le_refl _)
     have h2:=cur_at (f:=nks) (fun i hi hf=>(mconst i hi hf).2) hst l.length (Nat.le_refl _)
     rw [show min l.length j=j by omega] at h1 h2
     exact ⟨h1,h2⟩
    have hst':∀ i,i < l.length→mem.getD i false=true→(listed.setIfInBounds j true).getD i false=decide (i < j+1):=fun i hi hmi=>by
     by_cases e:j=i
     ·subst e;rw [hsetj];simp
     ·rw [hset i e,hst i hi hmi]
      have:(i < j)↔(i < j+1):=by omega
      simp [this]
    have hM':ms (cu (listed.setIfInBounds j true))=ms (j+1)∧nks (cu (listed.setIfInBounds j true))=nks (j+1):=by
     have h1:=cur_at (f:=ms) (fun i hi hf=>(mconst i hi hf).1) hst' l.length (Nat.le_refl _)
     have h2:=cur_at (f:=nks) (fun i hi hf=>(mconst i hi hf).2) hst' l.length (Nat.le_refl _)
     rw [show min l.length (j+1)=j+1 by omega] at h1 h2
     exact ⟨h1,h2⟩
    rw [if_pos (by simp [Region.wanted,hgd])]
    have ok1:Ok C ⟨(KS listed).t,ms j,nks j⟩ G a w:=ok.congr_ (fun _=>rfl) (by exact hM.1.symm) (by exact hM.2.symm)
    refine .inl (hdo (KS listed).t hlooks G a w ok1 _ _ fun G' a' w' ok'=>?_)
    exact ih (listed.setIfInBounds j true) G' a' w' (by simpa using hsz) hclose hcount (ok'.congr_ hslots (by exact hM'.1) (by exact hM'.2))
 have hcu0:cu (Array.replicate l.toArray.size false)=0:=by
  have:∀ m,cur (fun i=>mem.getD i false) (fun i=>(Array.replicate l.toArray.size false).getD i false) m=0:=by
   intro m
   induction m with
   | zero=>rfl
   | succ m ih=>unfold cur;rw [if_neg (fun x=>by have:=x.2;rw [rep_getD] at this;cases this),ih]
  exact this _
 refine key _ (Array.replicate l.toArray.size false) G a _ (by simp) (fun j oj _ h=>?_) ?_ (ok.drew.congr_ (fun t=>?_) (by show ms _=_;rw [hcu0,m0]) (by show nks _=_;rw [hcu0,n0]))
 ·rw [rep_getD] at h;cases h
 ·rw [sz]
  exact Nat.le_trans List.countP_le_length (by simp)
 ·show look t (_++_)=_
  rw [look_app,ents_none fun i hi _=>?_]
  ·rfl
  ·exact rep_getD _ _
end
section
variable {B:World→View→Prop} {gl:Nat} {P:Program} {C:Cx} {σ:St} {o:Oper} {d:Tmp} {av:AV} {ops:Array Oper} {rest l:List Oper} {Q:Exit→St→Prop} {mem:List Bool} {Mc McB:List (Nat×AO)} {e0 nk0 k:Nat}
def DTK (P:Program)(C:Cx)(ops:Array Oper)(mem:List Bool)(Mc McB:List (Nat×AO))(e0 nk0 k:Nat)(l:List Oper)(σ:St)(Q:Exit→St→Prop):Prop:=∃ σ',DT P C ops mem Mc McB e0 nk0 k l σ σ'∧Q .normal σ'
theorem DTK.nil(h:Q .normal σ):DTK P C ops mem Mc McB e0 nk0 k [] σ Q:=⟨σ,.nil k σ,h⟩
theorem DTK.vl (hd:memB C.N ops mem McB k nk0 σ.t o=some (d,true)) (hn:needs ops k ops.size e0=true) (h:WV P C o ⟨onlyT σ.t (o.looksAt ops),McB,nk0⟩ av) (r:DTK P C ops mem Mc McB e0 nk0 (k+1) rest (σ.put d av) Q):DTK P C ops mem Mc McB e0 nk0 k (o::rest) σ Q:=by
 obtain ⟨a,b,c,e,f,g⟩:=memB_of hd
 obtain ⟨s,x,y⟩:=r
 exact ⟨s,.val k o rest d av nk0 McB σ s (.inr ⟨rfl,hn⟩) a b c (.inl rfl) ⟨e,f,.inl ⟨g,h⟩⟩ x,y⟩
theorem DTK.v0 (hd:memB C.N ops mem Mc k nk0 σ.t o=some (d,true)) (h:WV P C o ⟨onlyT σ.t (o.looksAt ops),Mc,nk0⟩ av) (r:DTK P C ops mem Mc McB e0 nk0 (k+1) rest (σ.put d av) Q):DTK P C ops mem Mc McB e0 nk0 k (o::rest) σ Q:=by
 obtain ⟨a,b,c,e,f,g⟩:=memB_of hd
 obtain ⟨s,x,y⟩:=r
 exact ⟨s,.val k o rest d av nk0 Mc σ s (.inl rfl) a b c (.inl rfl) ⟨e,f,.inl ⟨g,h⟩⟩ x,y⟩
theorem DTK.wr {M':List (Nat×AO)} {nk':Nat} (av:AV) (hm:mem.getD k false=true) (hn:Nat.ble σ.nk nk'=true) (hs:msSub Mc M') (hsB:Nat.blt k e0=true→msSub McB M') (h:DoesS P C ops o σ av M' nk') (r:DTK P C ops mem Mc McB e0 nk0 (k+1) rest ⟨ent1 o.dst true av++σ.t,M',nk'⟩ Q):DTK P C ops mem Mc McB e0 nk0 k (o::rest) σ Q:=by
 obtain ⟨s,x,y⟩:=r
 exact ⟨s,.mem k o rest av M' nk' σ s hm hn hs hsB h x,y⟩
theorem DTK.st (hd:memB C.N ops mem McB k nk0 σ.t o=some (d,true)) (hn:needs ops k ops.size e0=true) (h:stepV P ⟨onlyT σ.t (o.looksAt ops),McB,nk0⟩ o.op=some av) (r:DTK P C ops mem Mc McB e0 nk0 (k+1) rest (σ.put d av) Q):DTK P C ops mem Mc McB e0 nk0 k (o::rest) σ Q:=DTK.vl hd hn (stepV_of rfl h) r
theorem DTK.ldr {rows:List (List AV)} {i j:Nat} {r:List AV} {av:AV} (hd:memB C.N ops mem McB k nk0 σ.t o=some (d,true)) (hn:needs ops k ops.size e0=true) (h:ldrV P ⟨onlyT σ.t (o.looksAt ops),McB,nk0⟩ o.op=some (rows,i,j)) (hi:rows[i]?=some r) (hj:r[j]?=some av) (ho2:av.own=false)
  (K:DTK P C ops mem Mc McB e0 nk0 (k+1) rest (σ.put d av) Q):DTK P C ops mem Mc McB e0 nk0 k (o::rest) σ Q:=DTK.vl hd hn (ldrV_of h hi hj ho2) K
theorem DTK.ar {φ:Prop} {z:Int} (hd:memB C.N ops mem McB k nk0 σ.t o=some (d,true)) (hn:needs ops k ops.size e0=true) (h:sideV ⟨onlyT σ.t (o.looksAt ops),McB,nk0⟩ o.op=some (φ,z)) (hφ:φ) (r:DTK P C ops mem Mc McB e0 nk0 (k+1) rest (σ.put d (.sc (.int .i64 z))) Q):DTK P C ops mem Mc McB e0 nk0 k (o::rest) σ Q:=DTK.vl hd hn (sideV_of h hφ) r
theorem DTK.sto {T m:Nat} {x y:Operand} {q i j:Nat} {ob ob':AO} {l:List AV} {M2:List (Nat×AO)} (hm:mem.getD k false=true) (hg:o.guard=none) (hds:o.dst=none) (ho:o.op=.store T x y) (hn:sizeB P T=some m) (hx:σ.ev x=some (.pt q i j)) (hk:look q σ.M=some ob) (hy:σ.ev y=some av)
  (hB:av.cellB=true) (hl:av.cells=l) (hlm:l.length=m) (h1:l.all AV.oneB=true) (hp:ob.put i j l=some ob') (hM:remS q σ.M=some M2) (hs:msSub Mc ((q,ob')::M2)) (hsB:Nat.blt k e0=true→msSub McB ((q,ob')::M2)) (r:DTK P C ops mem Mc McB e0 nk0 (k+1) rest ⟨σ.t,(q,ob')::M2,σ.nk⟩ Q):DTK P C ops mem Mc McB e0 nk0 k (o::rest) σ Q:=by
 have he:∀ av,ent1 o.dst true av=[]:=fun av=>by rw [hds];rfl
 refine DTK.wr (.sc undef) hm (Nat.ble_eq_true_of_le (Nat.le_refl _)) hs hsB ⟨hg,fun t H=>?_⟩ (by rw [he];exact r)
 rw [he]
 have hmem:∀ z∈[x,y],z∈o.op.operands.toList:=fun z hz=>by rw [ho];simp [Op.operands] at hz ⊢;exact hz
 rw [remS_eq hM]
 exact wo_rem (WO.store (σ:=⟨t,σ.M,σ.nk⟩) ho hds hn ((ev_agree H (hmem x (by simp))).trans hx) hk ((ev_agree H (hmem y (by simp))).trans hy) hB hl hlm h1 hp)
theorem DTK.ct (hB:Holds B gl C) {f:FuncId} {args args':List AV} {res res':AV} {M M' M2:List (Nat×AO)} {nk nk' n2:Nat} (ks:List Nat) (hd:wrB mem C.N k o=some d) (he:calE σ o.op=some (f,args')) (hc:∀ vs w,(callFunc f vs).run P w=.ok (.enter f vs) w)
  (h:Cto B gl P f args M nk res M' nk') (hks:ksB ks nk σ.nk=true) (ha:args.map (AV.ren (rhoC ks nk σ.nk))=args') (hp:args.all (AV.inn nk)=true) (hM:TrM σ (rhoC ks nk σ.nk) nk M)
  (hq:(Nat.ble nk nk' && M'.all (fun x=>x.2.inn nk') && M'.all (fun x=>Nat.blt x.1 nk') && res.inn nk')=true) (hr:res.ren (rhoC ks nk σ.nk)=res') (hM2:renM (rhoC ks nk σ.nk) M'++remL ks σ.M=M2) (hn2:σ.nk+(nk'-nk)=n2) (hs:msSub Mc M2) (hsB:Nat.blt k e0=true→msSub McB M2)
  (r:DTK P C ops mem Mc McB e0 nk0 (k+1) rest ⟨(d,res')::σ.t,M2,n2⟩ Q):DTK P C ops mem Mc McB e0 nk0 k (o::rest) σ Q:=by
 subst hM2 hn2
 obtain ⟨a,b,c,e⟩:=wrB_of hd
 have hent:ent1 o.dst true res'=[(d,res')]:=by rw [b];rfl
 simp only [Bool.and_eq_true] at hq
 unfold calE at he
 split at he
 ·rename_i y xs ts ho
  split at he
  ·rename_i fv args0 hy hx
   split at he
   ·rename_i f' caps hf
    cases he
    refine DTK.wr res' a (Nat.ble_eq_true_of_le (Nat.le_add_right _ _)) hs hsB ⟨c,fun t H=>?_⟩ (by rw [hent];exact r)
    rw [hent]
    have hmem:∀ q∈y::xs,q∈o.op.operands.toList:=fun q hq=>by rw [ho];simp [Op.operands,Call.operands] at hq ⊢;exact hq
    have:=WO.cto (P:=P) (C:=C) (σ:=⟨t,σ.M,σ.nk⟩) (xs:=⟨xs⟩) hB ks ho hc ((ev_agree H (hmem y (by simp))).trans hy) hf ((evs_agree H fun q hq=>hmem q (List.mem_cons_of_mem _ hq)).trans hx) rfl h hks ha hp (trM_same (σ:=σ) (σ':=⟨t,σ.M,σ.nk⟩) (ρ:=rhoC ks nk σ.nk) rfl hM) hq.1.1.1 hq.1.1.2 hq.1.2 hq.2 hr (by rw [b];exact e)
    rw [b] at this
    exact this
   ·cases he
  ·cases he
 ·cases he
theorem DTK.of_m {M':List (Nat×AO)} {nk':Nat} (hm:mem.getD k false=true) (hd:o.dst=some d) (hn:Nat.ble σ.nk nk'=true) (hs:msSub Mc M') (hsB:Nat.blt k e0=true→msSub McB M') (h:DoesM P C ops o σ d av M' nk') (r:DTK P C ops mem Mc McB e0 nk0 (k+1) rest ⟨(d,av)::σ.t,M',nk'⟩ Q):DTK P C ops mem Mc McB e0 nk0 k (o::rest) σ Q:=by
 have hent:ent1 o.dst true av=[(d,av)]:=by rw [hd];rfl
 exact DTK.wr av hm hn hs hsB ⟨h.1,fun t H=>by rw [hent];exact h.2 t H⟩ (by rw [hent];exact r)
theorem DTK.bd {T m:Nat} {parts:Array (Nat×Operand)} {ob:AO} (hd:wrB mem C.N k o=some d) (ho:o.op=.buildSlice T m parts) (h:buildE P σ T m parts.toList=some ob) (hs:msSub Mc ((σ.nk,ob)::σ.M)) (hsB:Nat.blt k e0=true→msSub McB ((σ.nk,ob)::σ.M)) (r:DTK P C ops mem Mc McB e0 nk0 (k+1) rest ⟨(d,.sl σ.nk)::σ.t,(σ.nk,ob)::σ.M,σ.nk+1⟩ Q):DTK P C ops mem Mc McB e0 nk0 k (o::rest) σ Q:=by
 obtain ⟨a,b,c,e⟩:=wrB_of hd
 unfold buildE at h
 split at h
 ·rename_i el hT
  split at h
  ·rename_i n z avs hn hz hx
   cases hb:numB 0 parts.toList && Nat.beq parts.toList.length m && Nat.ble (m*n) 16777216 && Nat.ble m 16777216 && rowsB n avs with
   | false=>rw [hb] at h;cases h
   | true =>
    rw [hb] at h
    simp only [Bool.and_eq_true] at hb
    cases h
    exact DTK.of_m a b (Nat.ble_eq_true_of_le (Nat.le_succ _)) hs hsB (DoesM.build c ho hT hn hz hb.1.1.1.1 (Nat.eq_of_beq_eq_true hb.1.1.1.2) hb.1.1.2 hb.1.2 b e hx hb.2 rfl rfl rfl rfl) r
  ·cases h
 ·cases h
theorem DTK.ap {x:AppD} (hd:wrB mem C.N k o=some d) (h:appV P σ o.op=some x) (hl:x.a.length+x.b.length≤1000000000) (hs:msSub Mc ((σ.nk,.row x.T x.n (x.a++x.b))::rem x.k σ.M)) (hsB:Nat.blt k e0=true→msSub McB ((σ.nk,.row x.T x.n (x.a++x.b))::rem x.k σ.M)) (r:DTK P C ops mem Mc McB e0 nk0 (k+1) rest ⟨(d,.sl σ.nk)::σ.t,(σ.nk,.row x.T x.n (x.a++x.b))::rem x.k σ.M,σ.nk+1⟩ Q):DTK P C ops mem Mc McB e0 nk0 k (o::rest) σ Q:=by
 obtain ⟨a,b,c,e⟩:=wrB_of hd
 unfold appV at h
 split at h
 ·rename_i x y T T' ho
  split at h
  ·rename_i el q av2 hT hx hy
   split at h
   ·rename_i i e' n rows hi hk
    split at h
    ·rename_i z rows2 hz hs2
     cases hb:Nat.beq T T' && Nat.beq el e' && Nat.beq i.size n && Nat.beq z.cells.size n && Nat.blt 0 n && Nat.ble i.bytes 100000 with
     | false=>rw [hb] at h;cases h
     | true =>
      rw [hb] at h
      simp only [Bool.and_eq_true] at hb
      cases h
      obtain ⟨⟨⟨⟨⟨b1,b2⟩,b3⟩,b4⟩,b5⟩,b6⟩:=hb
      obtain rfl:=Nat.eq_of_beq_eq_true b1
      obtain rfl:=Nat.eq_of_beq_eq_true b2
      exact DTK.of_m a b (Nat.ble_eq_true_of_le (Nat.le_succ _)) hs hsB (DoesM.append c ho hT hi hz (Nat.eq_of_beq_eq_true b3) rfl (Nat.eq_of_beq_eq_true b4) b5 b e hx hk hy hs2 rfl hl b6 rfl rfl rfl) r
    ·cases h
   ·cases h
  ·cases h
 ·cases h
theorem mmV_of {kk:IntKind} {z:Int} (h:mmV σ o.op=some (kk,z)):WV P C o σ (.sc (.int kk z)):=by
 unfold mmV at h
 split at h
 ·rename_i x y ts ho
  split at h
  ·rename_i k m k' n hx hy
   cases h
   exact WV.sc fun G a w ok=>by unfold execOp;simp [ho,resolve,invoke,builtin,ok.evs hx,ok.evs hy,Builtin.min_,Builtin.min2]
  ·cases h
 ·rename_i x y ts ho
  split at h
  ·rename_i k m k' n hx hy
   cases h
   exact WV.sc fun G a w ok=>by unfold execOp;simp [ho,resolve,invoke,builtin,ok.evs hx,ok.evs hy,Builtin.max_,Builtin.max2]
  ·cases h
 ·cases h
theorem mmV_as {kk:IntKind} {z z':Int} (h:mmV σ o.op=some (kk,z))(hz:z=z'):WV P C o σ (.sc (.int kk z')):=hz ▸ mmV_of h
def lastB(mem:List Bool)(n e0:Nat):Bool:=(List.range n).all fun i=>!Nat.blt e0 i|| !mem.getD i false
theorem WA.dt (mem:List Bool) (ms msB:List Nat) (e0:Nat) (hl:lastB mem l.length e0=true) (hB:Region.lexB .any l.toArray=true) (hch:chainB l.toArray mem=true) (hMc:msSub (onlyM σ.M ms) σ.M) (hMcB:msSub (onlyM σ.M msB) σ.M)
  (h:DTK P C l.toArray mem (onlyM σ.M ms) (onlyM σ.M msB) e0 σ.nk 0 l σ Q):WA P C l.toArray σ Q :=
 let ⟨_,a,b⟩:=h
 WA.drawT2 mem (onlyM σ.M ms) (onlyM σ.M msB) e0 (fun i h1 h2=>by
  have:=List.all_eq_true.1 hl i (List.mem_range.2 h2)
  simp only [Bool.or_eq_true,Bool.not_eq_true'] at this
  rcases this with h|h
  ·rw [show Nat.blt e0 i=true from Nat.ble_eq_true_of_le h1] at h;cases h
  ·exact h) hB hch hMc hMcB a b
end
end
section
open Go.RowKit
section
variable {P:Program} {C:Cx} {σ:St}
def ldaV (P:Program)(σ:St):Op→Option (TypeId×List (List AV)×Nat×Nat)
 | .load T x =>
  match σ.ev x with
  | some (.pt k i j) =>
   match look k σ.M with
   | some (.row _ _ rows)=>some (T,rows,i,j)
   | some (.rwn _ _ rows)=>some (T,rows,i,j)
   | _=>none
  | _=>none
 | _=>none
theorem ldaV_of {o:Oper} {T:TypeId} {rows:List (List AV)} {i j:Nat} {r:List AV} {av:AV} (h:ldaV P σ o.op=some (T,rows,i,j))(hi:rows[i]?=some r)(ht:takeO P T (r.drop j)=some av):WV P C o σ av:=by
 unfold ldaV at h
 split at h
 ·rename_i T' x ho
  split at h
  ·rename_i k i' j' hx
   split at h
   ·rename_i T2 n rows' hk
    cases h
    have hf:(AO.row T2 n rows).from_ i j=some (r.drop j):=by simp [AO.from_,hi]
    exact loadV_of ho hx (by simp only [loadV,hk,hf];exact ht)
   ·rename_i T2 n rows' hk
    cases h
    have hf:(AO.rwn T2 n rows).from_ i j=some (r.drop j):=by simp [AO.from_,hi]
    exact loadV_of ho hx (by simp only [loadV,hk,hf];exact ht)
   ·cases h
  ·cases h
 ·cases h
variable {ops:Array Oper} {o:Oper} {rest:List Oper} {d:Tmp} {Q:Exit→St→Prop}
theorem DK.lda {T:TypeId} {rows:List (List AV)} {i j:Nat} {r:List AV} {av:AV} (hd:dstD C.N ops σ o=some d)(h:ldaV P (σ.only (o.looksAt ops)) o.op=some (T,rows,i,j))(hi:rows[i]?=some r)(ht:takeO P T (r.drop j)=some av)(k:DK P C ops rest (σ.put d av) Q):DK P C ops (o::rest) σ Q:=DK.vl hd (ldaV_of h hi ht) k
end
end
section
open Go.RowKit
section
variable {B:World→View→Prop} {gl:Nat} {P:Program} {C:Cx} {σ:St} {o:Oper} {d:Tmp}
theorem fpM_nil {G:Gh} {x:Nat}:¬ fpM G [] x:=by
 unfold fpM
 rintro⟨k,ob,h,_⟩
 cases h
theorem WO.lendO (hB:Holds B gl C) {f:FuncId} {y:Operand} {fv:AV} {xs:Array Operand} {ts:Array TypeId} {args0 caps args args':List AV} {T n q:Nat} {rows:List (List AV)} (ho:o.op=.call { callee:=.value y,args:=xs,argTypes:=ts }) (hc:∀ vs w,(callFunc f vs).run P w=.ok (.enter f vs) w)
  (hy:σ.ev y=some fv) (hf:fnOf fv=some (f,caps)) (hx:σ.evs xs.toList=some args0) (hcat:args0++caps=args) (hl:Lents C σ args args') (hst:∀ w F F',View.le F F'→B w F→B w F') (h:Cto B gl P f args' [] 0 (.sl 0) [(0,.row T n rows)] 1)
  (hr:∀ r∈rows,∀ av∈r,∃ z,av=.sc z) (hds:o.dst=some d) (hd:Nat.blt d C.N=true) (hq:σ.nk=q):WO P C o σ ((σ.new (.row T n rows)).put d (.sl q)):=by
 intro G a w ok N Q' hN
 obtain ⟨cs,ey,h1,h2⟩:=fnOf_of hf (ok.evr hy).2
 obtain ⟨e1,e2⟩:=ok.evl2 hx h1 h2 hcat
 obtain ⟨q1,q2⟩:=hl.at_
 have hF:G.F.le fun q=>w.cell? q:=fun p u x=>ok.fw p u x
 refine call_wp ho hc ey (h w ⟨fun q=>w.cell? q,fun _=>0,fun _=>0,fun _=>undef,fun _ _=>False⟩ _ (hst w _ _ hF (hB.1 w G.F ok.bel ok.f0)) (fun x hx=>(fpM_nil hx).elim)
  ⟨fun _ _ x=>x,fun k o hk=>(by cases hk),fun k o x hk=>(by cases hk),fun k o k2 o2 x hk=>(by cases hk),fun k o x p u hk=>(by cases hk)⟩ (by rw [e1,q1]) fun i av u p qq=>?_) fun e w1 ⟨v,G',he,hk,h3,h4,hO,hmy,hpin,hle,hbd,hR⟩=>?_
 ·obtain ⟨b,hb,hL⟩:=q2 i av p
  exact .pu _ _ (hL G a w ok u (e2 i b u hb qq))
 ·obtain ⟨_,_,g1,g2,g3⟩:=hO.ob 0 _ rfl
  obtain ⟨r1,vs,Φ,r2,r3,r4,r5,r6,r7,r8,r9⟩:=g3
  obtain ⟨ev,eo⟩:=hR.sl_of
  have hnew:∀ x,G'.fp 0 x→w.heap.size≤x:=fun x hx=>(hmy 0 _ x rfl hx).elim id fun z=>(fpM_nil z).elim
  have ok':=ok.newObj (w':=w1) (S:=fun _=>False) (b:=G'.b 0) (n:=n) (h:=G'.h 0) (φ:=G'.fp 0) (ob:=.row T n rows)
   ⟨hk.os,hk.tape,hk.output,hk.size,fun k hk' _=>hk.block k hk' fpM_nil⟩ (fun _ h=>h.elim) (fun _ _ _ _ _ h=>h) (fun _ _ _ h=>h)
   ⟨with_n,(fun g hg=>by rw [with_h] at hg;rw [with_b];exact g2 g hg),by
    rw [with_h,with_f]
    refine ⟨r1,vs,Φ,r2,r3,r4,r5,r6,r7,r8,fun i r r' j av u a b c d=>?_⟩
    obtain ⟨z,rfl⟩:=hr r (List.mem_of_getElem? a) av (List.mem_of_getElem? c)
    have:=r9 i r r' j _ u a b c d
    rw [show u=z from RP.sc_eq this]
    exact .sc _⟩ trivial (fun x hx=>⟨.inl (Nat.le_trans ok.bel.size (hnew x hx)),hO.my 0 _ x rfl hx,fun k o h1 h2=>by
     have:=(ok.my k o x h1 h2).2
     have:=hnew x hx
     omega,fun p u h1 h2=>by
     have:=cell_block (ok.fw p u h1)
     have:=hnew x hx
     omega⟩)
  refine ⟨v,he,?_⟩
  rw [hds]
  subst hq
  rw [ev] at eo ⊢
  exact hN _ _ _ (ok'.set (d:=some d) (av:=.sl σ.nk) (v:=G'.h 0) (with_sl eo) (.sl _ (Nat.lt_succ_self _)) fun x hx=>by cases hx;exact of_blt hd)
end
end
section
open Go.RowKit
def cpS (st:List Int)(f:Int):Int:=st.getD (f.toNat-1) 0
def cp1(st:List Int)(f:Int)(x:Int×Int×Bool):Int×Int×Bool:=if x.2.1=0 then x else(x.1+cpS st f,x.2.1-f,x.2.2)
def cpBad (cs:List (Int×Int×Bool))(f:Int):Bool:=cs.any fun x=>decide (x.2.1≠0∧x.2.1<f)
def cpX (cs:List (Int×Int×Bool))(st:List Int)(f:Int):Int:=if insE cs st≠0 then insE cs st else if f<0∨(st.length:Int)<f then 13 else if f=0 then 0 else if cpBad cs f=true then 13 else 0
def cpCs (cs:List (Int×Int×Bool))(st:List Int)(f:Int):List (Int×Int×Bool):=if cpX cs st f=0 then (if f=0 then cs else cs.map (cp1 st f))else []
def cpSt (cs:List (Int×Int×Bool))(st:List Int)(f:Int):List Int:=if cpX cs st f=0 then (if f=0 then st else (st.drop f.toNat).map fun x=>x-cpS st f)else []
def capF (cs:List (Int×Int×Bool))(f:Int)(x:Stp):Int:=if 0<fretsOf cs x.1 then x.2.1-f else x.2.1
def capC (cs:List (Int×Int×Bool))(f:Int):Cg where
 ch x:=((x.1,capF cs f x,x.2.2),decide (capF cs f x<0))
 mr y:=y
 ml _:=[]
 tie _ e:=e.tie
 bare i:=decide (0<i)
def capE(p:Pce)(f:Int):Int:=if pceE p≠0 then pceE p else cpX p.cs p.st f
def capN (p:Pce)(f:Int):List Ev:=nwL (capC p.cs f) p.evs
def capP (p:Pce) (f:Int):Pce:=if capE p f=0 then ⟨cpCs p.cs p.st f,cpSt p.cs p.st f,fnL (ftH (capN p f)) (capN p f)⟩else noP
def capL (p:Pce) (f:Int):List Lck:=if capE p f=0 then lsL (capC p.cs f) (ftH (capN p f)) p.evs p.evs.length else []
theorem capC_mv {cs:List (Int×Int×Bool)} {f:Int} {x y:Stp} (h:(capC cs f).mv x=some y):0≤capF cs f x∧y=(x.1,capF cs f x,x.2.2):=by
 unfold Cg.mv at h
 by_cases hp:capF cs f x<0
 ·rw [if_pos (by show decide (capF cs f x<0)=true;exact decide_eq_true hp)]at h;cases h
 ·rw [if_neg (by show ¬ decide (capF cs f x<0)=true;simpa using hp)]at h
  exact⟨by omega,(Option.some.inj h).symm⟩
theorem capC_crs {cs:List (Int×Int×Bool)} {f:Int} (x y:Stp)(h:(capC cs f).mv x=some y):y.1=x.1∧y.2.2.2.2=x.2.2.2.2:=by
 obtain⟨_,rfl⟩:=capC_mv h;exact⟨rfl,rfl⟩
theorem cpS_bd {cs:List (Int×Int×Bool)} {st:List Int} (h:insE cs st=0) {f:Int} (h1:1≤f)(h2:f≤st.length):(f-1).toNat<st.length∧st[(f-1).toNat]?=some (cpS st f)∧1≤cpS st f∧cpS st f≤127:=by
 have hk:(f-1).toNat<st.length:=by omega
 obtain⟨_,_,_,l4,_⟩:=insE_len h
 have e:cpS st f=st[(f-1).toNat]:=by
  unfold cpS
  rw [List.getD_eq_getElem?_getD,show f.toNat-1=(f-1).toNat by omega,List.getElem?_eq_getElem hk];rfl
 refine⟨hk,by rw [e,List.getElem?_eq_getElem hk],?_⟩
 rw [e]
 exact stepsBad_bd zqo l4 _ hk
end
end Go.Proofs.YtaeelcfjkhfpkaaGreat
