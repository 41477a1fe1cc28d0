/- How long a piece is. -/
import Derived.Test.YtgelfflighgajaaGreatDoorLkESq
import Derived.Test.YtgelfflighgajaaGreatDoorNtPSq
import Derived.Test.YtgelfflighgajaaGreatDoorEH0Sq
set_option maxHeartbeats 4000000
set_option maxRecDepth 100000
set_option linter.unusedVariables false
set_option linter.unusedSimpArgs false
namespace Go.Proofs.YtgelfflighgajaaGreatDoor
section
open Go.RowKit
theorem z31i {z:Int} (h:I64 z:=by unfold I64;omega):I64 z:=h
structure StpOk(p:Pce)(k:Nat)(x:Stp):Prop where
 crs:1≤x.1∧x.1≤p.cs.length
 c14:x.1≤14
 fret:0≤x.2.1∧x.2.1≤fretsOf p.cs x.1
 f18:x.2.1≤18
 hold:0≤x.2.2.2.2∧x.2.2.2.2≤longestN p.evs k x.1
 h0:0<x.2.2.2.2→x.2.1≠0
theorem stpOk_of {p:Pce} {i:Nat} {last:Int} {s:Stp} (hI:insE p.cs p.st=0)(h:stopE p i s last=0):StpOk p i s∧last<s.1:=by
 have hb:=stopE_bd hI h
 unfold stopE at h
 by_cases h1:s.1<1∨(p.cs.length:Int)<s.1
 ·rw [if_pos h1]at h;cases h
 ·rw [if_neg h1]at h
  by_cases h2:s.2.1<0∨fretsOf p.cs s.1<s.2.1
  ·rw [if_pos h2]at h;cases h
  ·rw [if_neg h2]at h
   by_cases h3:s.1≤last
   ·rw [if_pos h3]at h;cases h
   ·rw [if_neg h3]at h
    by_cases h4:(s.2.2.1<0∨3<s.2.2.1)∨(s.2.2.2.1<0∨4<s.2.2.2.1)
    ·rw [if_pos h4]at h;cases h
    ·rw [if_neg h4]at h
     by_cases h5:(s.2.2.2.2<0∨(longestN p.evs i s.1:Int)<s.2.2.2.2)∨(0<s.2.2.2.2∧s.2.1=0)
     ·rw [if_pos h5]at h;cases h
     ·exact⟨⟨by omega,by omega,by omega,by omega,by omega,by omega⟩,by omega⟩
theorem stopsE_ok {p:Pce} {i:Nat} (hI:insE p.cs p.st=0):∀ {l:List Stp} {last:Int},stopsE p i last l=0→(∀ x∈l,StpOk p i x∧last<x.1)∧l.Pairwise fun x y=>x.1<y.1:=by
 intro l
 induction l with
 | nil=>intro _ _;exact⟨fun x hx=>(by cases hx),.nil⟩
 | cons x r ih =>
  intro last h
  unfold stopsE at h
  by_cases h1:stopE p i x last≠0
  ·rw [if_pos h1] at h;exact absurd h h1
  ·rw [if_neg h1] at h
   have hx:=stpOk_of hI (by simpa using h1:stopE p i x last=0)
   obtain⟨q1,q2⟩:=ih h
   refine⟨fun y hy=>?_,.cons (fun y hy=>(q1 y hy).2) q2⟩
   rcases List.mem_cons.1 hy with rfl|hy
   ·exact hx
   ·exact⟨(q1 y hy).1,by have:=(q1 y hy).2;omega⟩
structure EvOk(p:Pce)(k:Nat)(e:Ev):Prop where
 sg:sgOk e.val e.dot e.three=true
 first:¬ ((k:Int)=0∧e.val=0)
 tie:e.tie=true→e.stops=[]∧0<k
 stops:∀ x∈e.stops,StpOk p k x
 asc:e.stops.Pairwise fun x y=>x.1<y.1
theorem evOk_of {p:Pce} (h:pceE p=0) {k:Nat} (hk:k<p.evs.length):EvOk p k p.evs[k]:=by
 obtain ⟨h1,h2,h3⟩:=pceE_zero h
 obtain ⟨a,b,c,d⟩:=evE_zero (h3 k hk)
 obtain ⟨q1,q2⟩:=stopsE_ok h1 d
 refine ⟨a,b,fun ht=>?_,fun x hx=>(q1 x hx).1,q2⟩
 have:¬ (0<p.evs[k].stops.length∨(k:Int)=0):=fun hh=>c ⟨ht,hh⟩
 exact ⟨List.eq_nil_of_length_eq_zero (by omega),by omega⟩
theorem runL_le'(c:Int):∀ (n:Nat)(l:List Ev),runL c n l≤l.length:=by
 intro n
 induction n with
 | zero=>intro l;unfold runL;first|exact Nat.zero_le _|(split<;>exact Nat.zero_le _)
 | succ n ih =>
  intro l
  cases l with
  | nil=>simp [runL]
  | cons e r =>
   unfold runL
   split
   ·exact Nat.zero_le _
   ·have:=ih r;simp;omega
theorem longestN_end {evs:List Ev} {i:Nat} (h:i<evs.length)(c:Int):i+longestN evs i c+1≤evs.length:=by
 unfold longestN
 rw [if_neg (by omega)]
 have:=runL_le' c 15 (evs.drop ((i:Int).toNat+1))
 simp only [Int.toNat_natCast,List.length_drop]at this ⊢
 omega
end
section
open Go.RowKit
theorem NInv.chg {p:Pce} {E:List (Nat×Stp)} {b b':Int→Nat} {s:NS} (h:NInv p E b s) (hb:∀ y∈E,opnN p.evs y.1 y.2.1 (b' y.2.1)=opnN p.evs y.1 y.2.1 (b y.2.1)):NInv p E b' s:=by
 have hr:∀ c y,y∈E→(rings p b' c y↔rings p b c y):=fun c y hy=>by
  unfold rings
  constructor
  ·rintro ⟨a1,a2,a3⟩;subst a1;exact ⟨rfl,a2,by rw [← hb y hy];exact a3⟩
  ·rintro ⟨a1,a2,a3⟩;subst a1;exact ⟨rfl,a2,by rw [hb y hy];exact a3⟩
 refine ⟨?_,h.len,h.r0,fun c h1 h2=>?_⟩
 ·rw [h.out]
  refine List.map_congr_left fun y hy=>?_
  unfold valN
  rw [hb y hy]
 ·rcases h.ring c h1 h2 with⟨q1,q2⟩|⟨k,q1,⟨y,q2,q3⟩,q4⟩
  ·exact .inl ⟨q1,fun y hy hh=>q2 y hy ((hr c y hy).1 hh)⟩
  ·exact .inr ⟨k,q1,⟨y,q2,(hr c y (List.mem_of_getElem? q2)).2 q3⟩,fun k' y' a b=>q4 k' y' a ((hr c y' (List.mem_of_getElem? a)).1 b)⟩
theorem NInv.all {p:Pce} {E:List (Nat×Stp)} {s:NS} {m:Nat} (h:NInv p E (fun _=>m) s) (hcut:∀ c,cutB p.evs c m=true) (hE:∀ y∈E,y.1<m) :
  ∀ k:Nat,k≤15→NInv p E (fun c=>if 1≤c∧c<k then m+1 else m) (stopAll (onsAt p.evs m) k s):=by
 intro k
 induction k with
 | zero =>
  intro _
  refine h.chg fun y hy=>?_
  rw [if_neg (by omega)]
 | succ k ih =>
  intro hk
  have h1:=ih (by omega)
  unfold stopAll
  by_cases h0:k=0
  ·subst h0
   have e:stopN 0 (onsAt p.evs m) (stopAll (onsAt p.evs m) 0 s)=stopAll (onsAt p.evs m) 0 s:=by
    unfold stopN
    rw [if_neg (by rw [h1.r0];decide)]
   rw [e]
   refine h1.chg fun y hy=>?_
   rw [if_neg (by omega),if_neg (by omega)]
  ·refine h1.stop ⟨by omega,by omega⟩ (by rw [if_neg (by omega)]) (by rw [if_pos (by omega)]) (fun x hx=>?_) (hcut k) (fun y hy _=>hE y hy)
   by_cases e:1≤x∧x<k
   ·rw [if_pos e,if_pos (by omega)]
   ·rw [if_neg e,if_neg (by omega)]
theorem opnN_cut {evs:List Ev} {i m:Nat} {c:Int} (hi:i<m) (hc:cutB evs c m=true):opnN evs i c (m+1)≠none:=by
 rw [opnN_succ,if_pos ⟨hi,hc⟩]
 cases opnN evs i c m<;>simp
theorem cutB_rest {evs:List Ev} {m:Nat} (hm:m<evs.length)(h:restB evs[m]=true)(c:Int):cutB evs c m=true:=by
 unfold cutB;rw [List.getElem?_eq_getElem hm];simp [h]
theorem cutB_has {evs:List Ev} {m:Nat} (hm:m<evs.length) {x:Stp} (h:x∈evs[m].stops):cutB evs x.1 m=true:=by
 unfold cutB hasB;rw [List.getElem?_eq_getElem hm]
 simp only [Bool.or_eq_true,List.any_eq_true]
 exact .inr ⟨x,h,by simp⟩
theorem entQ_lt(p:Pce):∀ m y,y∈entQ p m→y.1<m:=by
 intro m
 induction m with
 | zero=>intro y hy;cases hy
 | succ m ih =>
  intro y hy
  unfold entQ at hy
  split at hy
  ·rcases List.mem_append.1 hy with hy|hy
   ·have:=ih y hy;omega
   ·obtain⟨x,_,rfl⟩:=List.mem_map.1 hy
    exact Nat.lt_succ_self m
  ·have:=ih y hy;omega
theorem hasB_iff {c:Int} {l:List Stp}:hasB c l=true↔∃ x∈l,x.1=c:=by
 unfold hasB;simp
theorem NInv.adds {p:Pce} {E:List (Nat×Stp)} {s:NS} {m:Nat} (hm:m<p.evs.length) (hok:EvOk p m p.evs[m]) (h:NInv p E (fun _=>m) s) (hE:∀ y∈E,y.1<m) :
  ∀ q,q≤p.evs[m].stops.length→NInv p (E++((p.evs[m].stops.take q).map fun x=>(m,x))) (fun c=>if hasB c (p.evs[m].stops.take q)=true then m+1 else m) (addQ p m p.evs[m].stops s q):=by
 intro q
 induction q with
 | zero =>
  intro _
  rw [List.take_zero,List.map_nil,List.append_nil]
  refine h.chg fun y hy=>?_
  have:hasB y.2.1 []=false:=rfl
  simp only [this,Bool.false_eq_true,if_false]
 | succ q ih =>
  intro hq
  have hq':q<p.evs[m].stops.length:=by omega
  have h1:=ih (by omega)
  obtain ⟨l,hl⟩:∃ l,p.evs[m].stops=l:=⟨_,rfl⟩
  have hasc:=hok.asc
  have hst:=hok.stops
  have hcut:∀ x∈l,cutB p.evs x.1 m=true:=fun x hx=>cutB_has hm (by rw [hl];exact hx)
  rw [hl] at hq' h1 hasc hst ⊢
  have hx:=hst _ (List.getElem_mem hq')
  have htk:l.take (q+1)=l.take q++[l[q]]:=List.take_succ_eq_append_getElem hq'
  have hne:∀ x∈l.take q,x.1<l[q].1:=fun x hx=>by
   obtain ⟨i,hi,rfl⟩:=List.getElem_of_mem hx
   have hi':i<q:=by simp at hi;omega
   rw [List.getElem_take]
   exact List.pairwise_iff_getElem.1 hasc i q (by omega) hq' hi'
  have e0:addQ p m l s (q+1)=addN p m l[q] (addQ p m l s q):=by
   show (match l[q]? with|some x=>addN p m x (addQ p m l s q)|none=>addQ p m l s q)=_
   rw [List.getElem?_eq_getElem hq']
  rw [e0,htk,List.map_append,← List.append_assoc]
  obtain ⟨x,hxe⟩:∃ x,l[q]=x:=⟨_,rfl⟩
  have hxl:x∈l:=by rw [← hxe];exact List.getElem_mem hq'
  rw [hxe] at hx hne ⊢
  obtain ⟨c,hc⟩:∃ c:Nat,x.1=c:=⟨x.1.toNat,by have:=hx.crs;omega⟩
  have hctn:x.1.toNat=c:=by omega
  have hc14:1≤c∧c≤14:=⟨by have:=hx.crs;omega,by have:=hx.c14;omega⟩
  have h2:=h1.stop (b':=fun c'=>if hasB c' (l.take q++[x])=true then m+1 else m) (m:=m) hc14 (if_neg fun hh=>by obtain ⟨y,hy,hyc⟩:=hasB_iff.1 hh;have:=hne y hy;omega) (if_pos (hasB_iff.2 ⟨x,by simp,hc⟩)) (fun c' hc'=>?_) (by rw [← hc];exact hcut x hxl) (fun y hy hyc=>?_)
  ·have h3:=h2.add (m:=m) (x:=x) ⟨by omega,by omega⟩ (if_pos (hasB_iff.2 ⟨x,by simp,rfl⟩)) (fun y hy hr=>?_)
   ·rw [hctn] at h3
    unfold addN
    rw [hctn]
    exact h3
   ·have hyc:y.2.1=x.1:=hr.1
    have hym:y.1<m:=by
     rcases List.mem_append.1 hy with hy|hy
     ·exact hE y hy
     ·obtain ⟨z,hz,rfl⟩:=List.mem_map.1 hy
      have:=hne z hz
      simp at hyc;omega
    have:=hr.2.2
    simp only [show hasB x.1 (l.take q++[x])=true from hasB_iff.2 ⟨x,by simp,rfl⟩,if_true] at this
    exact opnN_cut hym (hcut x hxl) this
  ·by_cases e:hasB c' (l.take q)=true
   ·obtain ⟨y,a,b⟩:=hasB_iff.1 e
    rw [if_pos e,if_pos (hasB_iff.2 ⟨y,List.mem_append_left _ a,b⟩)]
   ·rw [if_neg e,if_neg]
    intro hh
    obtain ⟨y,hy,hyc⟩:=hasB_iff.1 hh
    rcases List.mem_append.1 hy with hy|hy
    ·exact e (hasB_iff.2 ⟨y,hy,hyc⟩)
    ·rw [List.mem_singleton] at hy;subst hy;omega
  ·rcases List.mem_append.1 hy with hy|hy
   ·exact hE y hy
   ·obtain ⟨z,hz,rfl⟩:=List.mem_map.1 hy
    have:=hne z hz
    simp at hyc;omega
theorem opnN_keep {evs:List Ev} {i m:Nat} {c:Int} (hc:cutB evs c m=false):opnN evs i c (m+1)=opnN evs i c m:=by
 rw [opnN_succ,if_neg (by rw [hc];simp)];simp
theorem nts_inv {p:Pce} (h0:pceE p=0):∀ m,m≤p.evs.length→NInv p (entQ p m) (fun _=>m) (nts p m):=by
 intro m
 induction m with
 | zero =>
  intro _
  refine ⟨rfl,by simp [nts],by simp [nts],fun c h1 h2=>.inl ⟨?_,fun y hy=>by cases hy⟩⟩
  simp only [nts,List.getD_eq_getElem?_getD]
  rw [List.getElem?_replicate,if_pos (by omega)];rfl
 | succ m ih =>
  intro hm
  have hm':m < p.evs.length:=by omega
  have hok:=evOk_of h0 hm'
  have hE:=entQ_lt p m
  have e1:nts p (m+1)=addQ p m p.evs[m].stops (openN p m p.evs[m] (nts p m)) p.evs[m].stops.length:=by
   show (match p.evs[m]? with|some e=>_|none=>_)=_
   rw [List.getElem?_eq_getElem hm']
  have e2:entQ p (m+1)=entQ p m++p.evs[m].stops.map fun x=>(m,x):=by
   show (match p.evs[m]? with|some e=>_|none=>_)=_
   rw [List.getElem?_eq_getElem hm']
  rw [e1,e2]
  have h1:=ih (by omega)
  by_cases hr:restB p.evs[m]=true
  ·have hnil:p.evs[m].stops=[]:=by
    unfold restB at hr
    simp at hr
    exact hr.1
   have e3:openN p m p.evs[m] (nts p m)=stopAll (onsAt p.evs m) 15 (nts p m):=if_pos hr
   rw [e3,hnil]
   simp only [List.map_nil,List.append_nil,List.length_nil,addQ]
   have hall:=h1.all (fun c=>cutB_rest hm' hr c) hE 15 (Nat.le_refl _)
   refine hall.chg fun y hy=>?_
   have hym:=hE y hy
   by_cases hc:1≤y.2.1∧y.2.1 < (15:Nat)
   ·rw [if_pos hc]
   ·-- a course that no stop has
    exfalso
    have:∀ m,m≤p.evs.length→∀ y∈entQ p m,1≤y.2.1∧y.2.1≤14:=by
     intro m
     induction m with
     | zero=>intro _ y hy;cases hy
     | succ m ih =>
      intro hm y hy
      unfold entQ at hy
      rw [List.getElem?_eq_getElem (show m < p.evs.length by omega)] at hy
      rcases List.mem_append.1 hy with hy|hy
      ·exact ih (by omega) y hy
      ·obtain ⟨x,hx,rfl⟩:=List.mem_map.1 hy
       have:=(evOk_of h0 (show m < p.evs.length by omega)).stops x hx
       exact ⟨this.crs.1,this.c14⟩
    have:=this m (by omega) y hy
    exact hc (by omega)
  ·have e3:openN p m p.evs[m] (nts p m)=nts p m:=if_neg hr
   rw [e3]
   have h2:=h1.adds hm' hok hE p.evs[m].stops.length (Nat.le_refl _)
   rw [List.take_of_length_le (Nat.le_refl _)] at h2
   refine h2.chg fun y hy=>?_
   by_cases hc:hasB y.2.1 p.evs[m].stops=true
   ·rw [if_pos hc]
   ·rw [if_neg hc]
    refine opnN_keep ?_
    cases hq:cutB p.evs y.2.1 m with
    | false=>rfl
    | true =>
     exfalso
     unfold cutB at hq
     rw [List.getElem?_eq_getElem hm'] at hq
     simp only [Bool.or_eq_true] at hq
     exact hq.elim hr hc
def noteR (p:Pce) (i:Nat) (x:Stp):Nt:=valN p (fun _=>p.evs.length) (i,x)
def notesR (p:Pce):Nat→List Nt
 | 0=>[]
 | k+1=>match p.evs[k]? with
  | some e=>notesR p k++e.stops.map (noteR p k)
  | none=>notesR p k
theorem notesR_ent (p:Pce):∀ m,notesR p m=(entQ p m).map (valN p fun _=>p.evs.length):=by
 intro m
 induction m with
 | zero=>rfl
 | succ m ih =>
  show (match p.evs[m]? with|some e=>notesR p m++e.stops.map (noteR p m)|none=>notesR p m)=((match p.evs[m]? with|some e=>entQ p m++e.stops.map (fun x=>(m,x))|none=>entQ p m):List (Nat×Stp)).map _
  cases p.evs[m]? with
  | none=>exact ih
  | some e =>
   simp only [List.map_append,ih,List.map_map];rfl
theorem nts_notes {p:Pce} (h0:pceE p=0):(nts p p.evs.length).out=notesR p p.evs.length:=by
 rw [(nts_inv h0 _ (Nat.le_refl _)).out,notesR_ent]
end
section
open Go.RowKit
def eNt (x:Nt):List AV:=[.sc (.int .i64 x.1),.sc (.int .i64 x.2.1),.sc (.int .i64 x.2.2.1),.sc (.int .i64 x.2.2.2.1),.sc (.int .i64 x.2.2.2.2)]
def eRing (r:List Int):List AV:=(List.range 15).map fun c=>.sc (.int .i64 (r.getD c 0))
theorem eRing_at {r:List Int} {c:Nat} (h:c<15):(eRing r)[c]?=some (.sc (.int .i64 (r.getD c 0))):=by
 unfold eRing
 rw [List.getElem?_map,List.getElem?_range h];rfl
theorem eRing_len(r:List Int):(eRing r).length=15:=by unfold eRing;simp
theorem eRing_set {r:List Int} {c:Nat} {v:Int} (hc:c<r.length):(eRing r).set c (.sc (.int .i64 v))=eRing (r.set c v):=by
 unfold eRing
 apply List.ext_getElem (by simp)
 intro i h1 h2
 have hi:i<15:=by simpa using h2
 rw [List.getElem_set]
 simp only [List.getElem_map,List.getElem_range,List.getD_eq_getElem?_getD,List.getElem?_set]
 by_cases e:c=i
 ·subst e;simp [hc]
 ·simp [e]
theorem eNt_set {l:List Nt} {k:Nat} {n:Nt} (t:Int)(h:l[k]?=some n):(l.map eNt).set k (putL 4 [.sc (.int .i64 t)] (eNt n))=(setTo l k t).map eNt:=by
 unfold setTo
 rw [h]
 simp only [List.map_set]
 rfl
structure NsOk(s:NS):Prop where
 len:s.ring.length=15
 rng:∀ c,0≤s.ring.getD c 0∧s.ring.getD c 0≤s.out.length
 big:s.out.length≤10000
theorem setTo_len(l:List Nt)(k:Nat)(t:Int):(setTo l k t).length=l.length:=by unfold setTo;split<;>simp
theorem stopN_ok {s:NS} (h:NsOk s)(c:Nat)(t:Int):NsOk (stopN c t s)∧(stopN c t s).out.length=s.out.length:=by
 unfold stopN
 split
 ·refine⟨⟨by simpa using h.len,fun q=>?_,by rw [setTo_len];exact h.big⟩,setTo_len _ _ _⟩
  have:=h.rng q
  simp only [setTo_len,List.getD_eq_getElem?_getD]at this ⊢
  by_cases e:c=q
  ·subst e
   by_cases hq:c<s.ring.length
   ·rw [List.getElem?_set_self hq];simp
   ·rw [List.getElem?_eq_none (by simpa using hq)];simp
  ·rw [List.getElem?_set_ne e];exact this
 ·exact⟨h,rfl⟩
theorem finMn {P:Program} {C:Cx} {σ:St} {fn:Func} {avs:List AV} {res:AV} {M':List (Nat×AO)} {nk':Nat} (h:resL P σ fn.results.toList=some avs)(hp:avs.all (fun av=>!ownB av)=true)(e:resT avs=res)(hM:σ.M=M')(hk:σ.nk=nk'):QFinM P fn C res M' nk' .normal σ :=
 ⟨.inl rfl,(finM h hp e hM hk).2⟩
theorem stop_FS (c:Nat) (t:Int) (s:NS) (hc:c < 15) (h:NsOk s) :
  Cto truB 0 Tryz.prog 230 [.sc (.int .i64 c),.sc (.int .i64 t),.pt 0 0 0,.pt 1 0 0]
   [(0,.box 328 (eRing s.ring)),(1,.box 227 [.sl 2]),(2,.row 233 5 (s.out.map eNt))] 3 (.tu [])
   [(0,.box 328 (eRing (stopN c t s).ring)),(1,.box 227 [.sl 2]),(2,.row 233 5 ((stopN c t s).out.map eNt))] 3:=by
 have hl:=eRing_len s.ring
 have hrg:=h.rng c
 have hlen:=h.len
 have hbig:=h.big
 have hat:=eRing_at (r:=s.ring) hc
 have hs0:stopN c t s=if 0 < s.ring.getD c 0 then ⟨setTo s.out (s.ring.getD c 0 - 1).toNat t,s.ring.set c 0⟩ else s:=rfl
 obtain ⟨r,hr⟩:∃ r,s.ring.getD c 0=r:=⟨_,rfl⟩
 rw [hr] at hat hrg hs0
 refine Cto.intro truS Tryz.func230 rfl Tryz.ntmps230 (Nat.le_of_ble_eq_true rfl) rfl fun w0 F0 fp pg hB=>?_
 dsimp only [number,Nat.reduceAdd]
 repeat refine W.go rfl ?_
 refine (?_:WL _ _ _ _ _ _)
 refine WL.idp rfl rfl ⟨by omega,by omega⟩ (show 0+((c:Nat):Int).toNat*1=c by simp) ?_
 refine WL.ldx rfl rfl hat rfl ?_
 repeat (first|refine W.go rfl ?_|refine WL.ev rfl ?_)
 refine (?_:W _ _ _ _ _)
 (refine W.cond rfl (fun hif=>?_) (fun hif=>?_)<;>(try simp only [decide_eq_true_eq,decide_eq_false_iff_not,Int.not_lt,Int.not_le,Bool.not_eq_true',Bool.not_eq_false'] at hif))
 ·rw [if_pos hif] at hs0
  rw [hs0]
  have hk:(r - 1).toNat < s.out.length:=by omega
  have hn:=List.getElem?_eq_getElem hk
  have hrr:(s.out.map eNt)[(r - 1).toNat]?=some (eNt s.out[(r - 1).toNat]):=by rw [List.getElem?_map,hn];rfl
  repeat (first|refine W.gob rfl ?_|refine WL.e1 rfl ?_|refine WL.ar rfl rfl z31i ?_|refine WL.ixs rfl rfl (by first|omega|(simp;done)|(simp;omega)) ?_)
  refine (?_:WL _ _ _ _ _ _)
  refine WL.sto rfl rfl rfl rfl hrr (by show 4+1≤5;omega) ?_
  repeat (first|refine W.gob rfl ?_|refine WL.nil ?_|refine WL.e1 rfl ?_)
  refine (?_:WL _ _ _ _ _ _)
  refine WL.idp rfl rfl ⟨by omega,by omega⟩ (show 0+((c:Nat):Int).toNat*1=c by simp) ?_
  refine WL.stx rfl rfl rfl rfl (by rw [hl];exact hc) ?_
  rw [eRing_set (by omega)]
  dsimp only
  refine WL.tr (σ':=⟨[],[(0,.box 328 (eRing (s.ring.set c 0))),(1,.box 227 [.sl 2]),(2,.row 233 5 ((setTo s.out (r - 1).toNat t).map eNt))],3⟩) (zqu (fun q=>q) (by repeat (first|exact trivial|refine ⟨⟨?_,?_,?_⟩,?_⟩|rfl|exact congrArg (fun q=>some (AO.row _ _ q)) (eNt_set t hn))) rfl) ?_
  repeat refine WL.nil ?_
  exact finMn rfl rfl rfl rfl rfl
 ·rw [if_neg (by omega)] at hs0
  rw [hs0]
  repeat refine W.go rfl ?_
  exact finMn rfl rfl rfl rfl rfl
end
section
open Go.RowKit
theorem rd_of_ints {w:World} {base e n cap B:Nat} {g:Nat} {l:List Int} (h:w.ownsRow base e 1 (.slice (some ⟨g,0,none⟩) n cap) n (l.map fun x=>.int .i64 x)) (hn:l.length=n) (hg:g<B):Rd w B 1 (some ⟨g,0,none⟩) (l.map intCell):=by
 intro _
 refine ⟨⟨g,0,none⟩,rfl,hg,fun k r hr j y hy=>?_⟩
 rw [List.getElem?_map] at hr
 cases hk:l[k]? with
 | none=>simp [hk] at hr
 | some x =>
  simp only [hk,Option.map_some,Option.some.injEq] at hr
  subst hr
  have hkl:=(List.getElem?_eq_some_iff.1 hk).1
  match j with
  | 0 =>
   cases hy
   have:=h.cellAt k (by omega)
   rw [List.getElem?_map,hk] at this
   have e:(⟨g,0,none⟩:Addr).add (k*1+0)=⟨g,k,none⟩:=by
    by_cases hz:k=0
    ·subst hz;rfl
    ·simp [Addr.add,hz]
   rw [e]
   simpa using this
  | j+1=>simp [intCell] at hy
theorem pOnsets_FS (p:Pce) (hO:PcOk p):Ctr Tryz.prog 111 [ePce p] (.tu [.ls 1 (if pceE p=0 then (onsL p.evs p.evs.length).map eInt else []),.sc (.int .i64 (pceE p))]):=by
 intro w F vs hF hR
 match vs,hR.1 with
 | [v],_ =>
  obtain ⟨M,rfl,hM⟩:=pc_of_rp hF (hR.2 0 _ v rfl rfl)
  by_cases h0:pceE p=0
  ·rw [if_pos h0,h0]
   refine (pOnsets_ok M p w hM hO h0).mono fun e w' ⟨v,he,hrow,hb⟩=>?_
   obtain ⟨g,cap,rfl⟩:∃ g cap,v=.slice (some ⟨g,0,none⟩) (p.evs.length+1) cap:=by
    rcases hrow.2 with⟨_,h⟩|⟨g,cap,cur,e,_⟩
    ·omega
    ·exact ⟨g,cap,e⟩
   have hlt:=hrow.lt g rfl
   have hcap:p.evs.length+1≤cap:=by
    rcases hrow.2 with⟨h,_⟩|⟨g',cap',cur,e,_,_,h,_⟩
    ·cases h
    ·cases e;exact h
   have hlen:(onsL p.evs p.evs.length).length=p.evs.length+1:=onsL_length _ _
   refine ⟨_,newF F w w',he,hb,newF_le hF,newF_fw hF hb,newF_new,.tu _ _ rfl fun i av u a b=>?_⟩
   match i with
   | 0 =>
    cases a;cases b
    have:=rp_of_rd (F:=F) (w:=w) (rd_of_ints (B:=w'.heap.size) hrow hlen hlt.2) (fun ad e=>by cases e;exact hlt.1) (c:=cap) (by omega) (e:=eInt) (fun _=>rfl) eInt_of
    rw [hlen] at this
    exact this
   | 1=>cases a;cases b;exact .sc _
   | i+2=>simp at a
  ·rw [if_neg h0]
   refine (pOnsets_bad M p w hM hO h0).mono fun e w' ⟨he,hb⟩=>?_
   refine ⟨_,newF F w w',he,hb,newF_le hF,newF_fw hF hb,newF_new,.tu _ _ rfl fun i av u a b=>?_⟩
   match i with
   | 0=>cases a;cases b;exact .ls 1 [] none 0 ⟨0,0,none⟩ (fun _ _=>undef) (by simp) (by simp) (by simp) (by simp) (by simp)
   | 1=>cases a;cases b;exact .sc _
   | i+2=>simp at a
end
section
open Go.RowKit
def onsR (p:Pce):List (List AV):=if pceE p=0 then (onsL p.evs p.evs.length).map eInt else []
def eSnd (p:Pce):AV:=.ag [.ls 3 (p.cs.map eCrs),.ls 1 (p.st.map eInt),.ls 6 (p.evs.map eEv),.ls 1 (onsR p)]
theorem listen_FS (p:Pce) (hO:PcOk p):Ctr Tryz.prog 208 [ePce p] (.tu [eSnd p,.sc (.int .i64 (pceE p))]):=by
 refine Ctr.intro Tryz.func208 rfl Tryz.ntmps208 (Nat.le_of_ble_eq_true rfl) (bd_all rfl) fun w0 F0=>?_;dsimp only [St.init,number,Nat.reduceAdd]
 repeat refine W.go rfl ?_
 refine (?_:WL _ _ _ _ _ _)
 refine WL.vl rfl (WV.call rfl (callF Tryz.func111 rfl rfl) rfl rfl (pOnsets_FS p hO)) ?_
 repeat (first|refine W.go rfl ?_|refine WL.ev rfl ?_)
 refine (?_:W _ _ _ _ _)
 exact W.ret (finN rfl rfl rfl rfl)
end
section
open Go.RowKit
theorem end_FS (p:Pce) (hO:PcOk p) (h0:pceE p=0):Ctr Tryz.prog 232 [eSnd p] (.sc (.int .i64 (onsAt p.evs p.evs.length))):=by
 have hn:=hO.n3
 have hl:(onsL p.evs p.evs.length).length=p.evs.length+1:=onsL_length _ _
 have he:eSnd p=.ag [.ls 3 (p.cs.map eCrs),.ls 1 (p.st.map eInt),.ls 6 (p.evs.map eEv),.ls 1 ((onsL p.evs p.evs.length).map eInt)]:=by unfold eSnd onsR;rw [if_pos h0]
 rw [he]
 refine Ctr.intro Tryz.func232 rfl Tryz.ntmps232 (Nat.le_of_ble_eq_true rfl) (bd_all rfl) fun w0 F0=>?_;dsimp only [St.init,number,Nat.reduceAdd]
 repeat (first|refine W.go rfl ?_|refine WL.ev rfl ?_|refine WL.ar rfl rfl z31i ?_|refine WL.len rfl rfl zql ?_|refine WL.idx rfl rfl (by omega) zqm ?_)
 refine (?_:W _ _ _ _ _)
 refine W.ret (fin1 rfl rfl (sc_int ?_) rfl)
 simp [onsL]
end
section
open Go.RowKit
def sndL (p:Pce):List AV:=[.ls 3 (p.cs.map eCrs),.ls 1 (p.st.map eInt),.ls 6 (p.evs.map eEv),.ls 1 ((onsL p.evs p.evs.length).map eInt)]
theorem eSnd_ok {p:Pce} (h0:pceE p=0):eSnd p=.ag (sndL p):=by unfold eSnd onsR sndL;rw [if_pos h0]
theorem stay_FS (p:Pce) (hO:PcOk p) (h0:pceE p=0) (i:Nat) (h:Int) (hh:0≤h) (hi:i+h.toNat+1≤p.evs.length) :
  Ctr Tryz.prog 233 [eSnd p,.sc (.int .i64 i),.sc (.int .i64 h)] (.sc (.int .i64 ((stayN p.evs (i+h.toNat+1):Int) - 1))):=by
 have hn:=hO.n3
 rw [eSnd_ok h0]
 unfold sndL
 obtain ⟨q,rfl⟩:∃ q:Nat,h=q:=⟨h.toNat,by omega⟩
 simp only [Int.toNat_natCast] at hi ⊢
 refine Ctr.intro Tryz.func233 rfl Tryz.ntmps233 (Nat.le_of_ble_eq_true rfl) (bd_all rfl) fun w0 F0=>?_;dsimp only [St.init,number,Nat.reduceAdd]
 repeat (first|refine W.go rfl ?_|refine WL.ev rfl ?_|refine WL.ar rfl rfl z31i ?_)
 refine (?_:W _ _ _ _ _)
 refine W.loop (fun m:Nat=>i+q≤m∧m+1≤p.evs.length∧stayN p.evs (i+q+1)=stayN p.evs (m+1)) (fun m=>⟨[(3,.pt 0 0 0),(7,.sc (.int .i64 m))],[(0,.box 294 [.ls 3 (p.cs.map eCrs),.ls 1 (p.st.map eInt),.ls 6 (p.evs.map eEv),.ls 1 ((onsL p.evs p.evs.length).map eInt)])],1⟩) (fun m=>p.evs.length - m) (i+q) ⟨Nat.le_refl _,by omega,rfl⟩ (zqt id) fun m hm=>?_
 obtain ⟨hm1,hm2,hm3⟩:=hm
 have ez:((m:Int)+1).toNat=m+1:=by omega
 by_cases hlt:m+1 < p.evs.length
 ·repeat (first|refine W.gob rfl ?_|refine WL.nil ?_|refine WL.bt rfl rfl rfl (by omega) ?_|refine WL.e1 rfl ?_|refine WL.gyes rfl rfl rfl rfl ?_|refine WL.ar rfl rfl z31i ?_|refine WL.len rfl rfl zql ?_|refine WL.idx rfl rfl (by omega) zqm ?_)
  refine (?_:W _ _ _ _ _)
  (refine W.cond rfl (fun hif=>?_) (fun hif=>?_)<;>(try simp only [decide_eq_true_eq,decide_eq_false_iff_not,Int.not_lt,Int.not_le,Bool.not_eq_true',Bool.not_eq_false'] at hif))
  ·repeat (first|refine W.go rfl ?_|refine WL.ev rfl ?_|refine WL.ar rfl rfl z31i ?_)
   exact ⟨m+1,⟨by omega,by omega,by rw [hm3,stayN_tie hlt hif]⟩,by omega,(zqt id)⟩
  ·rw [show ((stayN p.evs (i+q+1):Int) - 1)=m by rw [hm3,stayN_no hlt hif];omega]
   repeat refine W.go rfl ?_
   refine (?_:W _ _ _ _ _)
   exact W.ret (fin1 rfl rfl rfl rfl)
 ·repeat (first|refine W.gob rfl ?_|refine WL.nil ?_|refine WL.bf rfl rfl rfl (by omega) ?_|refine WL.e1 rfl ?_|refine WL.opno rfl rfl rfl rfl rfl rfl rfl ?_|refine WL.ar rfl rfl z31i ?_|refine WL.len rfl rfl zql ?_|refine W.condF rfl ?_)
  refine (?_:W _ _ _ _ _)
  refine W.ret (fin1 rfl rfl (sc_int ?_) rfl)
  rw [hm3,stayN_end (by omega)];omega
end
section
open Go.RowKit
def upP(n q:Int):Int:=if n<0∨n<q then q else n
def maxP (p:Pce)(l:List Stp)(n:Int):Int:=l.foldl (fun n x=>upP n (pitN p.cs p.st x.1 x.2.1)) n
def melR (p:Pce):List Int:=p.evs.map fun e=>maxP p e.stops (-1)
def melS (out:List Int)(n:Nt):List Int:=out.set n.1.toNat (upP (out.getD n.1.toNat 0) n.2.2.1)
theorem melS_length(l:List Nt):∀ out,(l.foldl melS out).length=out.length:=by
 induction l with
 | nil=>intro out;rfl
 | cons n r ih=>intro out;rw [List.foldl_cons,ih];simp [melS]
theorem melS_event (p:Pce) (k:Nat):∀ (l:List Stp) (out:List Int) (v:Int),out[k]?=some v→(l.map (noteR p k)).foldl melS out=out.set k (maxP p l v):=by
 intro l
 induction l with
 | nil =>
  intro out v h
  apply List.ext_getElem?
  intro i
  rw [List.getElem?_set]
  by_cases e:k=i
  ·subst e
   have hlt:=(List.getElem?_eq_some_iff.1 h).1
   rw [List.getElem?_eq_getElem hlt]at h
   simp [maxP,hlt,Option.some.inj h]
  ·simp [e]
 | cons x r ih =>
  intro out v h
  have hlt:=(List.getElem?_eq_some_iff.1 h).1
  rw [List.map_cons,List.foldl_cons]
  have e1:melS out (noteR p k x)=out.set k (upP v (pitN p.cs p.st x.1 x.2.1)):=by
   unfold melS noteR valN
   simp [h]
  rw [e1,ih _ (upP v (pitN p.cs p.st x.1 x.2.1)) (by simp [hlt])]
  rw [List.set_set];rfl
theorem mel_notes (p:Pce):∀ m,m≤p.evs.length→(notesR p m).foldl melS (List.replicate p.evs.length (-1))=((p.evs.take m).map fun e=>maxP p e.stops (-1))++List.replicate (p.evs.length-m) (-1):=by
 intro m
 induction m with
 | zero=>intro _;simp [notesR]
 | succ m ih =>
  intro hm
  have hm':m<p.evs.length:=by omega
  have e1:notesR p (m+1)=notesR p m++p.evs[m].stops.map (noteR p m):=by
   show (match p.evs[m]? with|some e=>_|none=>_)=_
   rw [List.getElem?_eq_getElem hm']
  rw [e1,List.foldl_append,ih (by omega),melS_event p m p.evs[m].stops _ (-1) ?_]
  ·rw [List.take_succ_eq_append_getElem hm',List.map_append,List.set_append_right _ _ (by simp;omega)]
   have:m-((p.evs.take m).map fun e=>maxP p e.stops (-1)).length=0:=by simp;omega
   rw [this,show p.evs.length-m=(p.evs.length-(m+1))+1 by omega,List.replicate_succ]
   simp
  ·rw [List.getElem?_append_right (by simp;omega)]
   have:m-((p.evs.take m).map fun e=>maxP p e.stops (-1)).length=0:=by simp;omega
   rw [this,List.getElem?_replicate,if_pos (by omega)]
theorem mel_all (p:Pce):(notesR p p.evs.length).foldl melS (List.replicate p.evs.length (-1))=melR p:=by
 rw [mel_notes p _ (Nat.le_refl _)];simp [melR]
def difs:List Int→List Int
 | x::y::r=>(y-x)::difs (y::r)
 | _=>[]
theorem difs_length:∀ l,(difs l).length=l.length-1
 | []=>rfl
 | [x]=>rfl
 | x::y::r=>by
  have:=difs_length (y::r)
  simp only [difs,List.length_cons]at this ⊢
  omega
theorem difs_at:∀ (l:List Int)(i:Nat)(h:i+1<l.length),(difs l)[i]?=some (l[i+1]-l[i])
 | [],i,h=>by simp at h
 | [x],i,h=>by simp at h
 | x::y::r,0,h=>rfl
 | x::y::r,i+1,h=>by
  have:=difs_at (y::r) i (by simpa using h)
  simpa [difs] using this
theorem difs_take {l:List Int} {i:Nat} (h:i+1<l.length):(difs l).take (i+1)=(difs l).take i++[l[i+1]-l[i]]:=by
 have h1:=difs_at l i h
 have hlt:=(List.getElem?_eq_some_iff.1 h1).1
 rw [List.take_succ_eq_append_getElem hlt]
 rw [List.getElem?_eq_getElem hlt]at h1
 rw [Option.some.inj h1]
theorem difs_snoc:∀ (l:List Int)(x y:Int),difs (l++[x]++[y])=difs (l++[x])++[y-x]
 | [],x,y=>rfl
 | [a],x,y=>rfl
 | a::b::r,x,y=>by
  have:=difs_snoc (b::r) x y
  simp only [List.cons_append,difs] at this ⊢
  rw [this]
def sungR (p:Pce):List Int:=(melR p).filter fun x=>!decide (x<0)
def incR (p:Pce)(n:Int):List Int:=(difs (sungR p)).take n.toNat
def allF(s:List Int×Int)(x:Int):List Int×Int:=if x<0 then s else(if 0≤s.2 then s.1++[x-s.2]else s.1,x)
theorem allF_inv (l:List Int):∀ (f:List Int) (s:List Int×Int),(s.1=difs f∧((f=[]∧s.2=-1)∨∃ g x,f=g++[x]∧s.2=x∧0≤x)) →
  (l.foldl allF s).1=difs (f++l.filter fun x=>!decide (x < 0)):=by
 induction l with
 | nil=>intro f s h;simp [h.1]
 | cons x r ih =>
  intro f s h
  rw [List.foldl_cons]
  by_cases hx:x < 0
  ·have e:allF s x=s:=if_pos hx
   rw [e,ih f s h]
   congr 2
   rw [List.filter_cons_of_neg (by simp [hx])]
  ·rw [List.filter_cons_of_pos (by simp;omega),show f++x::r.filter (fun x=>!decide (x < 0))=(f++[x])++r.filter fun x=>!decide (x < 0) by simp]
   refine ih (f++[x]) _ ?_
   have e:allF s x=(if 0≤s.2 then s.1++[x - s.2] else s.1,x):=if_neg hx
   rw [e]
   obtain ⟨h1,h2⟩:=h
   rcases h2 with ⟨rfl,h2⟩|⟨g,y,rfl,h2,h3⟩
   ·refine ⟨?_,.inr ⟨[],x,rfl,rfl,by omega⟩⟩
    rw [h2,if_neg (by decide),h1];rfl
   ·refine ⟨?_,.inr ⟨g++[y],x,rfl,rfl,by omega⟩⟩
    rw [h2,if_pos h3,h1,difs_snoc]
theorem all_difs (p:Pce):((melR p).foldl allF ([],-1)).1=difs (sungR p):=by
 have:=allF_inv (melR p) [] ([],-1) ⟨rfl,.inl ⟨rfl,rfl⟩⟩
 rw [List.nil_append] at this
 exact this
end
section
open Go.RowKit
theorem pcOk_of2 {p:Pce} (h:bigB p=false):PcOk p:=by
 unfold bigB at h
 simp only [Bool.or_eq_false_iff,decide_eq_false_iff_not,List.any_eq_false]at h
 obtain⟨h1,h2,h3,h4⟩:=h
 refine⟨by omega,by omega,by omega,fun k hk=>?_⟩
 have:=h4 _ (List.getElem_mem hk)
 simp at this
 exact this
theorem big_FS (p:Pce):Ctr Tryz.prog 49 [ePce p] (.sc (.bool (bigB p))) :=
 Ctr.of_pc (pre:=[]) (post:=[]) rfl rfl (fun _=>.sc _) fun w M hM=>big_any M p w hM
end
section
open Go.RowKit
def longB (p:Pce):Bool:=bigB p|| decide (60<p.evs.length)
theorem long_FS (p:Pce):Ctr Tryz.prog 14 [ePce p] (.sc (.bool (longB p))):=by
 refine Ctr.intro Tryz.func14 rfl Tryz.ntmps14 (Nat.le_of_ble_eq_true rfl) (bd_all rfl) fun w0 F0=>?_;dsimp only [St.init,number,Nat.reduceAdd]
 repeat refine W.go rfl ?_
 refine (?_:WL _ _ _ _ _ _)
 refine WL.vl rfl (WV.call rfl (callF Tryz.func49 rfl rfl) rfl rfl (big_FS p)) ?_
 repeat refine WL.ev rfl ?_
 refine (?_:WL _ _ _ _ _ _)
 refine WL.partG rfl rfl rfl rfl (fun hp=>?_) (fun hp=>?_)
 ·repeat (first|refine WL.ev rfl ?_|refine WL.opno rfl rfl rfl rfl rfl rfl rfl ?_)
  refine (?_:W _ _ _ _ _)
  exact W.ret (fin1 rfl rfl (sc_bool (by unfold longB;rw [hp];rfl)) rfl)
 ·repeat (first|refine WL.ev rfl ?_|refine WL.gyes rfl rfl rfl rfl ?_|refine WL.len rfl rfl zql ?_)
  refine (?_:W _ _ _ _ _)
  refine W.ret (fin1 rfl rfl (sc_bool ?_) rfl)
  unfold longB
  rw [hp,Bool.false_or]
  show decide _=decide _
  rw [decide_eq_decide];omega
theorem pcOk_of3 {p:Pce} (h:longB p=false):PcOk p:=pcOk_of2 (p:=p) (by unfold longB at h;simp only [Bool.or_eq_false_iff]at h;exact h.1)
end
end Go.Proofs.YtgelfflighgajaaGreatDoor
