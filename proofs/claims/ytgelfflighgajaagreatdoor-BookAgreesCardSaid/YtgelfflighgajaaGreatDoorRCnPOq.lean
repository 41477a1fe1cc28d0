/- The reading of the majority, the reference, plain: the witnesses written plainly are collated as they stand. -/
import Derived.Test.YtgelfflighgajaaGreatDoorClOq
import Derived.Test.YtgelfflighgajaaGreatDoorLngOq
set_option maxHeartbeats 8000000
set_option maxRecDepth 100000
set_option linter.unusedVariables false
set_option linter.unusedSimpArgs false
namespace Go.Proofs.YtgelfflighgajaaGreatDoor
section
open Go.RowKit
theorem z40i {z:Int} (h:I64 z:=by unfold I64;omega):I64 z:=h
abbrev Vt:=Ev×Int
def cstV:List Vt→Ev→List Vt
 | [],e=>[(e,1)]
 | v::r,e=>if evEq v.1 e=true then(v.1,v.2+1)::r else v::cstV r e
theorem cstV_no {e:Ev}:∀ {l:List Vt},(∀ k (h:k<l.length),evEq l[k].1 e=false)→cstV l e=l++[(e,1)]
 | [],_=>rfl
 | v::r,h=>by
  have h0:evEq v.1 e=false:=h 0 (by simp)
  have ih:=cstV_no (l:=r) fun k hk=>h (k+1) (by simpa using hk)
  show (if evEq v.1 e=true then _ else v::cstV r e)=_
  rw [if_neg (by rw [h0];simp),ih];rfl
theorem cstV_at {e:Ev}:∀ {l:List Vt} {k:Nat} (h:k<l.length),evEq l[k].1 e=true→(∀ i (hi:i<k),evEq (l[i]'(by omega)).1 e=false)→cstV l e=l.set k (l[k].1,l[k].2+1)
 | v::r,0,h,h1,_=>if_pos h1
 | v::r,k+1,h,h1,h2=>by
  have h0:evEq v.1 e=false:=h2 0 zqo
  have ih:=cstV_at (l:=r) (k:=k) (by simpa using h) (by simpa using h1) fun i hi=>by have:=h2 (i+1) (by omega);simpa using this
  show (if evEq v.1 e=true then _ else v::cstV r e)=_
  rw [if_neg (by rw [h0];simp),ih];rfl
theorem cstV_len {e:Ev}:∀ {l:List Vt},l.length≤(cstV l e).length∧(cstV l e).length≤l.length+1∧0<(cstV l e).length
 | []=>by simp [cstV]
 | v::r=>by
  have ih:=cstV_len (e:=e) (l:=r)
  have e1:cstV (v::r) e=if evEq v.1 e=true then (v.1,v.2+1)::r else v::cstV r e:=rfl
  rw [e1]
  split
  ·simp
  ·simp only [List.length_cons];omega
theorem cstV_all {e:Ev} {Q:Ev→Prop}:∀ {l:List Vt},Q e→(∀ v∈l,Q v.1)→∀ v∈cstV l e,Q v.1
 | [],he,_,v,hv=>by obtain rfl:=List.mem_singleton.1 hv;exact he
 | u::r,he,h,v,hv=>by
  unfold cstV at hv
  split at hv
  ·rcases List.mem_cons.1 hv with rfl|hv
   ·exact h u (by simp)
   ·exact h v (by simp [hv])
  ·rcases List.mem_cons.1 hv with rfl|hv
   ·exact h v (by simp)
   ·exact cstV_all he (fun x hx=>h x (by simp [hx])) v hv
theorem cstV_cnt {e:Ev} {N:Int}:∀ {l:List Vt},0≤N→(∀ v∈l,0≤v.2∧v.2≤N)→∀ v∈cstV l e,0≤v.2∧v.2≤N+1
 | [],hN,_,v,hv=>by obtain rfl:=List.mem_singleton.1 hv;exact⟨by show (0:Int)≤1;decide,by show (1:Int)≤N+1;omega⟩
 | u::r,hN,h,v,hv=>by
  unfold cstV at hv
  split at hv
  ·rcases List.mem_cons.1 hv with rfl|hv
   ·have:=h u (by simp);exact⟨by show 0≤u.2+1;omega,by show u.2+1≤N+1;omega⟩
   ·have:=h v (by simp [hv]);omega
  ·rcases List.mem_cons.1 hv with rfl|hv
   ·have:=h v (by simp);omega
   ·exact cstV_cnt hN (fun x hx=>h x (by simp [hx])) v hv
def cntV(l:List Vt)(i:Nat):Int:=match l[i]? with|some v=>v.2|none=>0
def bsI (l:List Vt):Nat→Nat
 | 0=>0
 | n+1=>if cntV l (bsI l n)<cntV l n then n else bsI l n
def winV (l:List Vt):Ev:=(l.getD (bsI l l.length) (ev0,0)).1
theorem cntV_at {l:List Vt} {i:Nat} (h:i<l.length):cntV l i=l[i].2:=by unfold cntV;rw [List.getElem?_eq_getElem h]
theorem bsI_lt {l:List Vt} (h0:0<l.length):∀ {n:Nat},n≤l.length→bsI l n<l.length
 | 0,_=>h0
 | n+1,h=>by
  unfold bsI
  split
  ·omega
  ·exact bsI_lt h0 zqo
theorem bsI_s {l:List Vt} {n:Nat} (h0:0<l.length)(h:n<l.length):bsI l (n+1)=if (l[bsI l n]'(bsI_lt h0 (by omega))).2<l[n].2 then n else bsI l n:=by
 show (if cntV l (bsI l n)<cntV l n then n else bsI l n)=_
 rw [cntV_at h,cntV_at (bsI_lt h0 (by omega))]
theorem bsI_1(l:List Vt):bsI l 1=0:=by show(if cntV l 0<cntV l 0 then 0 else 0)=0;split<;>rfl
theorem winV_at {l:List Vt} (h0:0<l.length):winV l=(l[bsI l l.length]'(bsI_lt h0 (Nat.le_refl _))).1:=by
 unfold winV
 rw [List.getD_eq_getElem?_getD,List.getElem?_eq_getElem (bsI_lt h0 (Nat.le_refl _))];rfl
theorem winV_mem {l:List Vt} (h0:0<l.length):∃ v∈l,winV l=v.1:=⟨_,List.getElem_mem _,winV_at h0⟩
abbrev VS:=List (List Vt)×List Int
def vtP (ys:List Ev) (s:VS) (p:Int×Int):VS :=
 if p.1<0 then s else if p.2<0 then (s.1,s.2.set p.1.toNat (s.2.getD p.1.toNat 0+1))else (s.1.set p.1.toNat (cstV (s.1.getD p.1.toNat []) (evG ys p.2)),s.2)
def vtL (xs ys:List Ev)(s:VS):VS:=(prsA xs ys).foldl (vtP ys) s
def vt0(xs:List Ev):VS:=(xs.map fun e=>[(e,1)],xs.map fun _=>0)
def vtA (xs:List Ev) (os:List Pce):VS:=os.foldl (fun s o=>vtL xs (plE o) s) (vt0 xs)
def kpV (A:List Int)(m:Nat)(i:Nat):Bool:=decide (A.getD i 0≤(m:Int)+1-A.getD i 0)
def cnK (s:VS)(m:Nat):Nat→List Ev
 | 0=>[]
 | k+1=>if kpV s.2 m k=true then cnK s m k++[winV (s.1.getD k [])]else cnK s m k
structure VtOk(n:Nat)(N:Int)(s:VS):Prop where
 l1:s.1.length=n
 l2:s.2.length=n
 ne:∀ l∈s.1,0<l.length∧(l.length:Int)≤N
 ev:∀ l∈s.1,∀ v∈l,v.1.stops.length≤20∧0≤v.2∧v.2≤N
 ab:∀ z∈s.2,0≤z∧z≤N
theorem vtOk_0 {xs:List Ev} (h:∀ e∈xs,e.stops.length≤20):VtOk xs.length 1 (vt0 xs):=by
 refine⟨List.length_map _,List.length_map _,fun l hl=>?_,fun l hl v hv=>?_,fun z hz=>?_⟩
 ·obtain⟨e,_,rfl⟩:=List.mem_map.1 hl;simp
 ·obtain⟨e,he,rfl⟩:=List.mem_map.1 hl
  obtain rfl:=List.mem_singleton.1 hv
  exact⟨h e he,by show (0:Int)≤1;decide,by show (1:Int)≤1;decide⟩
 ·obtain⟨e,_,rfl⟩:=List.mem_map.1 hz;decide
theorem vtOk_P {n:Nat} {N:Int} {s:VS} {ys:List Ev} {p:Int×Int} (hN:0≤N) (h:VtOk n N s) (hy:∀ e∈ys,e.stops.length≤20):VtOk n (N+1) (vtP ys s p):=by
 have hev:(evG ys p.2).stops.length≤20:=by
  unfold evG
  rw [List.getD_eq_getElem?_getD]
  cases e:ys[p.2.toNat]? with
  | none=>simp [ev0]
  | some x=>exact hy x (List.mem_of_getElem? e)
 have base:VtOk n (N+1) s:=⟨h.l1,h.l2,fun l hl=>by have:=h.ne l hl;omega,fun l hl v hv=>by have:=h.ev l hl v hv;omega,fun z hz=>by have:=h.ab z hz;omega⟩
 unfold vtP
 split
 ·exact base
 ·split
  ·refine ⟨h.l1,by rw [List.length_set];exact h.l2,base.ne,base.ev,fun z hz=>?_⟩
   rcases List.mem_or_eq_of_mem_set hz with hz|rfl
   ·exact base.ab z hz
   ·rw [List.getD_eq_getElem?_getD]
    cases e:s.2[p.1.toNat]? with
    | none=>exact ⟨by decide,by show (0:Int)+1≤N+1;omega⟩
    | some x=>have:=h.ab x (List.mem_of_getElem? e);exact ⟨by show 0≤x+1;omega,by show x+1≤N+1;omega⟩
  ·have hg:∀ v∈s.1.getD p.1.toNat [],v.1.stops.length≤20∧0≤v.2∧v.2≤N:=by
    rw [List.getD_eq_getElem?_getD]
    cases e:s.1[p.1.toNat]? with
    | none=>intro v hv;cases hv
    | some x=>exact h.ev x (List.mem_of_getElem? e)
   have hgl:((s.1.getD p.1.toNat []).length:Int)≤N:=by
    rw [List.getD_eq_getElem?_getD]
    cases e:s.1[p.1.toNat]? with
    | none=>exact hN
    | some x=>exact (h.ne x (List.mem_of_getElem? e)).2
   refine ⟨by rw [List.length_set];exact h.l1,h.l2,fun l hl=>?_,fun l hl v hv=>?_,base.ab⟩
   ·rcases List.mem_or_eq_of_mem_set hl with hl|rfl
    ·exact base.ne l hl
    ·have:=cstV_len (e:=evG ys p.2) (l:=s.1.getD p.1.toNat []);omega
   ·rcases List.mem_or_eq_of_mem_set hl with hl|rfl
    ·exact base.ev l hl v hv
    ·exact ⟨cstV_all (Q:=fun e=>e.stops.length≤20) hev (fun u hu=>(hg u hu).1) v hv,(cstV_cnt hN (fun u hu=>(hg u hu).2) v hv)⟩
theorem cnK_len {s:VS} {m:Nat}:∀ k,(cnK s m k).length≤k
 | 0=>Nat.le_refl _
 | k+1=>by
  have:=cnK_len (s:=s) (m:=m) k
  unfold cnK
  split
  ·rw [List.length_append];simp;omega
  ·omega
theorem cnK_20 {n:Nat} {N:Int} {s:VS} {m:Nat} (h:VtOk n N s):∀ k,k≤n→∀ e∈cnK s m k,e.stops.length≤20
 | 0,_,e,he=>by cases he
 | k+1,hk,e,he=>by
  have ih:=cnK_20 (m:=m) h k zqo
  unfold cnK at he
  split at he
  ·rcases List.mem_append.1 he with he|he
   ·exact ih e he
   ·obtain rfl:=List.mem_singleton.1 he
    have hl:k<s.1.length:=by rw [h.l1];omega
    have e1:s.1.getD k []=s.1[k]:=by rw [List.getD_eq_getElem?_getD,List.getElem?_eq_getElem hl];rfl
    obtain⟨v,hv,e2⟩:=winV_mem (h.ne _ (List.getElem_mem hl)).1
    rw [e1,e2]
    exact (h.ev _ (List.getElem_mem hl) v hv).1
  ·exact ih e he
def tie0:List Ev→List Ev
 | []=>[]
 | e::r=>{ e with tie:=false }::r
def stlS (evs:List Ev)(i:Nat)(s:Stp):Stp:=(s.1,s.2.1,s.2.2.1,s.2.2.2.1,min s.2.2.2.2 (longestN evs i s.1))
def stlV (evs:List Ev)(i:Nat)(e:Ev):Ev:={ e with stops:=e.stops.map (stlS evs i) }
def stlE (evs:List Ev):List Ev:=evs.mapIdx (stlV evs)
def stl (evs:List Ev):List Ev:=stlE (tie0 evs)
theorem tie0_len(l:List Ev):(tie0 l).length=l.length:=by cases l<;>rfl
theorem stlE_len(l:List Ev):(stlE l).length=l.length:=List.length_mapIdx
theorem stl_len (l:List Ev):(stl l).length=l.length:=(stlE_len _).trans (tie0_len _)
def stripC (e:Ev):List Int×Bool:=(e.stops.map (·.1),e.tie)
theorem hasB_c {c:Int}:∀ {l m:List Stp},l.map (·.1)=m.map (·.1)→hasB c l=hasB c m
 | [],[],_=>rfl
 | [],y::m,h=>by simp at h
 | x::l,[],h=>by simp at h
 | x::l,y::m,h=>by
  rw [List.map_cons,List.map_cons] at h
  obtain⟨h1,h2⟩:=List.cons.inj h
  have ih:=hasB_c (c:=c) h2
  show (x.1 == c|| hasB c l)=(y.1 == c|| hasB c m)
  rw [h1,ih]
theorem runL_c {c:Int}:∀ (k:Nat) {l m:List Ev},l.map stripC=m.map stripC→runL c k l=runL c k m
 | 0,l,m,_=>by simp [runL]
 | k+1,[],[],_=>rfl
 | k+1,[],y::m,h=>by simp at h
 | k+1,x::l,[],h=>by simp at h
 | k+1,x::l,y::m,h=>by
  rw [List.map_cons,List.map_cons] at h
  obtain⟨h1,h2⟩:=List.cons.inj h
  obtain⟨h3,h4⟩:=Prod.mk.inj h1
  have h5:x.stops.length=y.stops.length:=by have:=congrArg List.length h3;simpa using this
  have ih:=runL_c (c:=c) k h2
  unfold runL restB
  rw [hasB_c h3,h4,h5,ih]
theorem longestN_c {l m:List Ev} (h:l.map stripC=m.map stripC) (i c:Int):longestN l i c=longestN m i c:=by
 have hl:l.length=m.length:=by have:=congrArg List.length h;simpa using this
 unfold longestN
 rw [hl,runL_c 15 (l:=l.drop (i.toNat+1)) (m:=m.drop (i.toNat+1)) (by rw [List.map_drop,List.map_drop,h])]
def stlN (evs:List Ev)(n k:Nat):List Ev:=evs.mapIdx fun i e=>if i<n then stlV evs i e else if i=n then { e with stops:=(e.stops.take k).map (stlS evs i)++e.stops.drop k } else e
theorem stlN_len(evs:List Ev)(n k:Nat):(stlN evs n k).length=evs.length:=List.length_mapIdx
theorem stlN_0 (evs:List Ev):stlN evs 0 0=evs:=by
 apply List.ext_getElem (stlN_len _ _ _)
 intro i h1 h2
 simp only [stlN,List.getElem_mapIdx]
 rw [if_neg (Nat.not_lt_zero _)]
 split
 ·simp
 ·rfl
theorem stlN_all (evs:List Ev):stlN evs evs.length 0=stlE evs:=by
 apply List.ext_getElem (by rw [stlN_len,stlE_len])
 intro i h1 h2
 have hi:i<evs.length:=by rw [stlN_len]at h1;exact h1
 simp only [stlN,stlE,List.getElem_mapIdx]
 rw [if_pos hi]
theorem stlN_next {evs:List Ev} {n k:Nat} (hn:n<evs.length)(hk:k=evs[n].stops.length):stlN evs n k=stlN evs (n+1) 0:=by
 subst hk
 apply List.ext_getElem (by rw [stlN_len,stlN_len])
 intro i h1 h2
 simp only [stlN,List.getElem_mapIdx]
 by_cases e1:i<n
 ·rw [if_pos e1,if_pos (by omega)]
 ·rw [if_neg e1]
  by_cases e2:i=n
  ·subst e2
   rw [if_pos rfl,if_pos (by omega),List.take_length,List.drop_length,List.append_nil];rfl
  ·rw [if_neg e2,if_neg (by omega)]
   by_cases e3:i=n+1
   ·rw [if_pos e3];simp
   ·rw [if_neg e3]
theorem stlN_strip (evs:List Ev)(n k:Nat):(stlN evs n k).map stripC=evs.map stripC:=by
 apply List.ext_getElem (by rw [List.length_map,List.length_map,stlN_len])
 intro i h1 h2
 rw [List.getElem_map,List.getElem_map]
 simp only [stlN,List.getElem_mapIdx]
 split
 ·unfold stripC stlV
  rw [List.map_map];rfl
 ·split
  ·unfold stripC
   simp only [List.map_append,List.map_map,List.map_drop,List.map_take]
   congr 1
   have:(evs[i]'(by simpa using h2)).stops.map ((fun x:Stp=>x.1) ∘ stlS evs i)=(evs[i]'(by simpa using h2)).stops.map (fun x=>x.1):=List.map_congr_left fun x _=>rfl
   rw [this,List.take_append_drop]
  ·rfl
theorem stlN_long (evs:List Ev)(n k:Nat)(i c:Int):longestN (stlN evs n k) i c=longestN evs i c:=longestN_c (stlN_strip evs n k) i c
theorem tie0_20 {l:List Ev} (h:∀ e∈l,e.stops.length≤20):∀ e∈tie0 l,e.stops.length≤20:=by
 cases l with
 | nil=>exact fun e he=>by cases he
 | cons a r =>
  intro e he
  rcases List.mem_cons.1 he with rfl|he
  ·exact h a (by simp)
  ·exact h e (by simp [he])
theorem stl_20 {l:List Ev} (h:∀ e∈l,e.stops.length≤20):∀ e∈stl l,e.stops.length≤20:=by
 intro e he
 obtain⟨i,hi,rfl⟩:=List.getElem_of_mem he
 have hi2:i<(tie0 l).length:=by rw [← stlE_len (tie0 l)];exact hi
 have e1:(stl l)[i]=stlV (tie0 l) i (tie0 l)[i]:=by simp only [stl,stlE,List.getElem_mapIdx]
 rw [e1]
 have e2:(stlV (tie0 l) i (tie0 l)[i]).stops.length=(tie0 l)[i].stops.length:=List.length_map _
 rw [e2]
 exact tie0_20 h _ (List.getElem_mem hi2)
theorem plE_val {p:Pce} (h0:pceE p=0) {k:Nat} (h:k<p.evs.length):(plE p)[k]'(by rw [plE_length];exact h)=sgW p.evs[k] (sgF p.evs (k+1)):=plN_get h (Nat.le_refl _)
theorem sgF_pl {p:Pce} (h0:pceE p=0) {k:Nat} (h:k<p.evs.length):sgF (plE p) (k+1)=sgF p.evs (k+1):=by
 have hk:k<(plE p).length:=by rw [plE_length];exact h
 have e:=plE_val h0 h
 rw [sgF_at hk,e]
 exact if_neg (sgF_val h0 k h).1
theorem plE_pl {p:Pce} (h0:pceE p=0):plE ⟨p.cs,p.st,plE p⟩=plE p:=by
 have hl:=plE_length p
 apply List.ext_getElem (plE_length _)
 intro k h1 h2
 have hk:k<p.evs.length:=by rw [← hl];exact h2
 have e2:(plE ⟨p.cs,p.st,plE p⟩)[k]=sgW (plE p)[k] (sgF (plE p) (k+1)):=plN_get (evs:=plE p) h2 (Nat.le_refl _)
 rw [e2,sgF_pl h0 hk,plE_val h0 hk];rfl
def One(x:Ev)(l:List Vt)(z:Int):Prop:=winV l=x∧0≤z∧z≤1
end
section
open Go.RowKit
def eEvO (e:Ev):List AV:=[.sc (.bool e.bar),.sc (.int .i64 e.val),.sc (.bool e.dot),.sc (.bool e.three),.sc (.bool e.tie),.ow 100 5 (e.stops.map eStp)]
theorem fz0(av:AV):av.fz 0=av:=by cases av<;>rfl
theorem fz0_rows (l:List (List AV)):(l.map fun r=>r.map (AV.fz 0))=l:=by
 refine (List.map_congr_left fun r _=>?_).trans (List.map_id _)
 exact (List.map_congr_left fun x _=>fz0 x).trans (List.map_id _)
theorem eEvO_fz (e:Ev):(eEvO e).map (AV.fz 1)=eEv e:=by
 show [_,_,_,_,_,AV.ls 5 ((e.stops.map eStp).map fun r=>r.map (AV.fz 0))]=_
 rw [fz0_rows];rfl
theorem eEvO_rows (l:List Ev):((l.map eEvO).map fun r=>r.map (AV.fz 1))=l.map eEv:=by
 rw [List.map_map]
 exact List.map_congr_left fun e _=>eEvO_fz e
theorem eStp_own(l:List Stp):∀ q∈l.map eStp,∀ av∈q,av.own=false:=fun q hq av hav=>by
 obtain⟨s,_,rfl⟩:=List.mem_map.1 hq
 simp only [eStp,List.mem_cons,List.not_mem_nil,or_false]at hav
 rcases hav with rfl|rfl|rfl|rfl|rfl<;>rfl
theorem own_shal {d:Nat} {av:AV} (h:av.own=false):av.shal d=true:=by
 cases d<;>cases av<;>first|rfl|cases h
theorem eEvO_shal (l:List Ev):∀ r∈l.map eEvO,∀ av∈r,av.shal 1=true:=fun r hr av hav=>by
 obtain⟨e,_,rfl⟩:=List.mem_map.1 hr
 simp only [eEvO,List.mem_cons,List.not_mem_nil,or_false]at hav
 rcases hav with rfl|rfl|rfl|rfl|rfl|rfl
 ·rfl
 ·rfl
 ·rfl
 ·rfl
 ·rfl
 ·show ((e.stops.map eStp).all fun r=>r.all (AV.shal 0))=true
  rw [List.all_eq_true]
  intro q hq
  rw [List.all_eq_true]
  exact fun x hx=>own_shal (eStp_own _ q hq x hx)
end
section
open Go.RowKit
theorem clnStpO (l:List Stp) (h:l.length≤100000):Cto truB 0 Tryz.prog 51 [.ls 5 (l.map eStp)] [] 0 (.sl 0) [(0,.row 100 5 (l.map eStp))] 1:=by
 refine Cto.intro truS Tryz.func51 rfl Tryz.ntmps51 (Nat.le_of_ble_eq_true rfl) rfl fun w0 F0 fp pg hB=>?_
 dsimp only [number,Nat.reduceAdd]
 repeat refine W.go rfl ?_
 refine (?_:WL _ _ _ _ _ _)
 refine WL.nlq rfl rfl fun b hb=>?_
 cases b with
 | true =>
  have e:=hb rfl
  repeat (first|refine W.go rfl ?_|refine WL.nil ?_|refine W.condT rfl ?_)
  refine (?_:W _ _ _ _ _)
  refine W.tr (Tr.nil (t:=2) 100 5 rfl rfl) ?_
  rw [e]
  refine W.tr (σ':=⟨[(2,.sl 0)],[(0,.row 100 5 [])],1⟩) (zqt id) ?_
  exact W.ret (finM rfl rfl rfl rfl rfl)
 | false =>
  repeat (first|refine W.go rfl ?_|refine WL.nil ?_|refine WL.ev rfl ?_|refine WL.app rfl rfl rfl zqs ?_|refine W.condF rfl ?_)
  refine (?_:W _ _ _ _ _)
  refine W.tr (σ':=⟨[(2,.sl 0)],[(0,.row 100 5 (l.map eStp))],1⟩) (zqu (fun q=>bif Nat.beq q 0 then 1 else q) (by repeat (first|exact trivial|refine ⟨⟨?_,?_,?_⟩,?_⟩|rfl|exact congrArg (fun q=>some (AO.row _ _ q)) (by first|rfl|(simp;done)|(simp [eInt];done)|(simp [eLk];done)))) rfl) ?_
  exact W.ret (finM rfl rfl rfl rfl rfl)
def ownK (l:List Ev)(k:Nat):List (List AV):=((tie0 l).take k).map eEvO++(l.drop k).map eEv
theorem ownK_0(l:List Ev):ownK l 0=l.map eEv:=by unfold ownK;simp
theorem ownK_all(l:List Ev):ownK l l.length=(tie0 l).map eEvO:=by
 unfold ownK
 rw [List.drop_length,List.map_nil,List.append_nil,show l.length=(tie0 l).length from(tie0_len l).symm,List.take_length]
theorem ownK_len {l:List Ev} {k:Nat} (h:k≤l.length):(ownK l k).length=l.length:=by
 unfold ownK
 rw [List.length_append,List.length_map,List.length_map,List.length_take,List.length_drop,tie0_len];omega
theorem ownK_at {l:List Ev} {k:Nat} (h:k<l.length):(ownK l k)[k]?=some (eEv l[k]):=by
 have hl:(((tie0 l).take k).map eEvO).length=k:=by rw [List.length_map,List.length_take,tie0_len];omega
 unfold ownK
 rw [List.getElem?_append_right (by omega),hl,Nat.sub_self,List.getElem?_map,List.getElem?_drop,Nat.add_zero,List.getElem?_eq_getElem h];rfl
theorem tie0_get {l:List Ev} {k:Nat} (h:k<l.length):(tie0 l)[k]'(by rw [tie0_len];exact h)=if k=0 then { l[k]with tie:=false } else l[k]:=by
 cases l with
 | nil=>exact absurd h (Nat.not_lt_zero _)
 | cons a r =>
  cases k with
  | zero=>rfl
  | succ k=>rw [if_neg (Nat.succ_ne_zero k)];rfl
theorem ownK_set {l:List Ev} {k:Nat} (h:k<l.length):(ownK l k).set k (eEvO ((tie0 l)[k]'(by rw [tie0_len];exact h)))=ownK l (k+1):=by
 have hl:(((tie0 l).take k).map eEvO).length=k:=by rw [List.length_map,List.length_take,tie0_len];omega
 unfold ownK
 rw [List.set_append_right _ _ (by omega),hl,Nat.sub_self,List.drop_eq_getElem_cons h,List.map_cons,List.set_cons_zero,List.take_succ_eq_append_getElem (by rw [tie0_len];exact h),List.map_append,List.append_assoc]
 rfl
theorem ownK_s {l:List Ev} {k:Nat} (h:k<l.length)(hk:0<k):(ownK l k).set k ((eEv l[k]).set 5 (.ow 100 5 (l[k].stops.map eStp)))=ownK l (k+1):=by
 rw [← ownK_set h,tie0_get h,if_neg (by omega)];rfl
theorem ownK_s0 {l:List Ev} (h:0<l.length):((ownK l 0).set 0 (putL 4 [.sc (.bool false)] (eEv l[0]))).set 0 ((putL 4 [.sc (.bool false)] (eEv l[0])).set 5 (.ow 100 5 (l[0].stops.map eStp)))=ownK l 1:=by
 rw [List.set_set,← ownK_set h,tie0_get h,if_pos rfl];rfl
theorem stlN_at {evs:List Ev} {n k:Nat} (h:n<evs.length):(stlN evs n k)[n]?=some { evs[n]with stops:=(evs[n].stops.take k).map (stlS evs n)++evs[n].stops.drop k }:=by
 rw [List.getElem?_eq_getElem (by rw [stlN_len];exact h)]
 simp only [stlN,List.getElem_mapIdx]
 simp
theorem stlN_set {evs:List Ev} {n k:Nat} (h:n<evs.length):((stlN evs n 0).map eEvO).set n (eEvO { evs[n]with stops:=(evs[n].stops.take k).map (stlS evs n)++evs[n].stops.drop k })=(stlN evs n k).map eEvO:=by
 rw [← List.map_set]
 congr 1
 apply List.ext_getElem (by rw [List.length_set,stlN_len,stlN_len])
 intro i h1 h2
 rw [List.getElem_set]
 simp only [stlN,List.getElem_mapIdx]
 by_cases e:n=i
 ·subst e
  rw [if_pos rfl,if_neg (Nat.lt_irrefl n),if_pos rfl]
 ·rw [if_neg e]
  by_cases e2:i<n
  ·rw [if_pos e2,if_pos e2]
  ·rw [if_neg e2,if_neg (fun h=>e h.symm),if_neg e2,if_neg (fun h=>e h.symm)]
theorem stlN_setE {evs:List Ev} {n k:Nat} (h:n<evs.length):((stlN evs n 0).map eEv).set n (eEv { evs[n] with stops:=(evs[n].stops.take k).map (stlS evs n)++evs[n].stops.drop k })=(stlN evs n k).map eEv:=by
 have:=congrArg (fun l:List (List AV)=>l.map fun r=>r.map (AV.fz 1)) (stlN_set (k:=k) h)
 simp only [List.map_set,eEvO_rows,eEvO_fz] at this
 exact this
def stpK (evs:List Ev)(n k:Nat)(l:List Stp):List Stp:=(l.take k).map (stlS evs n)++l.drop k
theorem stpK_0(evs:List Ev)(n:Nat)(l:List Stp):stpK evs n 0 l=l:=by unfold stpK;simp
theorem stpK_len(evs:List Ev)(n k:Nat)(l:List Stp):(stpK evs n k l).length=l.length:=by
 unfold stpK;rw [List.length_append,List.length_map,List.length_take,List.length_drop];omega
theorem stpK_at {evs:List Ev} {n k:Nat} {l:List Stp} (h:k<l.length):((stpK evs n k l).map eStp)[k]?=some (eStp l[k]):=by
 unfold stpK
 have hl:((l.take k).map (stlS evs n)).length=k:=by rw [List.length_map,List.length_take];omega
 rw [List.getElem?_map,List.getElem?_append_right (by omega),hl,Nat.sub_self,List.getElem?_drop,Nat.add_zero,List.getElem?_eq_getElem h];rfl
theorem stpK_set {evs:List Ev} {n k:Nat} {l:List Stp} (h:k<l.length) {m:Int} (hm:m=min l[k].2.2.2.2 (longestN evs n l[k].1)):((stpK evs n k l).map eStp).set k (putL 4 [.sc (.int .i64 m)] (eStp l[k]))=(stpK evs n (k+1) l).map eStp:=by
 subst hm
 have e:putL 4 [.sc (.int .i64 (min l[k].2.2.2.2 (longestN evs n l[k].1:Int)))] (eStp l[k])=eStp (stlS evs n l[k]):=rfl
 have hl:((l.take k).map (stlS evs n)).length=k:=by rw [List.length_map,List.length_take];omega
 rw [e,← List.map_set]
 congr 1
 unfold stpK
 rw [List.set_append_right _ _ (by omega),hl,Nat.sub_self,List.drop_eq_getElem_cons h,List.set_cons_zero,List.take_succ_eq_append_getElem h,List.map_append,List.append_assoc];rfl
theorem stlN_stops {evs:List Ev} {n k i:Nat} (h:i<evs.length):((stlN evs n k)[i]'(by rw [stlN_len];exact h)).stops.length=evs[i].stops.length:=by
 simp only [stlN,List.getElem_mapIdx]
 split
 ·exact List.length_map _
 ·split
  ·show((evs[i].stops.take k).map _++evs[i].stops.drop k).length=_
   rw [List.length_append,List.length_map,List.length_take,List.length_drop];omega
  ·rfl
theorem settle_G (cs:List (Int×Int×Bool)) (st:List Int) (l:List Ev) (h1:cs.length≤64) (h2:st.length≤64) (hl:l.length≤400) (h20:∀ e∈l,e.stops.length≤20) :
  Cto truB 0 Tryz.prog 84 [.ag [.ls 3 (cs.map eCrs),.ls 1 (st.map eInt),.sl 0]] [(0,.row 36 6 (l.map eEv))] 1 (.tu []) [(0,.rwn 36 6 ((stl l).map eEvO))] 1:=by
 refine Cto.intro truS Tryz.func84 rfl Tryz.ntmps84 (Nat.le_of_ble_eq_true rfl) rfl fun w0 F0 fp pg hB=>?_
 dsimp only [number,Nat.reduceAdd]
 have hml:(l.map eEv).length=l.length:=List.length_map _
 repeat (first|refine W.go rfl ?_|refine WL.ev rfl ?_|refine WL.len rfl rfl zql ?_)
 refine (?_:W _ _ _ _ _)
 refine W.tr (Tr.widen 0 rfl) ?_
 dsimp only [St.upd]
 rw [← ownK_0]
 refine W.loop (fun k:Nat=>k≤l.length) (fun k=>⟨[(1,.pt 1 0 0),(8,.sc (.int .i64 l.length)),(9,.sc (.int .i64 k))],[(1,.box 28 [.ls 3 (cs.map eCrs),.ls 1 (st.map eInt),.sl 0]),(0,.rwn 36 6 (ownK l k))],2⟩) (fun k=>l.length - k) 0 (by omega) (zqt id) fun k hk=>?_
 have hkl:=ownK_len hk
 by_cases hlt:k < l.length
 ·have hat:=ownK_at hlt
  have h20k:=h20 _ (List.getElem_mem hlt)
  by_cases hz:k=0
  ·subst hz
   repeat (first|refine W.gob rfl ?_|refine WL.nil ?_|refine WL.bt rfl rfl rfl zqo ?_|refine WL.e1 rfl ?_|refine WL.ixs rfl rfl zqs ?_|refine W.condT rfl ?_)
   refine (?_:WL _ _ _ _ _ _)
   refine WL.stW rfl rfl rfl rfl hat (by show 4+1≤6;omega) rfl ?_
   have hs:=ownK_s0 hlt
   have hat2:((ownK l 0).set 0 (putL 4 [.sc (.bool false)] (eEv l[0])))[0]?=some (putL 4 [.sc (.bool false)] (eEv l[0])):=List.getElem?_set_self (by omega)
   have hRl:((ownK l 0).set 0 (putL 4 [.sc (.bool false)] (eEv l[0]))).length=l.length:=by rw [List.length_set];exact hkl
   dsimp only [Int.ofNat_zero,Int.toNat_natCast,Int.toNat_zero]
   obtain ⟨R,hR⟩:∃ z,(ownK l 0).set 0 (putL 4 [.sc (.bool false)] (eEv l[0]))=z:=⟨_,rfl⟩
   rw [hR] at hs hat2 hRl
   first|rw [hR]|(have hR':(ownK l 0).set ((0:Nat):Int).toNat (putL 4 [.sc (.bool false)] (eEv l[0]))=R:=hR;rw [hR'])
   repeat refine WL.nil ?_
   refine (?_:W _ _ _ _ _)
   refine W.of_wa zqk ?_
   refine WA.dt [false,false,false,false,false,false,false,false,false,true,false,false,true] [1] [1,0] 12 zqk zqk zqk ⟨rfl,trivial⟩ ⟨rfl,rfl,trivial⟩ ?_
   refine DTK.st rfl zqk rfl ?_
   refine DTK.st rfl zqk rfl ?_
   refine DTK.st rfl zqk rfl ?_
   refine DTK.st rfl zqk rfl ?_
   refine DTK.st rfl zqk rfl ?_
   refine DTK.st rfl zqk rfl ?_
   refine DTK.ixs rfl zqk rfl ⟨by omega,by omega⟩ ?_
   refine DTK.st rfl zqk rfl ?_
   refine DTK.ldw rfl zqk rfl hat2 rfl rfl ?_
   refine DTK.ct (truH _) [] rfl rfl (callF Tryz.func51 rfl rfl) (clnStpO l[0].stops zqo) rfl rfl rfl trivial rfl rfl rfl rfl ⟨rfl,trivial⟩ (fun _=>⟨rfl,rfl,trivial⟩) ?_
   refine DTK.ixs rfl zqk rfl ⟨by omega,by omega⟩ ?_
   refine DTK.st rfl zqk rfl ?_
   refine DTK.stQ rfl rfl rfl rfl rfl rfl rfl (.inl rfl) rfl rfl hat2 (by show 5 < 6;omega) rfl ⟨rfl,trivial⟩ (fun h=>by cases h) ?_
   refine DTK.nil ?_
   refine W.tr (Tr.close_ 0 rfl rfl rfl hat2 (by show 5 < 6;omega) (hs)) ?_
   dsimp only [St.upd,St.drop,rem,cond,Nat.beq]
   repeat (first|refine W.gob rfl ?_|refine WL.nil ?_|refine WL.e1 rfl ?_|refine WL.ar rfl rfl z40i ?_)
   refine ⟨1,by omega,by omega,?_⟩
   exact (zqt id)
  ·have hs:=ownK_s hlt zqo
   repeat (first|refine W.gob rfl ?_|refine WL.nil ?_|refine WL.bt rfl rfl rfl zqo ?_|refine WL.bf rfl rfl rfl zqo ?_|refine WL.e1 rfl ?_|refine W.condT rfl ?_|refine W.condF rfl ?_)
   refine (?_:W _ _ _ _ _)
   refine W.of_wa zqk ?_
   refine WA.dt [false,false,false,false,false,false,false,false,false,true,false,false,true] [1] [1,0] 12 zqk zqk zqk ⟨rfl,trivial⟩ ⟨rfl,rfl,trivial⟩ ?_
   refine DTK.st rfl zqk rfl ?_
   refine DTK.st rfl zqk rfl ?_
   refine DTK.st rfl zqk rfl ?_
   refine DTK.st rfl zqk rfl ?_
   refine DTK.st rfl zqk rfl ?_
   refine DTK.st rfl zqk rfl ?_
   refine DTK.ixs rfl zqk rfl ⟨by omega,by omega⟩ ?_
   refine DTK.st rfl zqk rfl ?_
   refine DTK.ldw rfl zqk rfl hat rfl rfl ?_
   refine DTK.ct (truH _) [] rfl rfl (callF Tryz.func51 rfl rfl) (clnStpO l[k].stops zqo) rfl rfl rfl trivial rfl rfl rfl rfl ⟨rfl,trivial⟩ (fun _=>⟨rfl,rfl,trivial⟩) ?_
   refine DTK.ixs rfl zqk rfl ⟨by omega,by omega⟩ ?_
   refine DTK.st rfl zqk rfl ?_
   refine DTK.stQ rfl rfl rfl rfl rfl rfl rfl (.inl rfl) rfl rfl hat (by show 5 < 6;omega) rfl ⟨rfl,trivial⟩ (fun h=>by cases h) ?_
   refine DTK.nil ?_
   refine W.tr (Tr.close_ 0 rfl rfl rfl hat (by show 5 < 6;omega) (hs)) ?_
   dsimp only [St.upd,St.drop,rem,cond,Nat.beq]
   repeat (first|refine W.gob rfl ?_|refine WL.nil ?_|refine WL.e1 rfl ?_|refine WL.ar rfl rfl z40i ?_)
   refine ⟨k+1,by omega,by omega,?_⟩
   exact (zqt id)
 obtain rfl:k=l.length:=by omega
 rw [ownK_all]
 have htl:=tie0_len l
 have ht20:=tie0_20 h20
 have hst:stl l=stlE (tie0 l):=rfl
 rw [hst]
 obtain ⟨E,hE⟩:∃ z,tie0 l=z:=⟨_,rfl⟩
 rw [hE] at htl ht20 ⊢
 clear hkl hlt hk hst
 have hmE:(E.map eEvO).length=E.length:=List.length_map _
 repeat (first|refine W.gob rfl ?_|refine WL.nil ?_|refine WL.bf rfl rfl rfl zqo ?_|refine WL.e1 rfl ?_|refine WL.len rfl rfl zql ?_|refine W.condF rfl ?_)
 refine (?_:W _ _ _ _ _)
 rw [show E.map eEvO=(stlN E 0 0).map eEvO by rw [stlN_0]]
 refine W.loop (fun n:Nat=>n≤E.length) (fun n=>⟨[(1,.pt 1 0 0),(34,.sc (.int .i64 E.length)),(35,.sc (.int .i64 n))],[(1,.box 28 [.ls 3 (cs.map eCrs),.ls 1 (st.map eInt),.sl 0]),(0,.rwn 36 6 ((stlN E n 0).map eEvO))],2⟩) (fun n=>E.length - n) 0 (by omega) (zqt id) fun n hn=>?_
 have hnl:((stlN E n 0).map eEvO).length=E.length:=by rw [List.length_map,stlN_len]
 by_cases hlt:n < E.length
 rotate_left
 ·obtain rfl:n=E.length:=by omega
  rw [stlN_all]
  repeat (first|refine W.gob rfl ?_|refine WL.nil ?_|refine WL.bf rfl rfl rfl zqo ?_|refine W.condF rfl ?_)
  refine finTr (σ':=⟨[],[(0,.rwn 36 6 ((stlE E).map eEvO))],1⟩) (zqt id) ?_
  exact finMu rfl rfl rfl rfl rfl
 have hsn:(stlN E n 0)[n]?=some E[n]:=by rw [stlN_at hlt];simp
 have hat:((stlN E n 0).map eEvO)[n]?=some (eEvO E[n]):=by rw [List.getElem?_map,hsn];rfl
 have hn20:=ht20 _ (List.getElem_mem hlt)
 have hS20:∀ j k (h:k < (stlN E n j).length),((stlN E n j)[k]'h).stops.length≤20:=fun j k h=>by
  have hk:k < E.length:=by rw [stlN_len] at h;exact h
  have:=stlN_stops (evs:=E) (n:=n) (k:=j) hk
  have h5:=ht20 _ (List.getElem_mem hk)
  omega
 repeat (first|refine W.gob rfl ?_|refine WL.nil ?_|refine WL.bt rfl rfl rfl zqo ?_|refine WL.e1 rfl ?_|refine WL.ixs rfl rfl zqs ?_|refine W.condT rfl ?_)
 refine (?_:WL _ _ _ _ _ _)
 refine WL.tr (Tr.open_ 0 n 5 rfl hat rfl (eStp_own _) rfl) ?_
 dsimp only [St.upd,St.new,Nat.reduceAdd]
 refine (?_:WL _ _ _ _ _ _)
 refine WL.ldQ rfl rfl rfl rfl hat (by show 5 < 6;omega) ?_
 repeat (first|refine W.gob rfl ?_|refine WL.nil ?_|refine WL.e1 rfl ?_|refine WL.len rfl rfl zql ?_)
 refine (?_:W _ _ _ _ _)
 refine W.loop (fun j:Nat=>j≤E[n].stops.length) (fun j=>⟨[(1,.pt 1 0 0),(3,.sc (.int .i64 n)),(34,.sc (.int .i64 E.length)),(35,.sc (.int .i64 n)),(44,.sc (.int .i64 E[n].stops.length)),(45,.sc (.int .i64 j))],[(1,.box 28 [.ls 3 (cs.map eCrs),.ls 1 (st.map eInt),.sl 0]),(0,.rwo 36 6 ((stlN E n 0).map eEvO) n 5 (.sl 2)),(2,.row 100 5 ((stpK E n j E[n].stops).map eStp))],3⟩) (fun j=>E[n].stops.length - j) 0 (by omega) (zqu (fun q=>q) (by repeat (first|exact trivial|refine ⟨⟨?_,?_,?_⟩,?_⟩|rfl|exact congrArg (fun q=>some (AO.row _ _ q)) (by rw [stpK_0])|exact congrArg (fun q=>some (AO.rwn _ _ q)) (by rw [stpK_0]))) rfl) fun j hj=>?_
 have hjl:((stpK E n j E[n].stops).map eStp).length=E[n].stops.length:=by rw [List.length_map,stpK_len]
 by_cases hjt:j < E[n].stops.length
 ·have hrow:=stpK_at (evs:=E) (n:=n) hjt
  have hLC:=pLong_FS ⟨cs,st,stlN E n j⟩ ⟨h1,h2,by show (stlN E n j).length≤420;rw [stlN_len];omega,hS20 j⟩ n E[n].stops[j].1
  have hLC:Ctr Tryz.prog 144 [.ag [.ls 3 (cs.map eCrs),.ls 1 (st.map eInt),.ls 6 ((stlN E n j).map eEv)],.sc (.int .i64 n),.sc (.int .i64 E[n].stops[j].1)] (.sc (.int .i64 (longestN E n E[n].stops[j].1))):=by
   have h:=hLC
   rw [show longestN (Pce.mk cs st (stlN E n j)).evs n E[n].stops[j].1=longestN E n E[n].stops[j].1 from stlN_long _ _ _ _ _] at h
   exact h
  have hle:(((stlN E n 0).map eEvO).map fun r=>r.map (AV.fz 1)).set n (((eEvO E[n]).map (AV.fz 1)).set 5 (.ls 5 ((stpK E n j E[n].stops).map eStp)))=(stlN E n j).map eEv:=by
   rw [eEvO_rows,eEvO_fz]
   exact stlN_setE hlt
  have hmin:(if (longestN E n E[n].stops[j].1:Int) < E[n].stops[j].2.2.2.2 then (longestN E n E[n].stops[j].1:Int) else E[n].stops[j].2.2.2.2)=min E[n].stops[j].2.2.2.2 (longestN E n E[n].stops[j].1:Int):=by
   rw [Int.min_def];split<;>split<;>omega
  have hset:=stpK_set (evs:=E) (n:=n) hjt rfl
  have hfin:=hset
  repeat (first|refine W.gob rfl ?_|refine WL.nil ?_|refine WL.bt rfl rfl rfl zqo ?_|refine WL.e1 rfl ?_|refine WL.ixs rfl rfl zqs ?_|refine W.condT rfl ?_)
  refine (?_:WL _ _ _ _ _ _)
  refine WL.ldQ rfl rfl rfl rfl hat (by show 5 < 6;omega) ?_
  repeat (first|refine WL.nil ?_|refine WL.e1 rfl ?_|refine WL.ixs rfl rfl zqs ?_)
  refine (?_:W _ _ _ _ _)
  refine W.of_wa zqk ?_
  refine WA.dt [false,false,false,false,false,false,false,false,false,false,false,false,false,false,false,true] [1] [1,0,2] 15 zqk zqk zqk ⟨rfl,trivial⟩ ⟨rfl,rfl,rfl,trivial⟩ ?_
  refine DTK.st rfl zqk rfl ?_
  refine DTK.st rfl zqk rfl ?_
  refine DTK.vl rfl zqk (WV.nch rfl rfl) ?_
  refine DTK.st rfl zqk rfl ?_
  refine DTK.ldr rfl zqk rfl hrow rfl rfl ?_
  refine DTK.st rfl zqk rfl ?_
  refine DTK.st rfl zqk rfl ?_
  refine DTK.st rfl zqk rfl ?_
  refine DTK.vl rfl zqk (WV.nch rfl rfl) ?_
  refine DTK.st rfl zqk rfl ?_
  refine DTK.ldr rfl zqk rfl hrow rfl rfl ?_
  refine DTK.vl rfl zqk (WV.lendX (truH _) rfl (callF Tryz.func144 rfl rfl) rfl (.cons (Lent.ag (.cons (Lent.pu rfl) (.cons (Lent.pu rfl) (.cons (Lent.rwo 1 rfl (Lent.row rfl) (eEvO_shal _) hat (by show 5 < 6;omega) hle) .nil)))) (.cons (Lent.pu rfl) (.cons (Lent.pu rfl) .nil))) truST hLC.g) ?_
  refine DTK.vl rfl zqk (mmV_as rfl hmin) ?_
  refine DTK.vl rfl zqk (WV.nch rfl rfl) ?_
  refine DTK.st rfl zqk rfl ?_
  refine DTK.sto rfl rfl rfl rfl rfl rfl rfl rfl rfl rfl rfl rfl (put_row hrow (by show 4+1≤5;omega) rfl) rfl ⟨rfl,trivial⟩ (fun h=>by cases h) ?_
  refine DTK.nil ?_
  repeat (first|refine W.gob rfl ?_|refine WL.nil ?_|refine WL.e1 rfl ?_|refine WL.ar rfl rfl z40i ?_)
  refine ⟨j+1,by omega,by omega,?_⟩
  exact (zqu (fun q=>q) (by repeat (first|exact trivial|refine ⟨⟨?_,?_,?_⟩,?_⟩|rfl|exact congrArg (fun q=>some (AO.row _ _ q)) hfin|exact congrArg (fun q=>some (AO.rwn _ _ q)) hfin)) rfl)
 obtain rfl:j=E[n].stops.length:=by omega
 have hcl:((stlN E n 0).map eEvO).set n ((eEvO E[n]).set 5 (.ow 100 5 ((stpK E n E[n].stops.length E[n].stops).map eStp)))=(stlN E (n+1) 0).map eEvO :=
  (stlN_set (k:=E[n].stops.length) hlt).trans (by rw [stlN_next hlt rfl])
 repeat (first|refine W.gob rfl ?_|refine WL.nil ?_|refine WL.bf rfl rfl rfl zqo ?_|refine WL.e1 rfl ?_|refine WL.ar rfl rfl z40i ?_|refine W.condF rfl ?_)
 refine ⟨n+1,by omega,by omega,?_⟩
 refine Tr.trans (Tr.close_ 0 rfl rfl rfl hat (by show 5 < 6;omega) hcl) ?_
 exact (zqt id)
end
section
open Go.RowKit
def eVt (v:Vt):List AV:=[.sc (.bool v.1.bar),.sc (.int .i64 v.1.val),.sc (.bool v.1.dot),.sc (.bool v.1.three),.sc (.bool v.1.tie),.ls 5 (v.1.stops.map eStp),.sc (.int .i64 v.2)]
theorem eVt_own(l:List Vt):∀ q∈l.map eVt,∀ av∈q,av.own=false:=fun q hq av hav=>by
 obtain⟨s,_,rfl⟩:=List.mem_map.1 hq
 simp only [eVt,List.mem_cons,List.not_mem_nil,or_false]at hav
 rcases hav with rfl|rfl|rfl|rfl|rfl|rfl|rfl<;>rfl
theorem cst1_FS (v:Vt) (e:Ev) (h1:v.1.stops.length≤20) (h2:e.stops.length≤20):Ctr Tryz.prog 82 [.ag (eVt v),.pr (eEv e)] (.sc (.bool (evEq v.1 e))):=by
 have hE:=pEqual_FS v.1 e h1 h2
 refine zqe Tryz.func82 Tryz.ntmps82 fun w0 F0=>?_;dsimp only [St.init,number,Nat.reduceAdd]
 repeat refine W.go rfl ?_
 refine (?_:WL _ _ _ _ _ _)
 refine WL.vl rfl (zqc Tryz.func79 hE) ?_
 repeat refine WL.ev rfl ?_
 refine (?_:W _ _ _ _ _)
 exact W.ret zqr
def ixV (l:List Vt)(e:Ev):Int:=if (l.any fun v=>evEq v.1 e)=true then ((l.findIdx (fun v=>evEq v.1 e):Nat):Int)else -1
theorem ixV_at {l:List Vt} {e:Ev} {k:Nat} (hk:k<l.length) (h1:evEq l[k].1 e=true) (h2:∀ i (hi:i<k),evEq (l[i]'(by omega)).1 e=false):ixV l e=k:=by
 have hh:(l.any fun v=>evEq v.1 e)=true:=List.any_eq_true.2 ⟨l[k],List.getElem_mem hk,h1⟩
 unfold ixV
 rw [if_pos hh,(List.findIdx_eq hk).2 ⟨h1,h2⟩]
theorem ixV_no {l:List Vt} {e:Ev} (h:∀ i(hi:i<l.length),evEq l[i].1 e=false):ixV l e=-1:=by
 have hh:(l.any fun v=>evEq v.1 e)=false:=by
  rw [List.any_eq_false]
  intro x hx
  obtain⟨i,hi,rfl⟩:=List.getElem_of_mem hx
  simp [h i hi]
 unfold ixV
 rw [hh];rfl
theorem ixV_or (l:List Vt) (e:Ev):(∃ k,∃ h:k<l.length,ixV l e=(k:Int)∧evEq l[k].1 e=true∧∀ i (hi:i<k),evEq (l[i]'(by omega)).1 e=false)∨(ixV l e=-1∧∀ i (hi:i<l.length),evEq l[i].1 e=false):=by
 cases hh:l.any fun v=>evEq v.1 e with
 | false =>
  have h:∀ i (hi:i<l.length),evEq l[i].1 e=false:=fun i hi=>by
   have:=List.any_eq_false.1 hh l[i] (List.getElem_mem hi)
   simpa using this
  exact .inr ⟨ixV_no h,h⟩
 | true =>
  obtain ⟨x,hx,h1⟩:=List.any_eq_true.1 hh
  have hlt:l.findIdx (fun v=>evEq v.1 e)<l.length:=List.findIdx_lt_length_of_exists ⟨x,hx,h1⟩
  have hg:evEq (l[l.findIdx (fun v=>evEq v.1 e)]'hlt).1 e=true:=List.findIdx_getElem (p:=fun v:Vt=>evEq v.1 e) (w:=hlt)
  have hn:∀ i (hi:i<l.findIdx (fun v=>evEq v.1 e)),evEq (l[i]' zqo).1 e=false:=fun i hi=>by
   have:=List.not_of_lt_findIdx (p:=fun v:Vt=>evEq v.1 e) hi
   simpa using this
  exact .inl ⟨_,hlt,ixV_at hlt hg hn,hg,hn⟩
theorem idxV_FS (l:List Vt) (e:Ev) (hl:l.length≤100000) (h20:∀ v∈l,v.1.stops.length≤20) (he:e.stops.length≤20):Ctr Tryz.prog 81 [.ls 7 (l.map eVt),.fn 82 [.pr (eEv e)]] (.sc (.int .i64 (ixV l e))):=by
 refine zqe Tryz.func81 Tryz.ntmps81 fun w0 F0=>?_;dsimp only [St.init,number,Nat.reduceAdd]
 repeat (first|refine W.go rfl ?_|refine WL.ev rfl ?_|refine WL.len rfl rfl zql ?_)
 refine (?_:W _ _ _ _ _)
 refine W.loop (fun k:Nat=>k≤l.length∧∀ i (hi:i < k) (h:i < l.length),evEq l[i].1 e=false) (fun k=>⟨[(0,.ls 7 (l.map eVt)),(1,.fn 82 [.pr (eEv e)]),(7,.sc (.int .i64 l.length)),(8,.sc (.int .i64 k))],[],0⟩) (fun k=>l.length - k) 0 ⟨by omega,fun i hi=>by omega⟩ (zqt id) fun k hk=>?_
 obtain ⟨hk,hno⟩:=hk
 by_cases hlt:k < l.length
 ·repeat (first|refine W.gob rfl ?_|refine WL.nil ?_|refine WL.bt rfl rfl rfl zqo ?_|refine WL.e1 rfl ?_|refine WL.idx rfl rfl zqo zqm ?_|refine W.condT rfl ?_)
  refine (?_:WL _ _ _ _ _ _)
  refine WL.vl rfl (WV.callV (truH _) rfl (callF Tryz.func82 rfl rfl) rfl rfl rfl rfl rfl (cst1_FS l[k] e (h20 _ (List.getElem_mem hlt)) he).g) ?_
  cases hb:evEq l[k].1 e with
  | true =>
   rw [ixV_at hlt hb fun i hi=>hno i hi (by omega)]
   repeat (first|refine W.gob rfl ?_|refine WL.nil ?_|refine WL.e1 rfl ?_|refine W.condT rfl ?_)
   refine (?_:W _ _ _ _ _)
   exact W.ret zqr
  | false =>
   repeat (first|refine W.gob rfl ?_|refine WL.nil ?_|refine WL.e1 rfl ?_|refine WL.ar rfl rfl z40i ?_|refine W.condF rfl ?_)
   exact ⟨k+1,⟨by omega,fun i hi h=>by
    by_cases e:i=k
    ·subst e;exact hb
    ·exact hno i zqo h⟩,by omega,(zqt id)⟩
 ·rw [ixV_no fun i hi=>hno i (by omega) hi]
  repeat (first|refine W.gob rfl ?_|refine WL.nil ?_|refine WL.bf rfl rfl rfl zqo ?_|refine WL.e1 rfl ?_|refine W.condF rfl ?_)
  refine (?_:W _ _ _ _ _)
  exact W.ret zqr
def eVL (l:List Vt):List AV:=[.ow 144 7 (l.map eVt)]
theorem eVL_at {V:List (List Vt)} {i:Nat} (h:i<V.length):(V.map eVL)[i]?=some (eVL V[i]):=by rw [List.getElem?_map,List.getElem?_eq_getElem h];rfl
theorem eVL_set {V:List (List Vt)} {i:Nat} (l:List Vt) {l0:List Vt}:(V.map eVL).set i ((eVL l0).set 0 (.ow 144 7 (l.map eVt)))=(V.set i l).map eVL:=by rw [List.map_set];rfl
theorem vt_put {l:List Vt} {k:Nat} (h:k<l.length):(l.map eVt).set k (putL 6 [.sc (.int .i64 (l[k].2+1))] (eVt l[k]))=(l.set k (l[k].1,l[k].2+1)).map eVt:=by rw [List.map_set];rfl
theorem cast_G (V:List (List Vt)) (i:Nat) (e:Ev) (hi:i < V.length) (hV:V.length≤1000) (hl:V[i].length≤100000) (hc:∀ v∈V[i],v.1.stops.length≤20∧0≤v.2∧v.2≤100000) (he:e.stops.length≤20) :
  Cto truB 0 Tryz.prog 80 [.sc (.int .i64 (i:Int)),.ag (eEv e),.pt 0 0 0] [(0,.box 140 [.sl 1]),(1,.rwn 142 1 (V.map eVL))] 2 (.tu []) [(0,.box 140 [.sl 1]),(1,.rwn 142 1 ((V.set i (cstV V[i] e)).map eVL))] 2:=by
 have hat:=eVL_at hi
 have hVl:(V.map eVL).length=V.length:=List.length_map _
 have hC:=idxV_FS V[i] e zqo (fun v hv=>(hc v hv).1) he
 have hset:=fun l:List Vt=>eVL_set (V:=V) (i:=i) (l0:=V[i]) l
 obtain ⟨L,hL⟩:∃ z,V[i]=z:=⟨_,rfl⟩
 rw [hL] at hat hl hc hC hset ⊢
 have hLl:(L.map eVt).length=L.length:=List.length_map _
 refine Cto.intro truS Tryz.func80 rfl Tryz.ntmps80 (Nat.le_of_ble_eq_true rfl) rfl fun w0 F0 fp pg hB=>?_
 dsimp only [number,Nat.reduceAdd]
 repeat (first|refine W.gob rfl ?_|refine WL.nil ?_|refine WL.e1 rfl ?_|refine WL.ixs rfl rfl zqs ?_)
 refine (?_:WL _ _ _ _ _ _)
 refine WL.tr (Tr.open_ 1 i 0 rfl hat rfl (eVt_own _) rfl) ?_
 dsimp only [St.upd,St.new,Nat.reduceAdd]
 refine WL.ldQ rfl rfl rfl rfl hat (by show 0 < 1;omega) ?_
 refine (?_:WL _ _ _ _ _ _)
 refine WL.vl rfl (WV.mkf rfl rfl) ?_
 refine WL.vl rfl (WV.lendV (truH _) rfl (callF Tryz.func81 rfl rfl) rfl rfl rfl rfl rfl rfl truST hC.g) ?_
 rcases ixV_or L e with ⟨k,hk,hx,hy,hn⟩|⟨hx,hn⟩
 ·rw [hx]
  have hcv:=cstV_at hk hy hn
  have hrow:(L.map eVt)[k]?=some (eVt L[k]):=by rw [List.getElem?_map,List.getElem?_eq_getElem hk];rfl
  have hck:=hc _ (List.getElem_mem hk)
  have hput:=vt_put hk
  have hcl:=hset (cstV L e)
  rw [hcv] at hcl ⊢
  rw [← hput] at hcl
  repeat (first|refine W.gob rfl ?_|refine WL.nil ?_|refine WL.bf rfl rfl rfl zqo ?_|refine WL.e1 rfl ?_|refine WL.ixs rfl rfl zqs ?_|refine W.condF rfl ?_)
  refine (?_:WL _ _ _ _ _ _)
  refine WL.ldQ rfl rfl rfl rfl hat (by show 0 < 1;omega) ?_
  repeat (first|refine WL.e1 rfl ?_|refine WL.ixs rfl rfl zqs ?_)
  refine (?_:WL _ _ _ _ _ _)
  refine WL.ldr rfl rfl hrow rfl rfl ?_
  repeat (first|refine WL.e1 rfl ?_|refine WL.ar rfl rfl z40i ?_|refine WL.ixs rfl rfl zqs ?_)
  refine (?_:WL _ _ _ _ _ _)
  refine WL.sto rfl rfl rfl rfl hrow (by show 6+1≤7;omega) ?_
  repeat refine WL.nil ?_
  refine finTr (Tr.close_ 1 rfl rfl rfl hat (by show 0 < 1;omega) hcl) ?_
  refine finTr (σ':=⟨[],[(0,.box 140 [.sl 1]),(1,.rwn 142 1 ((V.set i (L.set k (L[k].1,L[k].2+1))).map eVL))],2⟩) (zqt id) ?_
  exact finMu rfl rfl rfl rfl rfl
 ·rw [hx]
  have hcv:=cstV_no hn
  have hcl:=hset (cstV L e)
  rw [hcv] at hcl ⊢
  have hmm:(L++[(e,1)]).map eVt=L.map eVt++[eVt (e,1)]:=by rw [List.map_append];rfl
  rw [hmm] at hcl
  repeat (first|refine W.gob rfl ?_|refine WL.nil ?_|refine WL.bt rfl rfl rfl zqo ?_|refine WL.e1 rfl ?_|refine W.condT rfl ?_)
  refine (?_:W _ _ _ _ _)
  refine W.of_wa zqk ?_
  refine WA.dt [false,false,false,false,false,false,false,false,true,true,false,true] [0,2] [0,2,1] 11 zqk zqk zqk ⟨rfl,rfl,trivial⟩ ⟨rfl,rfl,rfl,trivial⟩ ?_
  refine DTK.st rfl zqk rfl ?_
  refine DTK.st rfl zqk rfl ?_
  refine DTK.st rfl zqk rfl ?_
  refine DTK.st rfl zqk rfl ?_
  refine DTK.ixs rfl zqk rfl ⟨by omega,by omega⟩ ?_
  refine DTK.ldQ rfl zqk rfl rfl rfl hat (by show 0 < 1;omega) ?_
  refine DTK.st rfl zqk rfl ?_
  refine DTK.st rfl zqk rfl ?_
  refine DTK.bd rfl rfl rfl ⟨rfl,rfl,trivial⟩ (fun _=>⟨rfl,rfl,rfl,trivial⟩) ?_
  refine DTK.ap rfl rfl (by show (L.map eVt).length+1≤1000000000;omega) ⟨rfl,rfl,trivial⟩ (fun _=>⟨rfl,rfl,rfl,trivial⟩) ?_
  refine DTK.ixs rfl zqk rfl ⟨by omega,by omega⟩ ?_
  refine DTK.stQ rfl rfl rfl rfl rfl rfl rfl (.inr ⟨_,rfl⟩) rfl rfl hat (by show 0 < 1;omega) rfl ⟨rfl,rfl,trivial⟩ (fun h=>by cases h) ?_
  refine DTK.nil ?_
  refine finTr (Tr.close_ 1 rfl rfl rfl hat (by show 0 < 1;omega) hcl) ?_
  refine finTr (σ':=⟨[],[(0,.box 140 [.sl 1]),(1,.rwn 142 1 ((V.set i (L++[(e,1)])).map eVL))],2⟩) (zqt id) ?_
  exact finMu rfl rfl rfl rfl rfl
end
section
open Go.RowKit
theorem vtOk_F {n:Nat} {ys:List Ev} (hy:∀ e∈ys,e.stops.length≤20):∀ {P:List (Int×Int)} {N:Int} {s:VS},0≤N→VtOk n N s→VtOk n (N+P.length) (P.foldl (vtP ys) s)
 | [],N,s,hN,h=>by
  have e:N+(([]:List (Int×Int)).length:Int)=N:=by show N+0=N;omega
  rw [e];exact h
 | p::r,N,s,hN,h=>by
  have:=vtOk_F hy (P:=r) (N:=N+1) zqo (vtOk_P (p:=p) hN h hy)
  have e:N+((p::r).length:Int)=N+1+(r.length:Int):=by rw [List.length_cons];omega
  rw [List.foldl_cons,e];exact this
theorem vtOk_up {n:Nat} {N M:Int} {s:VS} (h:VtOk n N s)(hM:N≤M):VtOk n M s :=
 ⟨h.l1,h.l2,fun l hl=>by have:=h.ne l hl;omega,fun l hl v hv=>by have:=h.ev l hl v hv;omega,fun z hz=>by have:=h.ab z hz;omega⟩
def vtB (xs:List Ev) (os:List Pce) (k:Nat):VS:=(os.take k).foldl (fun s o=>vtL xs (plE o) s) (vt0 xs)
theorem vtB_s {xs:List Ev} {os:List Pce} {k:Nat} (h:k<os.length):vtB xs os (k+1)=vtL xs (plE os[k]) (vtB xs os k):=by
 unfold vtB
 rw [List.take_succ_eq_append_getElem h,List.foldl_append];rfl
theorem vtB_all(xs:List Ev)(os:List Pce):vtB xs os os.length=vtA xs os:=by
 unfold vtB vtA
 rw [List.take_length]
theorem vtB_ok {xs:List Ev} {os:List Pce} (hx:∀ e∈xs,e.stops.length≤20) (hxl:xs.length≤60) (ho:∀ o∈os,PcOk o∧o.evs.length≤60):∀ k,k≤os.length→VtOk xs.length (1+120*k) (vtB xs os k)
 | 0,_=>vtOk_0 hx
 | k+1,hk=>by
  have ih:=vtB_ok hx hxl ho k zqo
  have hlt:k<os.length:=by omega
  obtain ⟨h1,h2⟩:=ho _ (List.getElem_mem hlt)
  rw [vtB_s hlt]
  have hl:(prsA xs (plE os[k])).length≤120:=by
   have:=prs_len' (a:=xs) (b:=plE os[k]) (xs.length+(plE os[k]).length) 0 0
   have e:=plE_length os[k]
   unfold prsA;omega
  exact vtOk_up (vtOk_F (plE_20 h1) (P:=prsA xs (plE os[k])) zqo ih) zqo
def cnO(b:Pce):List Pce→Int
 | []=>0
 | o::r=>if cllX b o≠0 then cllX b o else cnO b r
def cnX(b:Pce)(os:List Pce):Int:=if pceE b≠0 then pceE b else if 64<os.length then 2 else cnO b os
def cnP (b:Pce)(os:List Pce):Pce:=if cnX b os=0 then⟨b.cs,b.st,stl (cnK (vtA (plE b) os) os.length b.evs.length)⟩ else noP
theorem cnO_no {b:Pce}:∀ {os:List Pce} {k:Nat} (h:k<os.length),(∀ i (hi:i<k),cllX b (os[i]'(by omega))=0)→cllX b os[k]≠0→cnO b os=cllX b os[k]
 | o::r,0,h,_,hx=>if_pos hx
 | o::r,k+1,h,hi,hx=>by
  have h0:cllX b o=0:=hi 0 zqo
  show (if cllX b o≠0 then _ else cnO b r)=_
  rw [if_neg (fun x=>x h0)]
  exact cnO_no (os:=r) (k:=k) (by simpa using h) (fun i hi'=>by have:=hi (i+1) (by omega);simpa using this) (by simpa using hx)
theorem cnO_ok {b:Pce}:∀ {os:List Pce},(∀ i (h:i<os.length),cllX b os[i]=0)→cnO b os=0
 | [],_=>rfl
 | o::r,h=>by
  have h0:cllX b o=0:=h 0 (by simp)
  show (if cllX b o≠0 then _ else cnO b r)=_
  rw [if_neg (fun x=>x h0)]
  exact cnO_ok (os:=r) fun i hi=>by have:=h (i+1) (by simpa using hi);simpa using this
theorem cn_1 {b:Pce} {os:List Pce} (h:pceE b≠0):cnX b os=pceE b∧cnP b os=noP:=by
 have e:cnX b os=pceE b:=if_pos h
 exact⟨e,if_neg (by rw [e];exact h)⟩
theorem cn_2 {b:Pce} {os:List Pce} (h:pceE b=0)(h2:64<os.length):cnX b os=2∧cnP b os=noP:=by
 have e:cnX b os=2:=by unfold cnX;rw [if_neg (fun x=>x h),if_pos h2]
 exact⟨e,if_neg (by rw [e];decide)⟩
theorem cn_3 {b:Pce} {os:List Pce} (h:pceE b=0)(h2:¬ 64<os.length) {k:Nat} (hk:k<os.length)(hi:∀ i (hi:i<k),cllX b (os[i]'(by omega))=0)(hx:cllX b os[k]≠0):cnX b os=cllX b os[k]∧cnP b os=noP:=by
 have e:cnX b os=cllX b os[k]:=by unfold cnX;rw [if_neg (fun x=>x h),if_neg h2,cnO_no hk hi hx]
 exact⟨e,if_neg (by rw [e];exact hx)⟩
theorem cn_4 {b:Pce} {os:List Pce} (h:pceE b=0)(h2:¬ 64<os.length)(hi:∀ i (h:i<os.length),cllX b os[i]=0):cnX b os=0∧cnP b os =⟨b.cs,b.st,stl (cnK (vtA (plE b) os) os.length b.evs.length)⟩:=by
 have e:cnX b os=0:=by unfold cnX;rw [if_neg (fun x=>x h),if_neg h2,cnO_ok hi]
 exact⟨e,if_pos e⟩
end
section
open Go.RowKit
theorem winner_G (l:List Vt) (h0:0 < l.length) (hl:l.length≤100000) (hc:∀ v∈l,0≤v.2∧v.2≤100000) :
  Cto truB 0 Tryz.prog 83 [.sl 0] [(0,.row 144 7 (l.map eVt))] 1 (.ag (eEv (winV l))) [(0,.row 144 7 (l.map eVt)),(1,.box 36 (eEv (winV l)))] 2:=by
 refine Cto.intro truS Tryz.func83 rfl Tryz.ntmps83 (Nat.le_of_ble_eq_true rfl) rfl fun w0 F0 fp pg hB=>?_
 dsimp only [number,Nat.reduceAdd]
 have hml:(l.map eVt).length=l.length:=List.length_map _
 have hat:∀ i (h:i < l.length),(l.map eVt)[i]?=some (eVt l[i]):=fun i h=>by rw [List.getElem?_map,List.getElem?_eq_getElem h];rfl
 repeat (first|refine W.gob rfl ?_|refine WL.nil ?_|refine WL.e1 rfl ?_|refine WL.len rfl rfl zql ?_)
 refine (?_:W _ _ _ _ _)
 refine W.loop (fun s:Nat×Nat=>s.1≤l.length∧s.2=bsI l s.1) (fun s=>⟨[(0,.sl 0),(2,.pt 1 0 0),(3,.sc (.int .i64 s.2)),(6,.sc (.int .i64 l.length)),(7,.sc (.int .i64 s.1))],[(0,.row 144 7 (l.map eVt)),(1,.box 36 [.sc (.bool false),.sc (.int .i64 0),.sc (.bool false),.sc (.bool false),.sc (.bool false),.sc (.slice none 0 0)])],2⟩) (fun s=>l.length - s.1) (0,0) ⟨by simp,rfl⟩ (zqt id) fun s hs=>?_
 obtain ⟨k,b⟩:=s
 obtain ⟨hk,hb⟩:=hs
 dsimp only at hk hb ⊢
 have hbl:b < l.length:=by rw [hb];exact bsI_lt h0 hk
 by_cases hlt:k < l.length
 ·have e:=bsI_s h0 hlt
  have ak:=hat k hlt
  have ab:=hat b hbl
  have ck:=hc _ (List.getElem_mem hlt)
  have cb:=hc _ (List.getElem_mem hbl)
  have e:bsI l (k+1)=if l[b].2 < l[k].2 then k else b:=by subst hb;exact e
  clear hb
  by_cases hgt:l[b].2 < l[k].2
  ·rw [if_pos hgt] at e
   repeat (first|refine W.gob rfl ?_|refine WL.nil ?_|refine WL.bt rfl rfl rfl zqo ?_|refine WL.e1 rfl ?_|refine W.condT rfl ?_)
   refine (?_:W _ _ _ _ _)
   refine W.drawK zqk zqk ?_
   repeat (first|refine DK.st rfl ?_|refine DK.ixs rfl rfl zqs ?_)
   refine DK.ldr rfl rfl ak rfl rfl ?_
   repeat (first|refine DK.st rfl ?_|refine DK.ixs rfl rfl zqs ?_)
   refine DK.ldr rfl rfl ab rfl rfl ?_
   repeat (first|refine DK.bt rfl rfl zqo ?_|refine DK.nil ?_)
   repeat (first|refine W.gob rfl ?_|refine WL.nil ?_|refine WL.e1 rfl ?_|refine WL.ar rfl rfl z40i ?_|refine W.condT rfl ?_)
   exact ⟨(k+1,k),⟨by show k+1≤_;omega,e.symm⟩,by show l.length - (k+1) < l.length - k;omega,(zqt id)⟩
  ·rw [if_neg hgt] at e
   repeat (first|refine W.gob rfl ?_|refine WL.nil ?_|refine WL.bt rfl rfl rfl zqo ?_|refine WL.e1 rfl ?_|refine W.condT rfl ?_)
   refine (?_:W _ _ _ _ _)
   refine W.drawK zqk zqk ?_
   repeat (first|refine DK.st rfl ?_|refine DK.ixs rfl rfl zqs ?_)
   refine DK.ldr rfl rfl ak rfl rfl ?_
   repeat (first|refine DK.st rfl ?_|refine DK.ixs rfl rfl zqs ?_)
   refine DK.ldr rfl rfl ab rfl rfl ?_
   repeat (first|refine DK.bf rfl rfl zqo ?_|refine DK.nil ?_)
   repeat (first|refine W.gob rfl ?_|refine WL.nil ?_|refine WL.e1 rfl ?_|refine WL.ar rfl rfl z40i ?_|refine W.condF rfl ?_)
   exact ⟨(k+1,b),⟨by show k+1≤_;omega,e.symm⟩,by show l.length - (k+1) < l.length - k;omega,(zqt id)⟩
 ·obtain rfl:k=l.length:=by omega
  have ab:=hat b hbl
  have hw:winV l=l[b].1:=by subst hb;exact winV_at h0
  rw [hw]
  repeat (first|refine W.gob rfl ?_|refine WL.nil ?_|refine WL.bf rfl rfl rfl zqo ?_|refine WL.e1 rfl ?_|refine WL.ixs rfl rfl zqs ?_|refine W.condF rfl ?_)
  refine (?_:WL _ _ _ _ _ _)
  refine WL.lda rfl rfl ab rfl ?_
  repeat (first|refine WL.nil ?_|refine WL.e1 rfl ?_)
  refine (?_:W _ _ _ _ _)
  refine W.tr (σ':=⟨[(2,.pt 1 0 0)],[(0,.row 144 7 (l.map eVt)),(1,.box 36 (eEv l[b].1))],2⟩) (zqt id) ?_
  exact W.ret (finM rfl rfl rfl rfl rfl)
end
section
open Go.RowKit
def eP3 (p:Pce):List AV:=[.ls 3 (p.cs.map eCrs),.ls 1 (p.st.map eInt),.ls 6 (p.evs.map eEv)]
theorem prs_form {a b:List Ev} {i k:Nat} {P:List (Int×Int)} (h:Aln a b i k P):∀ p∈P,(∃ i k:Nat,i<a.length∧k<b.length∧p=((i:Int),(k:Int)))∨(∃ i:Nat,i<a.length∧p=((i:Int),-1))∨(∃ k:Nat,k<b.length∧p=(-1,(k:Int))):=by
 induction h with
 | nil=>intro p hp;cases hp
 | both i k P h1 h2 _ ih =>
  intro p hp
  rcases List.mem_cons.1 hp with rfl|hp
  ·exact .inl ⟨i,k,h1,h2,rfl⟩
  ·exact ih p hp
 | left i k P h1 _ ih =>
  intro p hp
  rcases List.mem_cons.1 hp with rfl|hp
  ·exact .inr (.inl ⟨i,h1,rfl⟩)
  ·exact ih p hp
 | right i k P h2 _ ih =>
  intro p hp
  rcases List.mem_cons.1 hp with rfl|hp
  ·exact .inr (.inr ⟨k,h2,rfl⟩)
  ·exact ih p hp
theorem vtP_both {ys:List Ev} {s:VS} {i k:Nat} (hi:i<s.1.length) (hk:k<ys.length):vtP ys s ((i:Int),(k:Int))=(s.1.set i (cstV s.1[i] ys[k]),s.2):=by
 show (if (i:Int)<0 then s else if (k:Int)<0 then _ else (s.1.set (i:Int).toNat (cstV (s.1.getD (i:Int).toNat []) (evG ys k)),s.2))=_
 rw [if_neg (by omega),if_neg (by omega),evG_get hk,Int.toNat_natCast,List.getD_eq_getElem?_getD,List.getElem?_eq_getElem hi];rfl
theorem vtP_left {ys:List Ev} {s:VS} {i:Nat} (hi:i<s.2.length):vtP ys s ((i:Int),-1)=(s.1,s.2.set i (s.2[i]+1)):=by
 show (if (i:Int)<0 then s else if (-1:Int)<0 then (s.1,s.2.set (i:Int).toNat (s.2.getD (i:Int).toNat 0+1))else _)=_
 rw [if_neg (by omega),if_pos (by omega),Int.toNat_natCast,List.getD_eq_getElem?_getD,List.getElem?_eq_getElem hi];rfl
theorem vtP_right {ys:List Ev} {s:VS} {k:Int}:vtP ys s (-1,k)=s:=if_pos (by show (-1:Int)<0;omega)
def V1 (xs:List Ev)(k:Nat):List (List Vt):=(xs.take k).map (fun e=>[(e,(1:Int))])++List.replicate (xs.length-k) []
theorem V1_len {xs:List Ev} {k:Nat} (h:k≤xs.length):(V1 xs k).length=xs.length:=by
 unfold V1
 rw [List.length_append,List.length_map,List.length_take,List.length_replicate];omega
theorem V1_0(xs:List Ev):V1 xs 0=List.replicate xs.length []:=by unfold V1;simp
theorem V1_all(xs:List Ev):V1 xs xs.length=(vt0 xs).1:=by
 unfold V1 vt0
 rw [List.take_length,Nat.sub_self];simp
theorem V1_at {xs:List Ev} {k:Nat} (h:k<xs.length)(h2:k<(V1 xs k).length):(V1 xs k)[k]'h2=[]:=by
 have hl:((xs.take k).map (fun e=>[(e,(1:Int))])).length=k:=by rw [List.length_map,List.length_take];omega
 simp only [V1]
 rw [List.getElem_append_right (by omega)]
 simp
theorem V1_set {xs:List Ev} {k:Nat} (h:k<xs.length)(h2:k<(V1 xs k).length):(V1 xs k).set k (cstV ((V1 xs k)[k]'h2) xs[k])=V1 xs (k+1):=by
 have hl:((xs.take k).map (fun e=>[(e,(1:Int))])).length=k:=by rw [List.length_map,List.length_take];omega
 rw [V1_at h h2]
 show (V1 xs k).set k [(xs[k],1)]=_
 unfold V1
 rw [List.set_append_right _ _ (by omega),hl,Nat.sub_self,show xs.length-k=(xs.length-(k+1))+1 by omega,List.replicate_succ,List.set_cons_zero,List.take_succ_eq_append_getElem h,List.map_append,List.append_assoc];rfl
theorem nil_rows (n:Nat):(List.replicate n ([]:List Vt)).map eVL=List.replicate n [.ow 144 7 []]:=by rw [List.map_replicate];rfl
theorem zero_rows (xs:List Ev):(xs.map fun _=>(0:Int)).map eInt=List.replicate xs.length [.sc (.int .i64 0)]:=by
 induction xs with
 | nil=>rfl
 | cons a r ih=>rw [List.map_cons,List.map_cons,ih];rfl
theorem cnK_s {V:List (List Vt)} {A:List Int} {m k:Nat} (hV:k<V.length)(hA:k<A.length):cnK (V,A) m (k+1)=if A[k]≤(m:Int)+1-A[k] then cnK (V,A) m k++[winV V[k]] else cnK (V,A) m k:=by
 have e1:A.getD k 0=A[k]:=by rw [List.getD_eq_getElem?_getD,List.getElem?_eq_getElem hA];rfl
 have e2:V.getD k []=V[k]:=by rw [List.getD_eq_getElem?_getD,List.getElem?_eq_getElem hV];rfl
 show (if kpV A m k=true then cnK (V,A) m k++[winV (V.getD k [])] else cnK (V,A) m k)=_
 unfold kpV
 rw [e1,e2]
 by_cases h:A[k]≤(m:Int)+1-A[k]
 ·rw [if_pos (decide_eq_true h),if_pos h]
 ·rw [if_neg (by simpa using h),if_neg h]
theorem int_put {A:List Int} {i:Nat} (h:i<A.length):(A.map eInt).set i (putL 0 [.sc (.int .i64 (A[i]+1))] (eInt A[i]))=(A.set i (A[i]+1)).map eInt:=by rw [List.map_set];rfl
end
section
open Go.RowKit Go.WideShapes Go.ChangeShapes Go.Joins Go.Deep
section
variable {H:Type} {enc:TypeId×Value→H} {w:World} {base:Nat} {spare:Nat→Bool} {held:Bool}
theorem open_pieces_rp {n:Nat} {v:Value} {x:DataW H×List MemPlace} (h:DataW.trod enc Tryz.prog w base spare held n 72 [v]=some x):∃ l:List Pce,RP (fun q=>w.cell? q) (.ls 3 (l.map eP3)) v :=
 open_rows_rp (en:=eP3) Tryz.underlying72 cellsPiece (fun _=>rfl) (fun k cs y hy hl=>by
   match cs,hl with
   | [u2,u3,u4],_ =>
    obtain ⟨zs,n3,_,_,_,hzs,hz⟩:=DataW.trod_struct Tryz.underlying28 hy
    have q0:DataW.trod enc Tryz.prog w base spare held n3 25 [u2,u3]=zs[0]?:=by simpa [cellsInstrument] using hz 0 _ rfl
    have q1:DataW.trod enc Tryz.prog w base spare held n3 26 [u4]=zs[1]?:=by simpa [cellsInstrument,cellsEvents] using hz 1 _ rfl
    obtain ⟨z0,hz0⟩:∃ y,zs[0]?=some y:=⟨_,List.getElem?_eq_getElem (by rw [hzs];decide)⟩
    obtain ⟨z1,hz1⟩:∃ y,zs[1]?=some y:=⟨_,List.getElem?_eq_getElem (by rw [hzs];decide)⟩
    rw [hz0] at q0;rw [hz1] at q1
    obtain ⟨cs,st,r1,r2,o1,o2⟩:=open_ins_rp q0
    obtain ⟨evs,r3⟩:=open_events_rp q1
    have o3:u4.oneCell'=true:=by
     obtain ⟨A,cap,ad,u',rfl,_⟩:=r3.ls_of
     rfl
    refine ⟨⟨cs,st,evs⟩,fun j av u a b=>?_⟩
    match j with
    | 0=>cases a;cases b;exact ⟨o1,r1⟩
    | 1=>cases a;cases b;exact ⟨o2,r2⟩
    | 2=>cases a;cases b;exact ⟨o3,r3⟩
    | j+3=>simp [eP3] at a) h
theorem open_pieces_arg {r:Reach} {b0:Nat} {v:Value} {d:DataW H} {p:List MemPlace} (hv:Value.okWide Tryz.prog w r b0 72 v) (h:DataW.Trod enc Tryz.prog w base spare held 72 v d p) :
  ∃ l:List Pce,RP (fun q=>w.cell? q) (.ls 3 (l.map eP3)) v:=by
 obtain ⟨a0,len,cap,rfl⟩:=okWide_slice Tryz.underlying72 hv
 obtain ⟨fuel,hf⟩:=h
 exact open_pieces_rp (by simpa [Value.cells] using hf)
end
end
section
open Go.RowKit
theorem plP_eq {p:Pce} (h0:pceE p=0):plP p =⟨p.cs,p.st,plE p⟩:=if_pos h0
theorem pceE_plP {p:Pce} (h0:pceE p=0):pceE (plP p)=0:=by rw [plP_eq h0];exact pceE_pl h0
theorem plP_pcOk {p:Pce} (hO:PcOk p)(h0:pceE p=0):PcOk (plP p):=by
 have hl:=plE_length p
 have hn:=hO.n3
 rw [plP_eq h0]
 refine⟨hO.n1,hO.n2,by show (plE p).length≤_;omega,fun k hk=>plE_20 hO _ (List.getElem_mem hk)⟩
theorem plP_60 {p:Pce} (h0:pceE p=0)(h:p.evs.length≤60):(plP p).evs.length≤60:=by
 have hl:=plE_length p
 rw [plP_eq h0]
 show(plE p).length≤60
 omega
theorem cllX_pl {b o:Pce} (hb:pceE b=0) (ho:pceE o=0):cllX (plP b) (plP o)=cllX b o:=by
 have h1:=pceE_plP hb
 have h2:=pceE_plP ho
 have e1:=plP_eq hb
 have e2:=plP_eq ho
 cases hs:sameI b.cs b.st o.cs o.st with
 | false =>
  have hs':sameI (plP b).cs (plP b).st (plP o).cs (plP o).st=false:=by rw [e1,e2];exact hs
  rw [(cll_3 h1 h2 hs').1,(cll_3 hb ho hs).1]
 | true =>
  have hs':sameI (plP b).cs (plP b).st (plP o).cs (plP o).st=true:=by rw [e1,e2];exact hs
  rw [(cll_4 h1 h2 hs').1,(cll_4 hb ho hs).1]
theorem cllL_pl {b o:Pce} (hb:pceE b=0) (ho:pceE o=0) (h:cllX b o=0):cllL (plP b) (plP o)=prsA (plE b) (plE o):=by
 have h1:=pceE_plP hb
 have h2:=pceE_plP ho
 have e1:=plP_eq hb
 have e2:=plP_eq ho
 have hs:sameI b.cs b.st o.cs o.st=true:=by
  cases hs:sameI b.cs b.st o.cs o.st with
  | true=>rfl
  | false=>rw [(cll_3 hb ho hs).1]at h;exact absurd h (by decide)
 have hs':sameI (plP b).cs (plP b).st (plP o).cs (plP o).st=true:=by rw [e1,e2];exact hs
 rw [(cll_4 h1 h2 hs').2.2.2.1,e1,e2,plE_pl hb,plE_pl ho]
theorem cllX_own {b o:Pce} (hb:pceE b=0)(h:cllX b o=0):pceE o=0:=by
 by_cases ho:pceE o=0
 ·exact ho
 ·rw [(cll_2 hb ho).1]at h;exact absurd h ho
end
end Go.Proofs.YtgelfflighgajaaGreatDoor
