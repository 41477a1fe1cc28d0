/- piece.Measures as a contract over trees. -/
import Derived.Test.YtgelfflighgajaaGreatDoorMlPTq
import Derived.Test.YtgelfflighgajaaGreatDoorAtTq
import Derived.Test.YtgelfflighgajaaGreatDoorMsPTq
set_option maxHeartbeats 8000000
set_option maxRecDepth 100000
set_option linter.unusedVariables false
set_option linter.unusedSimpArgs false
namespace Go.Proofs.YtgelfflighgajaaGreatDoor
open Go.RowKit
theorem z32o {p : Prop} (h : p := by omega) : p := h
abbrev Vt:=Ev×Int
def cstV:List Vt→Ev→List Vt
 | [],e=>[(e,1)]
 | v::r,e=>if evEq v.1 e=true then(v.1,v.2+1)::r else v::cstV r e
theorem cstV_no {e:Ev}:∀ {l:List Vt},(∀ k (h:k<l.length),evEq l[k].1 e=false)→cstV l e=l++[(e,1)]
 | [],_=>rfl
 | v::r,h=>by
  have h0:evEq v.1 e=false:=h 0 (by simp)
  have ih:=cstV_no (l:=r) fun k hk=>h (k+1) (by simpa using hk)
  show (if evEq v.1 e=true then _ else v::cstV r e)=_
  rw [if_neg (by rw [h0];simp),ih];rfl
theorem cstV_at {e:Ev}:∀ {l:List Vt} {k:Nat} (h:k<l.length),evEq l[k].1 e=true→(∀ i (hi:i<k),evEq (l[i]'(by omega)).1 e=false)→cstV l e=l.set k (l[k].1,l[k].2+1)
 | v::r,0,h,h1,_=>if_pos h1
 | v::r,k+1,h,h1,h2=>by
  have h0:evEq v.1 e=false:=h2 0 z32o
  have ih:=cstV_at (l:=r) (k:=k) (by simpa using h) (by simpa using h1) fun i hi=>by have:=h2 (i+1) (by omega);simpa using this
  show (if evEq v.1 e=true then _ else v::cstV r e)=_
  rw [if_neg (by rw [h0];simp),ih];rfl
theorem cstV_len {e:Ev}:∀ {l:List Vt},l.length≤(cstV l e).length∧(cstV l e).length≤l.length+1∧0<(cstV l e).length
 | []=>by simp [cstV]
 | v::r=>by
  have ih:=cstV_len (e:=e) (l:=r)
  have e1:cstV (v::r) e=if evEq v.1 e=true then (v.1,v.2+1)::r else v::cstV r e:=rfl
  rw [e1]
  split
  ·simp
  ·simp only [List.length_cons];omega
theorem cstV_all {e:Ev} {Q:Ev→Prop}:∀ {l:List Vt},Q e→(∀ v∈l,Q v.1)→∀ v∈cstV l e,Q v.1
 | [],he,_,v,hv=>by obtain rfl:=List.mem_singleton.1 hv;exact he
 | u::r,he,h,v,hv=>by
  unfold cstV at hv
  split at hv
  ·rcases List.mem_cons.1 hv with rfl|hv
   ·exact h u (by simp)
   ·exact h v (by simp [hv])
  ·rcases List.mem_cons.1 hv with rfl|hv
   ·exact h v (by simp)
   ·exact cstV_all he (fun x hx=>h x (by simp [hx])) v hv
theorem cstV_cnt {e:Ev} {N:Int}:∀ {l:List Vt},0≤N→(∀ v∈l,0≤v.2∧v.2≤N)→∀ v∈cstV l e,0≤v.2∧v.2≤N+1
 | [],hN,_,v,hv=>by obtain rfl:=List.mem_singleton.1 hv;exact⟨by show (0:Int)≤1;decide,by show (1:Int)≤N+1;omega⟩
 | u::r,hN,h,v,hv=>by
  unfold cstV at hv
  split at hv
  ·rcases List.mem_cons.1 hv with rfl|hv
   ·have:=h u (by simp);exact⟨by show 0≤u.2+1;omega,by show u.2+1≤N+1;omega⟩
   ·have:=h v (by simp [hv]);omega
  ·rcases List.mem_cons.1 hv with rfl|hv
   ·have:=h v (by simp);omega
   ·exact cstV_cnt hN (fun x hx=>h x (by simp [hx])) v hv
def cntV(l:List Vt)(i:Nat):Int:=match l[i]? with|some v=>v.2|none=>0
def bsI (l:List Vt):Nat→Nat
 | 0=>0
 | n+1=>if cntV l (bsI l n)<cntV l n then n else bsI l n
def winV (l:List Vt):Ev:=(l.getD (bsI l l.length) (ev0,0)).1
theorem cntV_at {l:List Vt} {i:Nat} (h:i<l.length):cntV l i=l[i].2:=by unfold cntV;rw [List.getElem?_eq_getElem h]
theorem bsI_lt {l:List Vt} (h0:0<l.length):∀ {n:Nat},n≤l.length→bsI l n<l.length
 | 0,_=>h0
 | n+1,h=>by
  unfold bsI
  split
  ·omega
  ·exact bsI_lt h0 z32o
theorem bsI_s {l:List Vt} {n:Nat} (h0:0<l.length)(h:n<l.length):bsI l (n+1)=if (l[bsI l n]'(bsI_lt h0 (by omega))).2<l[n].2 then n else bsI l n:=by
 show (if cntV l (bsI l n)<cntV l n then n else bsI l n)=_
 rw [cntV_at h,cntV_at (bsI_lt h0 (by omega))]
theorem bsI_1(l:List Vt):bsI l 1=0:=by show(if cntV l 0<cntV l 0 then 0 else 0)=0;split<;>rfl
theorem winV_at {l:List Vt} (h0:0<l.length):winV l=(l[bsI l l.length]'(bsI_lt h0 (Nat.le_refl _))).1:=by
 unfold winV
 rw [List.getD_eq_getElem?_getD,List.getElem?_eq_getElem (bsI_lt h0 (Nat.le_refl _))];rfl
theorem winV_mem {l:List Vt} (h0:0<l.length):∃ v∈l,winV l=v.1:=⟨_,List.getElem_mem _,winV_at h0⟩
abbrev VS:=List (List Vt)×List Int
def vtP (ys:List Ev) (s:VS) (p:Int×Int):VS :=
 if p.1<0 then s else if p.2<0 then (s.1,s.2.set p.1.toNat (s.2.getD p.1.toNat 0+1))else (s.1.set p.1.toNat (cstV (s.1.getD p.1.toNat []) (evG ys p.2)),s.2)
def vtL (xs ys:List Ev)(s:VS):VS:=(prsA xs ys).foldl (vtP ys) s
def vt0(xs:List Ev):VS:=(xs.map fun e=>[(e,1)],xs.map fun _=>0)
def vtA (xs:List Ev) (os:List Pce):VS:=os.foldl (fun s o=>vtL xs (plE o) s) (vt0 xs)
def kpV (A:List Int)(m:Nat)(i:Nat):Bool:=decide (A.getD i 0≤(m:Int)+1-A.getD i 0)
def cnK (s:VS)(m:Nat):Nat→List Ev
 | 0=>[]
 | k+1=>if kpV s.2 m k=true then cnK s m k++[winV (s.1.getD k [])]else cnK s m k
structure VtOk(n:Nat)(N:Int)(s:VS):Prop where
 l1:s.1.length=n
 l2:s.2.length=n
 ne:∀ l∈s.1,0<l.length∧(l.length:Int)≤N
 ev:∀ l∈s.1,∀ v∈l,v.1.stops.length≤20∧0≤v.2∧v.2≤N
 ab:∀ z∈s.2,0≤z∧z≤N
theorem vtOk_0 {xs:List Ev} (h:∀ e∈xs,e.stops.length≤20):VtOk xs.length 1 (vt0 xs):=by
 refine⟨List.length_map _,List.length_map _,fun l hl=>?_,fun l hl v hv=>?_,fun z hz=>?_⟩
 ·obtain⟨e,_,rfl⟩:=List.mem_map.1 hl;simp
 ·obtain⟨e,he,rfl⟩:=List.mem_map.1 hl
  obtain rfl:=List.mem_singleton.1 hv
  exact⟨h e he,by show (0:Int)≤1;decide,by show (1:Int)≤1;decide⟩
 ·obtain⟨e,_,rfl⟩:=List.mem_map.1 hz;decide
theorem vtOk_P {n:Nat} {N:Int} {s:VS} {ys:List Ev} {p:Int×Int} (hN:0≤N) (h:VtOk n N s) (hy:∀ e∈ys,e.stops.length≤20):VtOk n (N+1) (vtP ys s p):=by
 have hev:(evG ys p.2).stops.length≤20:=by
  unfold evG
  rw [List.getD_eq_getElem?_getD]
  cases e:ys[p.2.toNat]? with
  | none=>simp [ev0]
  | some x=>exact hy x (List.mem_of_getElem? e)
 have base:VtOk n (N+1) s:=⟨h.l1,h.l2,fun l hl=>by have:=h.ne l hl;omega,fun l hl v hv=>by have:=h.ev l hl v hv;omega,fun z hz=>by have:=h.ab z hz;omega⟩
 unfold vtP
 split
 ·exact base
 ·split
  ·refine ⟨h.l1,by rw [List.length_set];exact h.l2,base.ne,base.ev,fun z hz=>?_⟩
   rcases List.mem_or_eq_of_mem_set hz with hz|rfl
   ·exact base.ab z hz
   ·rw [List.getD_eq_getElem?_getD]
    cases e:s.2[p.1.toNat]? with
    | none=>exact ⟨by decide,by show (0:Int)+1≤N+1;omega⟩
    | some x=>have:=h.ab x (List.mem_of_getElem? e);exact ⟨by show 0≤x+1;omega,by show x+1≤N+1;omega⟩
  ·have hg:∀ v∈s.1.getD p.1.toNat [],v.1.stops.length≤20∧0≤v.2∧v.2≤N:=by
    rw [List.getD_eq_getElem?_getD]
    cases e:s.1[p.1.toNat]? with
    | none=>intro v hv;cases hv
    | some x=>exact h.ev x (List.mem_of_getElem? e)
   have hgl:((s.1.getD p.1.toNat []).length:Int)≤N:=by
    rw [List.getD_eq_getElem?_getD]
    cases e:s.1[p.1.toNat]? with
    | none=>exact hN
    | some x=>exact (h.ne x (List.mem_of_getElem? e)).2
   refine ⟨by rw [List.length_set];exact h.l1,h.l2,fun l hl=>?_,fun l hl v hv=>?_,base.ab⟩
   ·rcases List.mem_or_eq_of_mem_set hl with hl|rfl
    ·exact base.ne l hl
    ·have:=cstV_len (e:=evG ys p.2) (l:=s.1.getD p.1.toNat []);omega
   ·rcases List.mem_or_eq_of_mem_set hl with hl|rfl
    ·exact base.ev l hl v hv
    ·exact ⟨cstV_all (Q:=fun e=>e.stops.length≤20) hev (fun u hu=>(hg u hu).1) v hv,(cstV_cnt hN (fun u hu=>(hg u hu).2) v hv)⟩
theorem cnK_len {s:VS} {m:Nat}:∀ k,(cnK s m k).length≤k
 | 0=>Nat.le_refl _
 | k+1=>by
  have:=cnK_len (s:=s) (m:=m) k
  unfold cnK
  split
  ·rw [List.length_append];simp;omega
  ·omega
theorem cnK_20 {n:Nat} {N:Int} {s:VS} {m:Nat} (h:VtOk n N s):∀ k,k≤n→∀ e∈cnK s m k,e.stops.length≤20
 | 0,_,e,he=>by cases he
 | k+1,hk,e,he=>by
  have ih:=cnK_20 (m:=m) h k z32o
  unfold cnK at he
  split at he
  ·rcases List.mem_append.1 he with he|he
   ·exact ih e he
   ·obtain rfl:=List.mem_singleton.1 he
    have hl:k<s.1.length:=by rw [h.l1];omega
    have e1:s.1.getD k []=s.1[k]:=by rw [List.getD_eq_getElem?_getD,List.getElem?_eq_getElem hl];rfl
    obtain⟨v,hv,e2⟩:=winV_mem (h.ne _ (List.getElem_mem hl)).1
    rw [e1,e2]
    exact (h.ev _ (List.getElem_mem hl) v hv).1
  ·exact ih e he
def tie0:List Ev→List Ev
 | []=>[]
 | e::r=>{ e with tie:=false }::r
def stlS (evs:List Ev)(i:Nat)(s:Stp):Stp:=(s.1,s.2.1,s.2.2.1,s.2.2.2.1,min s.2.2.2.2 (longestN evs i s.1))
def stlV (evs:List Ev)(i:Nat)(e:Ev):Ev:={ e with stops:=e.stops.map (stlS evs i) }
def stlE (evs:List Ev):List Ev:=evs.mapIdx (stlV evs)
def stl (evs:List Ev):List Ev:=stlE (tie0 evs)
theorem tie0_len(l:List Ev):(tie0 l).length=l.length:=by cases l<;>rfl
theorem stlE_len(l:List Ev):(stlE l).length=l.length:=List.length_mapIdx
def stripC (e:Ev):List Int×Bool:=(e.stops.map (·.1),e.tie)
theorem hasB_c {c:Int}:∀ {l m:List Stp},l.map (·.1)=m.map (·.1)→hasB c l=hasB c m
 | [],[],_=>rfl
 | [],y::m,h=>by simp at h
 | x::l,[],h=>by simp at h
 | x::l,y::m,h=>by
  rw [List.map_cons,List.map_cons] at h
  obtain⟨h1,h2⟩:=List.cons.inj h
  have ih:=hasB_c (c:=c) h2
  show (x.1 == c|| hasB c l)=(y.1 == c|| hasB c m)
  rw [h1,ih]
theorem runL_c {c:Int}:∀ (k:Nat) {l m:List Ev},l.map stripC=m.map stripC→runL c k l=runL c k m
 | 0,l,m,_=>by simp [runL]
 | k+1,[],[],_=>rfl
 | k+1,[],y::m,h=>by simp at h
 | k+1,x::l,[],h=>by simp at h
 | k+1,x::l,y::m,h=>by
  rw [List.map_cons,List.map_cons] at h
  obtain⟨h1,h2⟩:=List.cons.inj h
  obtain⟨h3,h4⟩:=Prod.mk.inj h1
  have h5:x.stops.length=y.stops.length:=by have:=congrArg List.length h3;simpa using this
  have ih:=runL_c (c:=c) k h2
  unfold runL restB
  rw [hasB_c h3,h4,h5,ih]
theorem longestN_c {l m:List Ev} (h:l.map stripC=m.map stripC) (i c:Int):longestN l i c=longestN m i c:=by
 have hl:l.length=m.length:=by have:=congrArg List.length h;simpa using this
 unfold longestN
 rw [hl,runL_c 15 (l:=l.drop (i.toNat+1)) (m:=m.drop (i.toNat+1)) (by rw [List.map_drop,List.map_drop,h])]
def stlN (evs:List Ev)(n k:Nat):List Ev:=evs.mapIdx fun i e=>if i<n then stlV evs i e else if i=n then { e with stops:=(e.stops.take k).map (stlS evs i)++e.stops.drop k } else e
theorem stlN_len(evs:List Ev)(n k:Nat):(stlN evs n k).length=evs.length:=List.length_mapIdx
theorem stlN_0 (evs:List Ev):stlN evs 0 0=evs:=by
 apply List.ext_getElem (stlN_len _ _ _)
 intro i h1 h2
 simp only [stlN,List.getElem_mapIdx]
 rw [if_neg (Nat.not_lt_zero _)]
 split
 ·simp
 ·rfl
theorem stlN_all (evs:List Ev):stlN evs evs.length 0=stlE evs:=by
 apply List.ext_getElem (by rw [stlN_len,stlE_len])
 intro i h1 h2
 have hi:i<evs.length:=by rw [stlN_len]at h1;exact h1
 simp only [stlN,stlE,List.getElem_mapIdx]
 rw [if_pos hi]
theorem stlN_next {evs:List Ev} {n k:Nat} (hn:n<evs.length)(hk:k=evs[n].stops.length):stlN evs n k=stlN evs (n+1) 0:=by
 subst hk
 apply List.ext_getElem (by rw [stlN_len,stlN_len])
 intro i h1 h2
 simp only [stlN,List.getElem_mapIdx]
 by_cases e1:i<n
 ·rw [if_pos e1,if_pos (by omega)]
 ·rw [if_neg e1]
  by_cases e2:i=n
  ·subst e2
   rw [if_pos rfl,if_pos (by omega),List.take_length,List.drop_length,List.append_nil];rfl
  ·rw [if_neg e2,if_neg (by omega)]
   by_cases e3:i=n+1
   ·rw [if_pos e3];simp
   ·rw [if_neg e3]
theorem stlN_strip (evs:List Ev)(n k:Nat):(stlN evs n k).map stripC=evs.map stripC:=by
 apply List.ext_getElem (by rw [List.length_map,List.length_map,stlN_len])
 intro i h1 h2
 rw [List.getElem_map,List.getElem_map]
 simp only [stlN,List.getElem_mapIdx]
 split
 ·unfold stripC stlV
  rw [List.map_map];rfl
 ·split
  ·unfold stripC
   simp only [List.map_append,List.map_map,List.map_drop,List.map_take]
   congr 1
   have:(evs[i]'(by simpa using h2)).stops.map ((fun x:Stp=>x.1) ∘ stlS evs i)=(evs[i]'(by simpa using h2)).stops.map (fun x=>x.1):=List.map_congr_left fun x _=>rfl
   rw [this,List.take_append_drop]
  ·rfl
theorem stlN_long (evs:List Ev)(n k:Nat)(i c:Int):longestN (stlN evs n k) i c=longestN evs i c:=longestN_c (stlN_strip evs n k) i c
theorem tie0_20 {l:List Ev} (h:∀ e∈l,e.stops.length≤20):∀ e∈tie0 l,e.stops.length≤20:=by
 cases l with
 | nil=>exact fun e he=>by cases he
 | cons a r =>
  intro e he
  rcases List.mem_cons.1 he with rfl|he
  ·exact h a (by simp)
  ·exact h e (by simp [he])
theorem stl_own {p:Pce} (h0:pceE p=0):stl p.evs=p.evs:=by
 have ht:tie0 p.evs=p.evs:=by
  cases he:p.evs with
  | nil=>rfl
  | cons e r =>
   have hk:0<p.evs.length:=by rw [he];simp
   have hE:=evOk_of h0 hk
   have e0:p.evs[0]=e:=by simp [he]
   rw [e0]at hE
   have:e.tie=false:=by
    cases hb:e.tie with
    | false=>rfl
    | true=>exact absurd (hE.tie hb).2 (Nat.lt_irrefl 0)
   show { e with tie:=false }::r=e::r
   rw [← this]
 unfold stl
 rw [ht]
 apply List.ext_getElem (stlE_len _)
 intro i h1 h2
 simp only [stlE,List.getElem_mapIdx]
 have hE:=evOk_of h0 h2
 have:p.evs[i].stops.map (stlS p.evs i)=p.evs[i].stops:=by
  refine (List.map_congr_left fun x hx=>?_).trans (List.map_id _)
  have hx':=(hE.stops x hx).hold
  show (x.1,x.2.1,x.2.2.1,x.2.2.2.1,min x.2.2.2.2 (longestN p.evs i x.1:Int))=x
  rw [Int.min_eq_left hx'.2]
 show { p.evs[i]with stops:=p.evs[i].stops.map (stlS p.evs i) }=p.evs[i]
 rw [this]
theorem prs_diag {a:List Ev}:∀ (f i:Nat),i≤a.length→∀ p∈prs a a f i i,p.1=p.2∧0≤p.1∧p.1<a.length
 | 0,i,_,p,h=>by cases h
 | f+1,i,hi,p,h=>by
  unfold prs at h
  by_cases hlt:i<a.length
  ·have hc:csA a a i i=dsA a a i i+csA a a (i+1) (i+1):=by rw [csA_self,csA_self,dsA_at hlt hlt,dstE_self];rfl
   rw [if_pos ⟨hlt,hlt,hc⟩] at h
   rcases List.mem_cons.1 h with rfl|h
   ·exact ⟨rfl,Int.natCast_nonneg _,by show (i:Int)<_;omega⟩
   ·exact prs_diag f (i+1) z32o p h
  ·rw [if_neg (fun x=>hlt x.1),if_neg (fun x=>hlt x.1),if_neg hlt] at h
   cases h
def Una(xs:List Ev)(s:VS):Prop:=s.1.length=xs.length∧(∀ k(h:k<xs.length),∃ c,s.1[k]?=some [(xs[k],c)])∧∀ k,s.2.getD k 0=0
theorem una_0 (xs:List Ev):Una xs (vt0 xs):=by
 refine⟨List.length_map _,fun k h=>⟨1,?_⟩,fun k=>?_⟩
 ·show (xs.map fun e=>[(e,(1:Int))])[k]?=_
  rw [List.getElem?_map,List.getElem?_eq_getElem h];rfl
 ·show (xs.map fun _=>(0:Int)).getD k 0=0
  rw [List.getD_eq_getElem?_getD,List.getElem?_map]
  cases xs[k]?<;>rfl
theorem una_P {xs:List Ev} {s:VS} {p:Int×Int} (h:Una xs s)(hp:p.1=p.2∧0≤p.1∧p.1<xs.length):Una xs (vtP xs s p):=by
 obtain⟨h1,h2,h3⟩:=h
 obtain⟨e,p0,pl⟩:=hp
 obtain⟨k,hk⟩:∃ k:Nat,p.1=k:=⟨p.1.toNat,by omega⟩
 have hkl:k<xs.length:=by omega
 have hkt:p.1.toNat=k:=by omega
 obtain⟨c,hc⟩:=h2 k hkl
 unfold vtP
 rw [if_neg (by omega),if_neg (by omega),hkt,← e,hk,evG_get hkl,List.getD_eq_getElem?_getD,hc]
 refine⟨by rw [List.length_set];exact h1,fun j hj=>?_,h3⟩
 by_cases ej:k=j
 ·subst ej
  refine⟨c+1,?_⟩
  show (s.1.set k (cstV [(xs[k],c)] xs[k]))[k]?=_
  rw [List.getElem?_set_self (by omega)]
  show some (if evEq xs[k] xs[k]=true then _ else _)=_
  rw [if_pos (evEq_iff.2 rfl)]
 ·obtain⟨c',hc'⟩:=h2 j hj
  refine⟨c',?_⟩
  show (s.1.set k _)[j]?=_
  rw [List.getElem?_set_ne ej];exact hc'
theorem una_fold {xs:List Ev}:∀ {P:List (Int×Int)} {s:VS},Una xs s→(∀ p∈P,p.1=p.2∧0≤p.1∧p.1<xs.length)→Una xs (P.foldl (vtP xs) s)
 | [],s,h,_=>h
 | p::r,s,h,hp=>una_fold (P:=r) (una_P h (hp p (by simp))) fun q hq=>hp q (by simp [hq])
theorem una_all {p:Pce}:∀ {os:List Pce} {s:VS},Una (plE p) s→(∀ o∈os,o=p)→Una (plE p) (os.foldl (fun s o=>vtL (plE p) (plE o) s) s)
 | [],s,h,_=>h
 | o::r,s,h,hp=>by
  obtain rfl:=hp o (by simp)
  exact una_all (os:=r) (una_fold h fun q hq=>prs_diag _ 0 (Nat.zero_le _) q hq) fun x hx=>hp x (by simp [hx])
theorem winV_one (e:Ev)(c:Int):winV [(e,c)]=e:=by
 rw [winV_at (by simp)]
 have:bsI [(e,c)] [(e,c)].length=0:=bsI_1 _
 simp [this]
theorem cnK_own {xs:List Ev} {s:VS} {m:Nat} (h:∀ k (h:k<xs.length),kpV s.2 m k=true∧winV (s.1.getD k [])=xs[k]):∀ k,k≤xs.length→cnK s m k=xs.take k
 | 0,_=>rfl
 | k+1,hk=>by
  obtain⟨h1,h2⟩:=h k z32o
  show (if kpV s.2 m k=true then _ else _)=_
  rw [if_pos h1,h2,cnK_own h k (by omega),List.take_succ_eq_append_getElem (by omega)]
theorem una_cn {xs:List Ev} {s:VS} {m:Nat} (h:Una xs s):cnK s m xs.length=xs:=by
 obtain⟨h1,h2,h3⟩:=h
 refine (cnK_own (fun k hk=>⟨?_,?_⟩) _ (Nat.le_refl _)).trans List.take_length
 ·unfold kpV;rw [h3 k];exact decide_eq_true (by omega)
 ·obtain⟨c,hc⟩:=h2 k hk
  rw [List.getD_eq_getElem?_getD,hc]
  exact winV_one _ c
def One(x:Ev)(l:List Vt)(z:Int):Prop:=winV l=x∧0≤z∧z≤1
theorem one_cast (x y:Ev):winV (cstV [(x,1)] y)=x:=by
 show winV (if evEq x y=true then [(x,2)] else (x,1)::[(y,1)])=x
 split
 ·exact winV_one _ _
 ·rw [winV_at (by simp)]
  have:bsI [(x,1),(y,1)] [(x,(1:Int)),(y,(1:Int))].length=0:=by
   show (if cntV [(x,1),(y,1)] (bsI [(x,1),(y,1)] 1)<cntV [(x,1),(y,1)] 1 then 1 else bsI [(x,1),(y,1)] 1)=0
   rw [bsI_1]
   show (if (1:Int)<1 then 1 else 0)=0
   rw [if_neg (by decide)]
  simp only [this,List.getElem_cons_zero]
theorem one_fold {xs ys:List Ev} {i k:Nat} {P:List (Int×Int)} (hA:Aln xs ys i k P):∀ {s:VS},s.1.length=xs.length→s.2.length=xs.length→(∀ j (h:j < xs.length),j < i→One xs[j] (s.1.getD j []) (s.2.getD j 0))→(∀ j (h:j < xs.length),i≤j→s.1.getD j []=[(xs[j],1)]∧s.2.getD j 0=0) →
  ∀ j (h:j < xs.length),One xs[j] ((P.foldl (vtP ys) s).1.getD j []) ((P.foldl (vtP ys) s).2.getD j 0):=by
 induction hA with
 | nil=>exact fun _ _ h _ j hj=>h j hj hj
 | both i k P h1 h2 _ ih =>
  intro s l1 l2 hd hi j hj
  obtain ⟨e1,e2⟩:=hi i h1 (Nat.le_refl _)
  refine ih (s:=vtP ys s ((i:Int),(k:Int))) ?_ ?_ (fun j hj hji=>?_) (fun j hj hij=>?_) j hj
  all_goals
   unfold vtP
   rw [if_neg (by show ¬ (i:Int) < 0;omega),if_neg (by show ¬ (k:Int) < 0;omega)]
   dsimp only [Int.toNat_natCast]
  ·rw [List.length_set];exact l1
  ·exact l2
  ·rw [List.getD_eq_getElem?_getD]
   by_cases e:i=j
   ·subst e
    rw [List.getElem?_set_self (by omega),e1,e2]
    exact ⟨one_cast _ _,by decide,by decide⟩
   ·rw [List.getElem?_set_ne e,← List.getD_eq_getElem?_getD];exact hd j hj (by omega)
  ·rw [List.getD_eq_getElem?_getD,List.getElem?_set_ne (by omega),← List.getD_eq_getElem?_getD];exact hi j hj (by omega)
 | left i k P h1 _ ih =>
  intro s l1 l2 hd hi j hj
  obtain ⟨e1,e2⟩:=hi i h1 (Nat.le_refl _)
  refine ih (s:=vtP ys s ((i:Int),-1)) ?_ ?_ (fun j hj hji=>?_) (fun j hj hij=>?_) j hj
  all_goals
   unfold vtP
   rw [if_neg (by show ¬ (i:Int) < 0;omega),if_pos (by show (-1:Int) < 0;omega)]
   dsimp only [Int.toNat_natCast]
  ·exact l1
  ·rw [List.length_set];exact l2
  ·by_cases e:i=j
   ·subst e
    rw [e1,List.getD_eq_getElem?_getD (l:=s.2.set i _),List.getElem?_set_self (by omega),e2]
    exact ⟨winV_one _ _,by decide,by decide⟩
   ·rw [List.getD_eq_getElem?_getD (l:=s.2.set i _),List.getElem?_set_ne e,← List.getD_eq_getElem?_getD];exact hd j hj (by omega)
  ·rw [List.getD_eq_getElem?_getD (l:=s.2.set i _),List.getElem?_set_ne (by omega),← List.getD_eq_getElem?_getD];exact hi j hj (by omega)
 | right i k P h2 _ ih =>
  intro s l1 l2 hd hi j hj
  have e:vtP ys s (-1,(k:Int))=s:=if_pos (by show (-1:Int) < 0;omega)
  exact ih (s:=vtP ys s (-1,(k:Int))) (by rw [e];exact l1) (by rw [e];exact l2) (by rw [e];exact hd) (by rw [e];exact hi) j hj
theorem one_cn {xs ys:List Ev}:cnK (vtL xs ys (vt0 xs)) 1 xs.length=xs:=by
 have h:=one_fold (show Aln xs ys 0 0 (prsA xs ys) from prs_aln (a:=xs) (b:=ys) (xs.length+ys.length) 0 0 (Nat.zero_le _) (Nat.zero_le _) z32o) (s:=vt0 xs) (List.length_map _) (List.length_map _) (fun j _ h=>absurd h (Nat.not_lt_zero j)) fun j hj _=>⟨by
  show (xs.map fun e=>[(e,(1:Int))]).getD j []=_
  rw [List.getD_eq_getElem?_getD,List.getElem?_map,List.getElem?_eq_getElem hj];rfl,by
  show (xs.map fun _=>(0:Int)).getD j 0=0
  rw [List.getD_eq_getElem?_getD,List.getElem?_map,List.getElem?_eq_getElem hj];rfl⟩
 refine (cnK_own (fun k hk=>⟨?_,?_⟩) _ (Nat.le_refl _)).trans List.take_length
 ·obtain ⟨_,h2,h3⟩:=h k hk
  unfold kpV
  refine decide_eq_true ?_
  show (vtL xs ys (vt0 xs)).2.getD k 0≤((1:Nat):Int)+1 - (vtL xs ys (vt0 xs)).2.getD k 0
  unfold vtL
  omega
 ·exact (h k hk).1
end Go.Proofs.YtgelfflighgajaaGreatDoor
namespace Go.Proofs.YtgelfflighgajaaGreatDoor
open Go.RowKit
def eEvO (e:Ev):List AV:=[.sc (.bool e.bar),.sc (.int .i64 e.val),.sc (.bool e.dot),.sc (.bool e.three),.sc (.bool e.tie),.ow 100 5 (e.stops.map eStp)]
theorem fz0(av:AV):av.fz 0=av:=by cases av<;>rfl
theorem fz0_rows (l:List (List AV)):(l.map fun r=>r.map (AV.fz 0))=l:=by
 refine (List.map_congr_left fun r _=>?_).trans (List.map_id _)
 exact (List.map_congr_left fun x _=>fz0 x).trans (List.map_id _)
theorem eEvO_fz (e:Ev):(eEvO e).map (AV.fz 1)=eEv e:=by
 show [_,_,_,_,_,AV.ls 5 ((e.stops.map eStp).map fun r=>r.map (AV.fz 0))]=_
 rw [fz0_rows];rfl
theorem eEvO_rows (l:List Ev):((l.map eEvO).map fun r=>r.map (AV.fz 1))=l.map eEv:=by
 rw [List.map_map]
 exact List.map_congr_left fun e _=>eEvO_fz e
theorem eStp_own(l:List Stp):∀ q∈l.map eStp,∀ av∈q,av.own=false:=fun q hq av hav=>by
 obtain⟨s,_,rfl⟩:=List.mem_map.1 hq
 simp only [eStp,List.mem_cons,List.not_mem_nil,or_false]at hav
 rcases hav with rfl|rfl|rfl|rfl|rfl<;>rfl
theorem own_shal {d:Nat} {av:AV} (h:av.own=false):av.shal d=true:=by
 cases d<;>cases av<;>first|rfl|cases h
theorem eEvO_shal (l:List Ev):∀ r∈l.map eEvO,∀ av∈r,av.shal 1=true:=fun r hr av hav=>by
 obtain⟨e,_,rfl⟩:=List.mem_map.1 hr
 simp only [eEvO,List.mem_cons,List.not_mem_nil,or_false]at hav
 rcases hav with rfl|rfl|rfl|rfl|rfl|rfl
 ·rfl
 ·rfl
 ·rfl
 ·rfl
 ·rfl
 ·show ((e.stops.map eStp).all fun r=>r.all (AV.shal 0))=true
  rw [List.all_eq_true]
  intro q hq
  rw [List.all_eq_true]
  exact fun x hx=>own_shal (eStp_own _ q hq x hx)
end Go.Proofs.YtgelfflighgajaaGreatDoor
namespace Go.Proofs.YtgelfflighgajaaGreatDoor
open Go.RowKit Go.Shelf
attribute [local go_sem]Oper.semAt_some
attribute [-go_sem]Builtin.append_
theorem Tryz.infoMea:(Tryz.prog.info? 185).map (fun i=>(i.zero,i.size,i.bytes))=some (some (.agg #[.int .i64 0,.int .i64 0,.int .i64 0]),3,24):=by kernel_rfl
theorem Tryz.underMea:Tryz.prog.underlying 181=some (.slice 185):=by kernel_rfl
def MsI (w1:World)(evs:List Ev)(k:Nat)(W:World):Prop:=(∃ v,Boxed W w1.heap.size 181 v∧W.ownsRow w1.heap.size 185 3 v (mea evs k).length (mCells (mea evs k))∧True)∧Below w1.heap.size w1 W
theorem msI_own (w1:World) (evs:List Ev) (B:Nat) (hB:w1.heap.size≤B):OwnFrom B (MsI w1 evs) :=
 OwnFrom.and (Own.from (holdsRow_own w1.heap.size w1.heap.size 181 185 3 (fun k=>(mea evs k).length) (fun k=>mCells (mea evs k)) (fun _ _=>True)) _) (ownFrom_below (Nat.le_refl _) hB)
theorem ms_grown {w1 W W2:World} {evs:List Ev} {k:Nat} {l:List (Int×Int×Int)} {x:Int×Int×Int} {g cap:Nat} {T:Int} {a:Act} (hT:frc 0 (evs.take (k+1))=T) (hl:(if newM evs k then mea evs k++[((k:Int),0,0)] else mea evs k)=l++[x])
  (hv:Boxed W2 w1.heap.size 181 (.slice (some ⟨g,0,none⟩) (l.length+1) cap)) (hrow:W2.ownsRow w1.heap.size 185 3 (.slice (some ⟨g,0,none⟩) (l.length+1) cap) (l.length+1) (mCells (l++[x])))
  (hB:Below w1.heap.size w1 W) (hk:KeepsOthers W W2) (hb:Below w1.heap.size W W2) :
  rngPost w1.heap.size (MsI w1 evs) k W .normal a ((W2.setCell ⟨g,l.length*3+1,none⟩ (.int .i64 (x.2.1+1))).setCell ⟨g,l.length*3+2,none⟩ (.int .i64 (x.2.2+T))):=by
 have hne:=hv.not_row (by decide) hrow
 obtain ⟨r1,g1⟩:=hrow.stored (l.length*3+1) (.int .i64 (x.2.1+1))
 rw [mCells_set1] at r1
 obtain ⟨r2,g2⟩:=r1.stored (l.length*3+2) (.int .i64 (x.2.2+T))
 rw [mCells_set2 l (x.1,x.2.1+1,x.2.2)] at r2
 have hm:mea evs (k+1)=l++[(x.1,x.2.1+1,x.2.2+T)]:=by
  show bumpM (frc 0 (evs.take (k+1))) _=_
  rw [hT,hl,bumpM_snoc]
 have hg:w1.heap.size≤g:=by
  rcases hrow.2 with⟨h,_⟩|⟨g',cap',cur,h,hb,_⟩
  ·cases h
  ·cases h;exact hb
 have hb2:Below w1.heap.size W ((W2.setCell ⟨g,l.length*3+1,none⟩ (.int .i64 (x.2.1+1))).setCell ⟨g,l.length*3+2,none⟩ (.int .i64 (x.2.2+T))):=(hb.setCell (p:=⟨g,l.length*3+1,none⟩) hg _).setCell (p:=⟨g,l.length*3+2,none⟩) hg _
 refine ⟨(hk.trans (KeepsOthers.setCell _ _ _)).trans (KeepsOthers.setCell _ _ _),hb2,⟨_,(hv.kept g1 hne).kept g2 hne,?_,trivial⟩,hB.trans hb2⟩
 rw [hm]
 simpa using r2
theorem pMeasures_ok (M:PM) (p:Pce) (w:World) (hP:PcAt w w.heap.size M p) (hO:PcOk p) (h0:pceE p=0):Calls Tryz.prog 112 #[pcValue M p] w fun e w' =>
  ∃ v,e=.returned (.tuple #[v,.int .i64 0])∧w'.ownsRow w.heap.size 185 3 v (mea p.evs p.evs.length).length (mCells (mea p.evs p.evs.length))∧Below w.heap.size w w':=by
 have hC:=fun (w':World) (hb:Below w.heap.size w w')=>pCheck_any M p w' (hP.after hb) hO
 rw [h0] at hC
 have hn3:=hO.n3
 have hT:=fun w'=>timed_any M p w'
 obtain ⟨A1,A2,A3,c1,c2,c3⟩:=M
 obtain ⟨n1,hn1⟩:∃ n,p.cs.length=n:=⟨_,rfl⟩
 obtain ⟨n2,hn2⟩:∃ n,p.st.length=n:=⟨_,rfl⟩
 obtain ⟨n3,hnn⟩:∃ n,p.evs.length=n:=⟨_,rfl⟩
 unfold pcValue at *
 simp only at *
 rw [hn1,hn2,hnn] at hC hT
 rw [hnn] at hn3
 rw [hn1,hn2,hnn]
 have HC:=Lib.hid hC
 have HT:=Lib.hid hT
 have HP:=Lib.hid hP
 have HN:=Lib.hid hnn
 obtain ⟨i0,hi,hz0,hz1,hz2⟩:=info_parts Tryz.infoMea
 clear hC hT hP hnn hn1 hn2 hO h0
 refine (callsIn_wide (n:=4)).1 ?_
 refine callsIn_of_wp_marks Tryz.func112 rfl trivial ?_ rfl
 simp only [Tryz.ntmps112,List.size_toArray,List.length_cons,List.length_nil,Nat.reduceAdd,Nat.reduceSub,Array.replicate_succ,Array.replicate_zero,List.push_toArray,List.append_toArray,List.nil_append,List.cons_append]
 gi_wp2_with (first
  | (refine ⟨trivial,?_⟩;gi_at_call 52;refine (callsIn_wide.2 (HC.out _ (by repeat (first|exact Below.refl _ _|assumption|refine bel_drewN ?_ _|refine Below.drew ?_|refine bel_alloc ?_ _|refine Below.setCell ?_ (by first|omega|(simp;done)|(simp;omega)) _|refine bel_step ?_ (by assumption))))).mono ?_;rintro e' w1 ⟨rfl,hb1⟩;have k1:=(Blk.new _ _ _).after hb1;have x0:w1.cell? ⟨w.heap.size,0,none⟩=some (.slice A1 n1 c1):=k1.cell 0;have x1:w1.cell? ⟨w.heap.size,1,none⟩=some (.slice A2 n2 c2):=k1.cell 1;have x2:w1.cell? ⟨w.heap.size,2,none⟩=some (.slice A3 n3 c3):=k1.cell 2;have l1:w.heap.size < w1.heap.size:=k1.lt;have K1:=Lib.hid k1;clear k1)
  | (refine ⟨trivial,?_⟩;gi_at_call 173;refine (callsIn_wide.2 (HT.out _)).mono ?_;rintro e' w2 ⟨rfl,rfl⟩))
 have hB0:Below w.heap.size w w1:=((Below.refl _ w).alloc (Nat.le_refl _) _).trans (hb1.mono (by simp))
 obtain ⟨W0,hW0⟩:∃ W0,(w1.alloc (Obj.cells #[Value.slice none 0 0] 181)).alloc (Obj.cells #[Value.slice A1 n1 c1,Value.slice A2 n2 c2,Value.slice A3 n3 c3] 28)=W0:=⟨_,rfl⟩
 have hB3:Below w1.heap.size w1 W0:=by rw [← hW0];exact ((Below.refl _ w1).alloc (Nat.le_refl _) _).alloc (by simp) _
 have hs3:w1.heap.size+2=W0.heap.size:=by rw [← hW0];simp
 have kb:Blk W0 (w1.heap.size+1) 28 #[Value.slice A1 n1 c1,Value.slice A2 n2 c2,Value.slice A3 n3 c3]:=by
  have:=Blk.new (w1.alloc (Obj.cells #[Value.slice none 0 0] 181)) 28 #[Value.slice A1 n1 c1,Value.slice A2 n2 c2,Value.slice A3 n3 c3]
  rwa [World.size_alloc,hW0] at this
 have h00:MsI w1 p.evs 0 W0:=by
  refine ⟨⟨.slice none 0 0,?_,⟨rfl,.inl ⟨rfl,rfl⟩⟩,trivial⟩,hB3⟩
  rw [← hW0]
  exact (Boxed.new w1 181 (.slice none 0 0)).alloc _
 rw [hW0]
 refine wp_range (n:=4) (gf:=212) (lb:=#[Value.pointer (some ⟨w1.heap.size+1,0,none⟩)]) rfl (enters_of Tryz.func212 (by kernel_rfl) rfl)
  (encs:=fun k=>#[.int .i64 (k:Int),.int .i64 (frc 0 (p.evs.take (k+1)))]) (len:=n3) (n₀:=w1.heap.size) z32o
  (fun l J W hW hJ hY h0=>timed1_in 3 z32o l (w1.heap.size+1) w1.heap.size n3 c3 A3 p.evs HN.out hn3 _ J hJ hY W (by have:=hW.size;omega)
   ((hW.cell (p:=⟨w1.heap.size+1,2,none⟩) (by simp;omega)).trans (kb.cell 2))
   (((HP.out.2.1.below (hB0.trans (hB3.mono hB0.size))).below (hW.mono z32o)).more hB0.size) h0)
  (fun _=>rfl)
  (MsI w1 p.evs) (msI_own w1 p.evs _ z32o) h00
  (fun k=>{ tmps:=#[Value.agg #[Value.slice A1 n1 c1,Value.slice A2 n2 c2,Value.slice A3 n3 c3],
     Value.pointer (some { block:=w.heap.size,off:=0 }),Value.slice none 0 0,Value.int IntKind.i64 0,
     Value.int IntKind.i64 0,Value.pointer (some { block:=w1.heap.size,off:=0 }),.int .i64 (k:Int),.int .i64 (frc 0 (p.evs.take (k+1))),undef,
     Value.agg #[Value.slice A1 n1 c1,Value.slice A2 n2 c2,Value.slice A3 n3 c3],Value.int IntKind.i64 0,
     Value.int IntKind.i64 0,Value.bool false,undef,
     Value.agg #[Value.slice A1 n1 c1,Value.slice A2 n2 c2,Value.slice A3 n3 c3],
     Value.func (Fn.func 212) #[] #[Value.pointer (some { block:=w1.heap.size+1,off:=0 })],.int .i64 (k:Int),
     .int .i64 (frc 0 (p.evs.take (k+1))),undef,undef,undef,undef,undef,undef,undef,undef,undef,undef,undef,undef,undef,undef,undef,undef,undef,undef,undef,undef,undef,undef,undef,undef,undef,undef,undef,undef,undef,undef,undef,undef,undef,undef,undef,undef],defers:=[] }) ?assign ?body ?done
 case assign =>
  intro l k W K hK
  gi_wp2
  exact hK
 case body =>
  rintro l0 k W ⟨⟨v,hv,hrow,_⟩,hB⟩ hlt
  have hk2:k < p.evs.length:=by have:=HN.out;omega
  obtain ⟨ad,S,c',hA,hb,e0,_⟩:=((HP.out.2.1.below hB0).more hB0.size|>.below hB).ev hk2
  subst hA
  have y2:W.cell? ⟨w.heap.size,2,none⟩=some (.slice (some ad) n3 c3):=(hB.cell (by simpa using l1)).trans x2
  have hlen:=mea_length p.evs k
  obtain ⟨T,hT⟩:∃ T,frc 0 (p.evs.take (k+1))=T:=⟨_,rfl⟩
  rw [hT]
  obtain ⟨bar,hbar⟩:∃ b,p.evs[k].bar=b:=⟨_,rfl⟩
  rw [hbar] at e0
  have hnew:newM p.evs k=(k == 0|| bar):=by unfold newM;rw [List.getElem?_eq_getElem hk2];simp [hbar]
  have hfo:Tryz.prog.follows .mixedOrders=true:=by kernel_rfl
  have hTb:0≤T∧T≤1000:=by rw [← hT];exact frc_le 0 _ ⟨by decide,by decide⟩
  have hwr:wrap64 T=T:=by first|exact Go.IntWalk.i64_in T ⟨by omega,by omega⟩|(unfold wrap64;omega)
  by_cases hN:newM p.evs k=true
  ·-- a new measure
   obtain ⟨m,hm⟩:∃ m,(mea p.evs k).length=m:=⟨_,rfl⟩
   rw [hm] at hrow hlen
   have hc:=hv.cell
   obtain ⟨v',w4,hrun,r1,r2,r3⟩:=run_append_own (P:=Tryz.prog) (W.alloc (Obj.cells #[.int .i64 k,.int .i64 0,.int .i64 0] 185)) w1.heap.size 181 181 185 i0 (.agg #[.int .i64 0,.int .i64 0,.int .i64 0]) 3 24 Tryz.underMea hi hz0 hz1 hz2 rfl (by decide) v m _ (hrow.alloc _) ⟨W.heap.size,0,none⟩ 1 1 [.int .i64 k,.int .i64 0,.int .i64 0] rfl
    (fun j u h=>by
     have:=cell_of_row (W.alloc (Obj.cells #[.int .i64 k,.int .i64 0,.int .i64 0] 185)) W.heap.size j #[.int .i64 k,.int .i64 0,.int .i64 0] 185 (0,0) (World.alloc_heap_new W _)
     have e:(⟨W.heap.size,0,none⟩:Addr).add j=⟨W.heap.size,j,none⟩:=by
      by_cases hz:j=0
      ·subst hz;rfl
      ·simp [Addr.add,hz]
     rw [e,this];simpa using h) (by simp [Value.oneCell']) (by unfold maxLen;omega) (by omega) (by have:=hB.size;simp;omega)
   obtain ⟨g,cap,rfl⟩:=ownsRow_succ r1
   obtain ⟨hv1,hv2,hr2,hk2',hb2⟩:=hv.appended (tmp:=Obj.cells #[.int .i64 k,.int .i64 0,.int .i64 0] 185) (by decide) hrow hB.size (Nat.le_refl _) r1 ⟨r2.os,r2.tape,r2.output,r2.size,r2.block⟩
   have hc1:=hv1.cell
   have hf1:=hv1.frozen
   have em:mCells (mea p.evs k)++[.int .i64 k,.int .i64 0,.int .i64 0]=mCells (mea p.evs k++[((k:Int),0,0)]):=(mCells_snoc (mea p.evs k) ((k:Int),0,0)).symm
   rw [em] at hr2
   subst hm
   have hf2:=hr2.frozenAt ((mea p.evs k).length*3+1)
   have hf3:=hr2.frozenAt ((mea p.evs k).length*3+2)
   have ha1:=hr2.cellAt ((mea p.evs k).length*3+1) z32o
   have ha2:=hr2.cellAt ((mea p.evs k).length*3+2) z32o
   rw [mCells_at1] at ha1
   rw [mCells_at2] at ha2
   by_cases hk0:k=0
   ·have q1:((k:Int) == 0)=true:=by simp [hk0]
    clear hk0
    gi_wp2
    rw [← Int.zero_add T]
    exact ms_grown (x:=((k:Int),0,0)) hT (if_pos hN) hv2 hr2 hB hk2' hb2
   ·have q1:((k:Int) == 0)=false:=by simp [hk0]
    have q2:¬ (k:Int)=0:=by omega
    obtain rfl:bar=true:=by rw [hnew] at hN;simpa [hk0] using hN
    clear hk0
    gi_wp2
    rw [← Int.zero_add T]
    exact ms_grown (x:=((k:Int),0,0)) hT (if_pos hN) hv2 hr2 hB hk2' hb2
  ·-- the last one goes on
   have hk0:¬ k=0:=fun e=>hN (by rw [hnew,e];rfl)
   obtain rfl:bar=false:=by
    cases bar with
    | false=>rfl
    | true=>exact absurd (by rw [hnew];simp) hN
   have hne:=mea_ne p.evs k
   rw [if_neg hN] at hne
   obtain ⟨l,x,hlx⟩:∃ l x,mea p.evs k=l++[x]:=⟨_,_,(List.dropLast_concat_getLast hne).symm⟩
   rw [hlx] at hrow
   have hll:(l++[x]).length=l.length+1:=by simp
   rw [hll] at hrow
   obtain ⟨g,cap,rfl⟩:=ownsRow_succ hrow
   have hc:=hv.cell
   have q1:((k:Int) == 0)=false:=by simp [hk0]
   have q2:¬ (k:Int)=0:=by omega
   clear hk0
   have hf2:=hrow.frozenAt (l.length*3+1)
   have hf3:=hrow.frozenAt (l.length*3+2)
   have ha1:=hrow.cellAt (l.length*3+1) z32o
   have ha2:=hrow.cellAt (l.length*3+2) z32o
   rw [mCells_at1] at ha1
   rw [mCells_at2] at ha2
   have hbd:=mea_bd p.evs k x (by rw [hlx];simp)
   rw [hlx,hll] at hlen
   obtain ⟨x1,x2,x3⟩:=x
   simp only at ha1 ha2 hbd
   obtain ⟨_,⟨b1,b2⟩,b3,b4⟩:=hbd
   have b5:x2+1≤1000:=by omega
   have b6:x3+T≤1000000:=by omega
   have b7:l.length≤1000:=by omega
   have hw2:wrap64 (x3+T)=x3+T:=by unfold wrap64;omega
   have hw1:wrap64 (x2+1)=x2+1:=by unfold wrap64;omega
   gi_wp2
   exact ms_grown hT ((if_neg hN).trans hlx) hv hrow hB (KeepsOthers.refl _) (Below.refl _ _)
 case done =>
  rintro D W hD ⟨⟨v,hv,hrow,_⟩,hB⟩ hK
  have hc:=hv.cell
  gi_wp2
  refine ⟨by simp,.inl ⟨_,_,rfl,run_takeDeferred hK,?_⟩⟩
  refine ⟨_,results_tmp2 rfl _ _ _,v,rfl,?_,?_⟩
  ·exact ownsRow_putObj (own_weaken hrow z32o) _ hK rfl
  ·exact (hB0.trans (hB.mono z32o)).trans (belowK_b (w:=w) (Nat.le_refl _) W D _ _ z32o hK rfl rfl)
end Go.Proofs.YtgelfflighgajaaGreatDoor
namespace Go.Proofs.YtgelfflighgajaaGreatDoor
open Go.RowKit
def eMea (x:Int×Int×Int):List AV:=[.sc (.int .i64 x.1),.sc (.int .i64 x.2.1),.sc (.int .i64 x.2.2)]
theorem eMea_of(x:Int×Int×Int):∀ (i:Nat)av,(eMea x)[i]?=some av→∃ u,av=.sc u∧(mCell x)[i]?=some u∧u.oneCell'=true:=by
 intro i av a
 match i with
 | 0=>cases a;exact⟨_,rfl,rfl,rfl⟩
 | 1=>cases a;exact⟨_,rfl,rfl,rfl⟩
 | 2=>cases a;exact⟨_,rfl,rfl,rfl⟩
 | i+3=>simp [eMea]at a
def meaR (p:Pce):List (Int×Int×Int):=if pceE p=0 then mea p.evs p.evs.length else []
theorem pMeasures_FS (p:Pce) (hO:PcOk p):Ctr Tryz.prog 112 [ePce p] (.tu [.ls 3 ((meaR p).map eMea),.sc (.int .i64 (pceE p))]):=by
 intro w F vs hF hR
 match vs,hR.1 with
 | [v],_ =>
  obtain ⟨M,rfl,hM⟩:=pc_of_rp hF (hR.2 0 _ v rfl rfl)
  unfold meaR
  by_cases h0:pceE p=0
  ·rw [if_pos h0,h0]
   refine (pMeasures_ok M p w hM hO h0).mono fun e w' ⟨v,he,hrow,hb⟩=>?_
   obtain ⟨L,hL⟩:∃ L,mea p.evs p.evs.length=L:=⟨_,rfl⟩
   rw [hL] at hrow ⊢
   have hfl:mCells L=(L.map mCell).flatten:=by unfold mCells;rw [List.flatMap_def]
   rw [hfl] at hrow
   obtain ⟨A,c,rfl,hrd,hat,hc⟩:=rd_of_own (l:=L.map mCell) hrow (fun r hr=>by obtain ⟨x,_,rfl⟩:=List.mem_map.1 hr;rfl) rfl (by simp)
   refine ⟨_,newF F w w',he,hb,newF_le hF,newF_fw hF hb,newF_new,.tu _ _ rfl fun i av u a b=>?_⟩
   match i with
   | 0 =>
    cases a;cases b
    exact rp_of_rd (F:=F) (w:=w) hrd (fun ad e=>(hat ad e).2) hc (e:=eMea) (fun _=>rfl) eMea_of
   | 1=>cases a;cases b;exact .sc _
   | i+2=>simp at a
  ·rw [if_neg h0]
   refine (pMeasures_bad M p w hM hO h0).mono fun e w' ⟨he,hb⟩=>?_
   refine ⟨_,newF F w w',he,hb,newF_le hF,newF_fw hF hb,newF_new,.tu _ _ rfl fun i av u a b=>?_⟩
   match i with
   | 0=>cases a;cases b;exact .ls 3 [] none 0 ⟨0,0,none⟩ (fun _ _=>undef) (by simp) (by simp) (by simp) (by simp) (by simp)
   | 1=>cases a;cases b;exact .sc _
   | i+2=>simp at a
end Go.Proofs.YtgelfflighgajaaGreatDoor
