/- The measures of a piece: the plain part. -/
import Derived.Test.YtgelfflighgajaaGreatDoorOnsPq
import Derived.Test.YtgelfflighgajaaGreatDoorG2Pq
import Derived.Test.YtgelfflighgajaaGreatDoorSmPq
set_option maxHeartbeats 4000000
set_option maxRecDepth 100000
set_option linter.unusedVariables false
set_option linter.unusedSimpArgs false
namespace Go.Proofs.YtgelfflighgajaaGreatDoor
section
open Go.RowKit
abbrev Nt:=Int×Int×Int×Int×Int
def stayN(evs:List Ev)(j:Nat):Nat:=j+((evs.drop j).takeWhile fun e=>e.tie).length
theorem stayN_tie {evs:List Ev} {j:Nat} (h:j<evs.length)(ht:evs[j].tie=true):stayN evs j=stayN evs (j+1):=by
 unfold stayN
 rw [List.drop_eq_getElem_cons h,List.takeWhile_cons_of_pos (by simpa using ht)]
 simp;omega
theorem stayN_no {evs:List Ev} {j:Nat} (h:j<evs.length)(ht:evs[j].tie=false):stayN evs j=j:=by
 unfold stayN
 rw [List.drop_eq_getElem_cons h,List.takeWhile_cons_of_neg (by simp [ht])]
 simp
theorem stayN_end {evs:List Ev} {j:Nat} (h:evs.length≤j):stayN evs j=j:=by
 unfold stayN
 rw [List.drop_eq_nil_of_le h];simp
theorem stayN_le {evs:List Ev} {j:Nat} (h:j≤evs.length):j≤stayN evs j∧stayN evs j≤evs.length:=by
 unfold stayN
 have h1:=(List.takeWhile_sublist (p:=fun e:Ev=>e.tie) (l:=evs.drop j)).length_le
 simp at h1
 omega
def pitN (cs:List (Int×Int×Bool))(st:List Int)(c f:Int):Int:=(cs.getD (c-1).toNat (0,0,false)).1+if 0<f then st.getD (f-1).toNat 0 else 0
structure NS where
 out:List Nt
 ring:List Int
def setTo (l:List Nt)(k:Nat)(t:Int):List Nt :=
 match l[k]? with
 | some n=>l.set k (n.1,n.2.1,n.2.2.1,n.2.2.2.1,t)
 | none=>l
def stopN (c:Nat)(t:Int)(s:NS):NS:=if 0<s.ring.getD c 0 then⟨setTo s.out (s.ring.getD c 0-1).toNat t,s.ring.set c 0⟩else s
def stopAll (t:Int):Nat→NS→NS
 | 0,s=>s
 | k+1,s=>stopN k t (stopAll t k s)
def noteN (p:Pce)(i:Nat)(x:Stp):Nt:=((i:Int),x.1,pitN p.cs p.st x.1 x.2.1,onsAt p.evs i,if 0<x.2.1 then onsAt p.evs (stayN p.evs (i+x.2.2.2.2.toNat+1))else onsAt p.evs p.evs.length)
def addN (p:Pce)(i:Nat)(x:Stp)(s:NS):NS :=
 ⟨(stopN x.1.toNat (onsAt p.evs i) s).out++[noteN p i x],if 0<x.2.1 then (stopN x.1.toNat (onsAt p.evs i) s).ring else (stopN x.1.toNat (onsAt p.evs i) s).ring.set x.1.toNat ((stopN x.1.toNat (onsAt p.evs i) s).out.length+1)⟩
def addQ (p:Pce)(k:Nat)(stops:List Stp)(s:NS):Nat→NS
 | 0=>s
 | q+1=>match stops[q]? with
  | some x=>addN p k x (addQ p k stops s q)
  | none=>addQ p k stops s q
def openN (p:Pce)(k:Nat)(e:Ev)(s:NS):NS:=if restB e then stopAll (onsAt p.evs k) 15 s else s
def nts (p:Pce):Nat→NS
 | 0=>⟨[],List.replicate 15 0⟩
 | k+1=>match p.evs[k]? with
  | some e=>addQ p k e.stops (openN p k e (nts p k)) e.stops.length
  | none=>nts p k
def prsN(p:Pce)(i:Nat)(x:Stp):Nt:=((i:Int),x.1,x.2.1,(noteN p i x).2.2.2.1,(noteN p i x).2.2.2.2)
def prsQ (p:Pce):Nat→List Nt
 | 0=>[]
 | k+1=>match p.evs[k]? with
  | some e=>prsQ p k++e.stops.map (prsN p k)
  | none=>prsQ p k
def cutB(evs:List Ev)(c:Int)(j:Nat):Bool:=match evs[j]? with
 | some e=>restB e|| hasB c e.stops
 | none=>false
def opnN (evs:List Ev)(i:Nat)(c:Int)(b:Nat):Option Nat:=(List.range b).find? fun j=>decide (i<j) && cutB evs c j
theorem opnN_succ (evs:List Ev)(i:Nat)(c:Int)(b:Nat):opnN evs i c (b+1)=(opnN evs i c b).or (if i<b∧cutB evs c b=true then some b else none):=by
 unfold opnN
 rw [List.range_succ,List.find?_append]
 congr 1
 by_cases h:i<b∧cutB evs c b=true
 ·rw [if_pos h];simp [h]
 ·rw [if_neg h]
  simp only [List.find?_cons,List.find?_nil]
  have:(decide (i<b) && cutB evs c b)=false:=by
   cases hq:(decide (i<b) && cutB evs c b)with
   | false=>rfl
   | true=>simp at hq;exact absurd hq h
  rw [this]
def valN (p:Pce)(b:Int→Nat)(y:Nat×Stp):Nt:=((y.1:Int),y.2.1,pitN p.cs p.st y.2.1 y.2.2.1,onsAt p.evs y.1,
 if 0<y.2.2.1 then onsAt p.evs (stayN p.evs (y.1+y.2.2.2.2.2.toNat+1))else onsAt p.evs ((opnN p.evs y.1 y.2.1 (b y.2.1)).getD p.evs.length))
def entQ (p:Pce):Nat→List (Nat×Stp)
 | 0=>[]
 | k+1=>match p.evs[k]? with
  | some e=>entQ p k++e.stops.map fun x=>(k,x)
  | none=>entQ p k
def rings (p:Pce)(b:Int→Nat)(c:Int)(y:Nat×Stp):Prop:=y.2.1=c∧¬ 0<y.2.2.1∧opnN p.evs y.1 c (b c)=none
structure NInv (p:Pce)(E:List (Nat×Stp))(b:Int→Nat)(s:NS):Prop where
 out:s.out=E.map (valN p b)
 len:s.ring.length=15
 r0:s.ring.getD 0 0=0
 ring:∀ c:Nat,1≤c→c≤14→(s.ring.getD c 0=0∧∀ y∈E,¬ rings p b c y)∨(∃ k:Nat,s.ring.getD c 0=k+1∧(∃ y,E[k]?=some y∧rings p b c y)∧∀ k' y,E[k']?=some y→rings p b c y→k'=k)
theorem ext_set {α:Type} {l m:List α} {k:Nat} {x:α} (hl:l.length=m.length) (h:∀ (i:Nat) u v,l[i]?=some u→m[i]?=some v→(if i=k then v=x else v=u)):l.set k x=m:=by
 apply List.ext_getElem (by simpa using hl)
 intro i h1 h2
 have h1':i<l.length:=by simpa using h1
 have:=h i l[i] m[i] (List.getElem?_eq_getElem h1') (List.getElem?_eq_getElem h2)
 rw [List.getElem_set]
 by_cases e:k=i
 ·rw [if_pos e];rw [if_pos e.symm] at this;exact this.symm
 ·rw [if_neg e];rw [if_neg (fun x=>e x.symm)] at this;exact this.symm
theorem NInv.stop {p:Pce} {E:List (Nat×Stp)} {b b':Int→Nat} {s:NS} (h:NInv p E b s) {m c:Nat} (hc:1≤c∧c≤14) (hb:b c=m) (hb':b' c=m+1) (ho:∀ x,x≠(c:Int)→b' x=b x) (hcut:cutB p.evs c m=true)
  (hE:∀ y∈E,y.2.1=(c:Int)→y.1<m):NInv p E b' (stopN c (onsAt p.evs m) s):=by
 have hop:∀ y∈E,y.2.1=(c:Int)→opnN p.evs y.1 c (b' c)=(opnN p.evs y.1 c (b c)).or (some m):=fun y hy hyc=>by
  rw [hb,hb',opnN_succ,if_pos ⟨hE y hy hyc,hcut⟩]
 have hval:∀ y∈E,¬ rings p b c y→valN p b' y=valN p b y:=fun y hy hr=>by
  unfold valN
  by_cases hyc:y.2.1=(c:Int)
  ·by_cases hf:0<y.2.2.1
   ·simp [hf]
   ·rw [if_neg hf,if_neg hf,hyc,hop y hy hyc]
    cases ho2:opnN p.evs y.1 c (b c) with
    | none=>exact absurd ⟨hyc,hf,ho2⟩ hr
    | some j=>rfl
  ·rw [ho _ hyc]
 have hnr:∀ y∈E,¬ rings p b' c y:=fun y hy hr=>by
  have:=hr.2.2
  rw [hop y hy hr.1] at this
  cases hq:opnN p.evs y.1 c (b c)<;>simp [hq] at this
 have hrings:∀ (c':Nat) y,c'≠c→(rings p b' c' y↔rings p b c' y):=fun c' y hne=>by
  unfold rings
  rw [ho _ (fun e=>hne (by omega))]
 unfold stopN
 rcases h.ring c hc.1 hc.2 with⟨h0,hall⟩|⟨k,hk,⟨y,hy,hr⟩,huni⟩
 ·rw [if_neg (by rw [h0];decide)]
  refine ⟨?_,h.len,h.r0,fun c' h1 h2=>?_⟩
  ·rw [h.out]
   exact List.map_congr_left fun y hy=>(hval y hy (hall y hy)).symm
  ·by_cases e:c'=c
   ·subst e;exact .inl ⟨h0,hnr⟩
   ·rcases h.ring c' h1 h2 with⟨q1,q2⟩|⟨k,q1,⟨y,q2,q3⟩,q4⟩
    ·exact .inl ⟨q1,fun y hy hr=>q2 y hy ((hrings c' y e).1 hr)⟩
    ·exact .inr ⟨k,q1,⟨y,q2,(hrings c' y e).2 q3⟩,fun k' y' a b=>q4 k' y' a ((hrings c' y' e).1 b)⟩
 ·rw [hk,if_pos (by omega)]
  have hkE:k<E.length:=(List.getElem?_eq_some_iff.1 hy).1
  have hyE:y∈E:=List.mem_of_getElem? hy
  refine ⟨?_,by simpa using h.len,?_,fun c' h1 h2=>?_⟩
  ·show setTo s.out ((k:Int)+1-1).toNat _=_
   rw [show ((k:Int)+1-1).toNat=k by omega]
   unfold setTo
   have hok:s.out[k]?=some (valN p b y):=by rw [h.out,List.getElem?_map,hy];rfl
   rw [hok]
   refine ext_set (by rw [h.out];simp) fun i u v hu hv=>?_
   rw [h.out,List.getElem?_map] at hu
   rw [List.getElem?_map] at hv
   cases hi:E[i]? with
   | none=>simp [hi] at hv
   | some z =>
    simp [hi] at hu hv
    subst hu hv
    by_cases e:i=k
    ·subst e
     rw [hy] at hi
     cases hi
     rw [if_pos rfl]
     unfold valN
     have hf:=hr.2.1
     simp only [if_neg hf]
     rw [hr.1,hop y hyE hr.1,hr.2.2];rfl
    ·rw [if_neg e]
     exact hval z (List.mem_of_getElem? hi) fun hz=>e (huni i z hi hz)
  ·simp only [List.getD_eq_getElem?_getD]
   rw [List.getElem?_set_ne (by omega)]
   have:=h.r0
   rwa [List.getD_eq_getElem?_getD] at this
  ·by_cases e:c'=c
   ·subst e
    refine .inl ⟨?_,hnr⟩
    simp only [List.getD_eq_getElem?_getD]
    rw [List.getElem?_set_self (by rw [h.len];omega)];rfl
   ·have hg:(s.ring.set c 0).getD c' 0=s.ring.getD c' 0:=by
     simp only [List.getD_eq_getElem?_getD]
     rw [List.getElem?_set_ne (fun x=>e x.symm)]
    rw [hg]
    rcases h.ring c' h1 h2 with⟨q1,q2⟩|⟨k,q1,⟨y,q2,q3⟩,q4⟩
    ·exact .inl ⟨q1,fun y hy hr=>q2 y hy ((hrings c' y e).1 hr)⟩
    ·exact .inr ⟨k,q1,⟨y,q2,(hrings c' y e).2 q3⟩,fun k' y' a b=>q4 k' y' a ((hrings c' y' e).1 b)⟩
theorem opnN_early(evs:List Ev)(i:Nat)(c:Int)(b:Nat)(h:b≤i+1):opnN evs i c b=none:=by
 unfold opnN
 rw [List.find?_eq_none]
 intro j hj
 rw [List.mem_range]at hj
 simp;omega
theorem NInv.add {p:Pce} {E:List (Nat×Stp)} {b:Int→Nat} {s:NS} (h:NInv p E b s) {m:Nat} {x:Stp} (hc:1≤x.1∧x.1≤14) (hb:b x.1=m+1) (hno:∀ y∈E,¬ rings p b x.1 y) :
  NInv p (E++[(m,x)]) b ⟨s.out++[noteN p m x],if 0<x.2.1 then s.ring else s.ring.set x.1.toNat (s.out.length+1)⟩:=by
 have hlenO:s.out.length=E.length:=by rw [h.out];simp
 have hv:noteN p m x=valN p b (m,x):=by
  unfold noteN valN
  by_cases hf:0<x.2.1
  ·simp [hf]
  ·simp only [if_neg hf]
   rw [hb,opnN_early _ _ _ _ (Nat.le_refl _)];rfl
 have hnew:∀ c:Nat,rings p b c (m,x)↔(x.1=c∧¬ 0<x.2.1):=fun c=>by
  unfold rings
  constructor
  ·exact fun h=>⟨h.1,h.2.1⟩
  ·rintro ⟨h1,h2⟩
   refine ⟨h1,h2,?_⟩
   rw [← h1,hb]
   exact opnN_early _ _ _ _ (Nat.le_refl _)
 have last:∀ (k:Nat) y,(E++[(m,x)])[k]?=some y→(E[k]?=some y)∨(k=E.length∧y=(m,x)):=fun k y hy=>by
  by_cases e:k<E.length
  ·rw [List.getElem?_append_left e] at hy;exact .inl hy
  ·rw [List.getElem?_append_right (by omega)] at hy
   have:k-E.length=0:=by have:=(List.getElem?_eq_some_iff.1 hy).1;simp at this;omega
   rw [this] at hy
   cases hy
   exact .inr ⟨by omega,rfl⟩
 have first:∀ (k:Nat) y,E[k]?=some y→(E++[(m,x)])[k]?=some y:=fun k y hy=>by
  rw [List.getElem?_append_left (List.getElem?_eq_some_iff.1 hy).1];exact hy
 by_cases hf:0<x.2.1
 ·rw [if_pos hf]
  refine ⟨by rw [h.out,hv];simp,h.len,h.r0,fun c h1 h2=>?_⟩
  have hn:¬ rings p b c (m,x):=fun hr=>((hnew c).1 hr).2 hf
  rcases h.ring c h1 h2 with⟨q1,q2⟩|⟨k,q1,⟨y,q2,q3⟩,q4⟩
  ·refine .inl ⟨q1,fun y hy hr=>?_⟩
   rcases List.mem_append.1 hy with hy|hy
   ·exact q2 y hy hr
   ·rw [List.mem_singleton] at hy;subst hy;exact hn hr
  ·refine .inr ⟨k,q1,⟨y,first k y q2,q3⟩,fun k' y' a b=>?_⟩
   rcases last k' y' a with a|⟨a,rfl⟩
   ·exact q4 k' y' a b
   ·exact absurd b hn
 ·rw [if_neg hf]
  refine ⟨by rw [h.out,hv];simp,by simpa using h.len,?_,fun c h1 h2=>?_⟩
  ·simp only [List.getD_eq_getElem?_getD]
   rw [List.getElem?_set_ne (by omega)]
   have:=h.r0
   rwa [List.getD_eq_getElem?_getD] at this
  ·by_cases e:x.1=c
   ·refine .inr ⟨E.length,?_,⟨(m,x),by simp,(hnew c).2 ⟨e,hf⟩⟩,fun k' y' a b=>?_⟩
    ·simp only [List.getD_eq_getElem?_getD]
     rw [show x.1.toNat=c by omega,List.getElem?_set_self (by rw [h.len];omega),hlenO];rfl
    ·rcases last k' y' a with a|⟨a,_⟩
     ·exact absurd (e ▸ b) (hno y' (List.mem_of_getElem? a))
     ·exact a
   ·have hg:(s.ring.set x.1.toNat (s.out.length+1)).getD c 0=s.ring.getD c 0:=by
     simp only [List.getD_eq_getElem?_getD]
     rw [List.getElem?_set_ne (by omega)]
    rw [hg]
    have hn:¬ rings p b c (m,x):=fun hr=>e ((hnew c).1 hr).1
    rcases h.ring c h1 h2 with⟨q1,q2⟩|⟨k,q1,⟨y,q2,q3⟩,q4⟩
    ·refine .inl ⟨q1,fun y hy hr=>?_⟩
     rcases List.mem_append.1 hy with hy|hy
     ·exact q2 y hy hr
     ·rw [List.mem_singleton] at hy;subst hy;exact hn hr
    ·refine .inr ⟨k,q1,⟨y,first k y q2,q3⟩,fun k' y' a b=>?_⟩
     rcases last k' y' a with a|⟨a,rfl⟩
     ·exact q4 k' y' a b
     ·exact absurd b hn
end
section
open Go.RowKit
theorem NInv.chg {p:Pce} {E:List (Nat×Stp)} {b b':Int→Nat} {s:NS} (h:NInv p E b s) (hb:∀ y∈E,opnN p.evs y.1 y.2.1 (b' y.2.1)=opnN p.evs y.1 y.2.1 (b y.2.1)):NInv p E b' s:=by
 have hr:∀ c y,y∈E→(rings p b' c y↔rings p b c y):=fun c y hy=>by
  unfold rings
  constructor
  ·rintro ⟨a1,a2,a3⟩;subst a1;exact ⟨rfl,a2,by rw [← hb y hy];exact a3⟩
  ·rintro ⟨a1,a2,a3⟩;subst a1;exact ⟨rfl,a2,by rw [hb y hy];exact a3⟩
 refine ⟨?_,h.len,h.r0,fun c h1 h2=>?_⟩
 ·rw [h.out]
  refine List.map_congr_left fun y hy=>?_
  unfold valN
  rw [hb y hy]
 ·rcases h.ring c h1 h2 with⟨q1,q2⟩|⟨k,q1,⟨y,q2,q3⟩,q4⟩
  ·exact .inl ⟨q1,fun y hy hh=>q2 y hy ((hr c y hy).1 hh)⟩
  ·exact .inr ⟨k,q1,⟨y,q2,(hr c y (List.mem_of_getElem? q2)).2 q3⟩,fun k' y' a b=>q4 k' y' a ((hr c y' (List.mem_of_getElem? a)).1 b)⟩
theorem NInv.all {p:Pce} {E:List (Nat×Stp)} {s:NS} {m:Nat} (h:NInv p E (fun _=>m) s) (hcut:∀ c,cutB p.evs c m=true) (hE:∀ y∈E,y.1<m) :
  ∀ k:Nat,k≤15→NInv p E (fun c=>if 1≤c∧c<k then m+1 else m) (stopAll (onsAt p.evs m) k s):=by
 intro k
 induction k with
 | zero =>
  intro _
  refine h.chg fun y hy=>?_
  rw [if_neg (by omega)]
 | succ k ih =>
  intro hk
  have h1:=ih (by omega)
  unfold stopAll
  by_cases h0:k=0
  ·subst h0
   have e:stopN 0 (onsAt p.evs m) (stopAll (onsAt p.evs m) 0 s)=stopAll (onsAt p.evs m) 0 s:=by
    unfold stopN
    rw [if_neg (by rw [h1.r0];decide)]
   rw [e]
   refine h1.chg fun y hy=>?_
   rw [if_neg (by omega),if_neg (by omega)]
  ·refine h1.stop ⟨by omega,by omega⟩ (by rw [if_neg (by omega)]) (by rw [if_pos (by omega)]) (fun x hx=>?_) (hcut k) (fun y hy _=>hE y hy)
   by_cases e:1≤x∧x<k
   ·rw [if_pos e,if_pos (by omega)]
   ·rw [if_neg e,if_neg (by omega)]
theorem opnN_cut {evs:List Ev} {i m:Nat} {c:Int} (hi:i<m) (hc:cutB evs c m=true):opnN evs i c (m+1)≠none:=by
 rw [opnN_succ,if_pos ⟨hi,hc⟩]
 cases opnN evs i c m<;>simp
theorem cutB_rest {evs:List Ev} {m:Nat} (hm:m<evs.length)(h:restB evs[m]=true)(c:Int):cutB evs c m=true:=by
 unfold cutB;rw [List.getElem?_eq_getElem hm];simp [h]
theorem cutB_has {evs:List Ev} {m:Nat} (hm:m<evs.length) {x:Stp} (h:x∈evs[m].stops):cutB evs x.1 m=true:=by
 unfold cutB hasB;rw [List.getElem?_eq_getElem hm]
 simp only [Bool.or_eq_true,List.any_eq_true]
 exact .inr ⟨x,h,by simp⟩
theorem entQ_lt(p:Pce):∀ m y,y∈entQ p m→y.1<m:=by
 intro m
 induction m with
 | zero=>intro y hy;cases hy
 | succ m ih =>
  intro y hy
  unfold entQ at hy
  split at hy
  ·rcases List.mem_append.1 hy with hy|hy
   ·have:=ih y hy;omega
   ·obtain⟨x,_,rfl⟩:=List.mem_map.1 hy
    exact Nat.lt_succ_self m
  ·have:=ih y hy;omega
theorem hasB_iff {c:Int} {l:List Stp}:hasB c l=true↔∃ x∈l,x.1=c:=by
 unfold hasB;simp
theorem NInv.adds {p:Pce} {E:List (Nat×Stp)} {s:NS} {m:Nat} (hm:m<p.evs.length) (hok:EvOk p m p.evs[m]) (h:NInv p E (fun _=>m) s) (hE:∀ y∈E,y.1<m) :
  ∀ q,q≤p.evs[m].stops.length→NInv p (E++((p.evs[m].stops.take q).map fun x=>(m,x))) (fun c=>if hasB c (p.evs[m].stops.take q)=true then m+1 else m) (addQ p m p.evs[m].stops s q):=by
 intro q
 induction q with
 | zero =>
  intro _
  rw [List.take_zero,List.map_nil,List.append_nil]
  refine h.chg fun y hy=>?_
  have:hasB y.2.1 []=false:=rfl
  simp only [this,Bool.false_eq_true,if_false]
 | succ q ih =>
  intro hq
  have hq':q<p.evs[m].stops.length:=by omega
  have h1:=ih (by omega)
  obtain ⟨l,hl⟩:∃ l,p.evs[m].stops=l:=⟨_,rfl⟩
  have hasc:=hok.asc
  have hst:=hok.stops
  have hcut:∀ x∈l,cutB p.evs x.1 m=true:=fun x hx=>cutB_has hm (by rw [hl];exact hx)
  rw [hl] at hq' h1 hasc hst ⊢
  have hx:=hst _ (List.getElem_mem hq')
  have htk:l.take (q+1)=l.take q++[l[q]]:=List.take_succ_eq_append_getElem hq'
  have hne:∀ x∈l.take q,x.1<l[q].1:=fun x hx=>by
   obtain ⟨i,hi,rfl⟩:=List.getElem_of_mem hx
   have hi':i<q:=by simp at hi;omega
   rw [List.getElem_take]
   exact List.pairwise_iff_getElem.1 hasc i q (by omega) hq' hi'
  have e0:addQ p m l s (q+1)=addN p m l[q] (addQ p m l s q):=by
   show (match l[q]? with|some x=>addN p m x (addQ p m l s q)|none=>addQ p m l s q)=_
   rw [List.getElem?_eq_getElem hq']
  rw [e0,htk,List.map_append,← List.append_assoc]
  obtain ⟨x,hxe⟩:∃ x,l[q]=x:=⟨_,rfl⟩
  have hxl:x∈l:=by rw [← hxe];exact List.getElem_mem hq'
  rw [hxe] at hx hne ⊢
  obtain ⟨c,hc⟩:∃ c:Nat,x.1=c:=⟨x.1.toNat,by have:=hx.crs;omega⟩
  have hctn:x.1.toNat=c:=by omega
  have hc14:1≤c∧c≤14:=⟨by have:=hx.crs;omega,by have:=hx.c14;omega⟩
  have h2:=h1.stop (b':=fun c'=>if hasB c' (l.take q++[x])=true then m+1 else m) (m:=m) hc14 (if_neg fun hh=>by obtain ⟨y,hy,hyc⟩:=hasB_iff.1 hh;have:=hne y hy;omega) (if_pos (hasB_iff.2 ⟨x,by simp,hc⟩)) (fun c' hc'=>?_) (by rw [← hc];exact hcut x hxl) (fun y hy hyc=>?_)
  ·have h3:=h2.add (m:=m) (x:=x) ⟨by omega,by omega⟩ (if_pos (hasB_iff.2 ⟨x,by simp,rfl⟩)) (fun y hy hr=>?_)
   ·rw [hctn] at h3
    unfold addN
    rw [hctn]
    exact h3
   ·have hyc:y.2.1=x.1:=hr.1
    have hym:y.1<m:=by
     rcases List.mem_append.1 hy with hy|hy
     ·exact hE y hy
     ·obtain ⟨z,hz,rfl⟩:=List.mem_map.1 hy
      have:=hne z hz
      simp at hyc;omega
    have:=hr.2.2
    simp only [show hasB x.1 (l.take q++[x])=true from hasB_iff.2 ⟨x,by simp,rfl⟩,if_true] at this
    exact opnN_cut hym (hcut x hxl) this
  ·by_cases e:hasB c' (l.take q)=true
   ·obtain ⟨y,a,b⟩:=hasB_iff.1 e
    rw [if_pos e,if_pos (hasB_iff.2 ⟨y,List.mem_append_left _ a,b⟩)]
   ·rw [if_neg e,if_neg]
    intro hh
    obtain ⟨y,hy,hyc⟩:=hasB_iff.1 hh
    rcases List.mem_append.1 hy with hy|hy
    ·exact e (hasB_iff.2 ⟨y,hy,hyc⟩)
    ·rw [List.mem_singleton] at hy;subst hy;omega
  ·rcases List.mem_append.1 hy with hy|hy
   ·exact hE y hy
   ·obtain ⟨z,hz,rfl⟩:=List.mem_map.1 hy
    have:=hne z hz
    simp at hyc;omega
theorem opnN_keep {evs:List Ev} {i m:Nat} {c:Int} (hc:cutB evs c m=false):opnN evs i c (m+1)=opnN evs i c m:=by
 rw [opnN_succ,if_neg (by rw [hc];simp)];simp
theorem nts_inv {p:Pce} (h0:pceE p=0):∀ m,m≤p.evs.length→NInv p (entQ p m) (fun _=>m) (nts p m):=by
 intro m
 induction m with
 | zero =>
  intro _
  refine ⟨rfl,by simp [nts],by simp [nts],fun c h1 h2=>.inl ⟨?_,fun y hy=>by cases hy⟩⟩
  simp only [nts,List.getD_eq_getElem?_getD]
  rw [List.getElem?_replicate,if_pos (by omega)];rfl
 | succ m ih =>
  intro hm
  have hm':m < p.evs.length:=by omega
  have hok:=evOk_of h0 hm'
  have hE:=entQ_lt p m
  have e1:nts p (m+1)=addQ p m p.evs[m].stops (openN p m p.evs[m] (nts p m)) p.evs[m].stops.length:=by
   show (match p.evs[m]? with|some e=>_|none=>_)=_
   rw [List.getElem?_eq_getElem hm']
  have e2:entQ p (m+1)=entQ p m++p.evs[m].stops.map fun x=>(m,x):=by
   show (match p.evs[m]? with|some e=>_|none=>_)=_
   rw [List.getElem?_eq_getElem hm']
  rw [e1,e2]
  have h1:=ih (by omega)
  by_cases hr:restB p.evs[m]=true
  ·have hnil:p.evs[m].stops=[]:=by
    unfold restB at hr
    simp at hr
    exact hr.1
   have e3:openN p m p.evs[m] (nts p m)=stopAll (onsAt p.evs m) 15 (nts p m):=if_pos hr
   rw [e3,hnil]
   simp only [List.map_nil,List.append_nil,List.length_nil,addQ]
   have hall:=h1.all (fun c=>cutB_rest hm' hr c) hE 15 (Nat.le_refl _)
   refine hall.chg fun y hy=>?_
   have hym:=hE y hy
   by_cases hc:1≤y.2.1∧y.2.1 < (15:Nat)
   ·rw [if_pos hc]
   ·-- a course that no stop has
    exfalso
    have:∀ m,m≤p.evs.length→∀ y∈entQ p m,1≤y.2.1∧y.2.1≤14:=by
     intro m
     induction m with
     | zero=>intro _ y hy;cases hy
     | succ m ih =>
      intro hm y hy
      unfold entQ at hy
      rw [List.getElem?_eq_getElem (show m < p.evs.length by omega)] at hy
      rcases List.mem_append.1 hy with hy|hy
      ·exact ih (by omega) y hy
      ·obtain ⟨x,hx,rfl⟩:=List.mem_map.1 hy
       have:=(evOk_of h0 (show m < p.evs.length by omega)).stops x hx
       exact ⟨this.crs.1,this.c14⟩
    have:=this m (by omega) y hy
    exact hc (by omega)
  ·have e3:openN p m p.evs[m] (nts p m)=nts p m:=if_neg hr
   rw [e3]
   have h2:=h1.adds hm' hok hE p.evs[m].stops.length (Nat.le_refl _)
   rw [List.take_of_length_le (Nat.le_refl _)] at h2
   refine h2.chg fun y hy=>?_
   by_cases hc:hasB y.2.1 p.evs[m].stops=true
   ·rw [if_pos hc]
   ·rw [if_neg hc]
    refine opnN_keep ?_
    cases hq:cutB p.evs y.2.1 m with
    | false=>rfl
    | true =>
     exfalso
     unfold cutB at hq
     rw [List.getElem?_eq_getElem hm'] at hq
     simp only [Bool.or_eq_true] at hq
     exact hq.elim hr hc
def noteR (p:Pce) (i:Nat) (x:Stp):Nt:=valN p (fun _=>p.evs.length) (i,x)
def notesR (p:Pce):Nat→List Nt
 | 0=>[]
 | k+1=>match p.evs[k]? with
  | some e=>notesR p k++e.stops.map (noteR p k)
  | none=>notesR p k
theorem notesR_ent (p:Pce):∀ m,notesR p m=(entQ p m).map (valN p fun _=>p.evs.length):=by
 intro m
 induction m with
 | zero=>rfl
 | succ m ih =>
  show (match p.evs[m]? with|some e=>notesR p m++e.stops.map (noteR p m)|none=>notesR p m)=((match p.evs[m]? with|some e=>entQ p m++e.stops.map (fun x=>(m,x))|none=>entQ p m):List (Nat×Stp)).map _
  cases p.evs[m]? with
  | none=>exact ih
  | some e =>
   simp only [List.map_append,ih,List.map_map];rfl
theorem nts_notes {p:Pce} (h0:pceE p=0):(nts p p.evs.length).out=notesR p p.evs.length:=by
 rw [(nts_inv h0 _ (Nat.le_refl _)).out,notesR_ent]
end
section
open Go.RowKit
theorem crsE_p {st:List Int}:∀ {cs:List (Int×Int×Bool)},crsE st cs=0→∀ k (h:k<cs.length),0≤cs[k].1∧cs[k].1≤127:=by
 intro cs
 induction cs with
 | nil=>intro _ k h;simp at h
 | cons x r ih =>
  intro h k hk
  unfold crsE at h
  by_cases h1:x.2.1<0∨(st.length:Int)<x.2.1
  ·rw [if_pos h1]at h;cases h
  ·rw [if_neg h1]at h
   by_cases h2:(x.1<0∨127<x.1)∨127<topOf st x
   ·rw [if_pos h2]at h;cases h
   ·rw [if_neg h2]at h
    cases k with
    | zero=>simp;omega
    | succ k=>simpa using ih h k (by simpa using hk)
theorem stopped_FS (cs:List (Int×Int×Bool)) (st:List Int) (x:Int×Int×Bool) (f:Int) (hx:0≤x.1∧x.1≤127) (hf:0≤f∧f≤st.length) (hl:st.length≤18) (hs:∀ k (h:k < st.length),1≤st[k]∧st[k]≤127) :
  Ctr Tryz.prog 247 [.ag (eIns cs st),.ag (eCrs x),.sc (.int .i64 f)] (.sc (.int .i64 (x.1+if 0 < f then st.getD (f - 1).toNat 0 else 0))):=by
 refine Ctr.intro Tryz.func247 rfl Tryz.ntmps247 (Nat.le_of_ble_eq_true rfl) (bd_all rfl) fun w0 F0=>?_;dsimp only [St.init,number,Nat.reduceAdd]
 by_cases h0:f=0
 ·subst h0
  have e0:x.1+(if (0:Int) < 0 then st.getD ((0:Int) - 1).toNat 0 else 0)=x.1:=by simp
  rw [e0]
  repeat (first|refine W.go rfl ?_|refine W.condT rfl ?_)
  refine (?_:W _ _ _ _ _)
  exact W.ret (fin1 rfl rfl rfl rfl)
 ·have hlt:(f - 1).toNat < st.length:=by omega
  have hs1:=hs _ hlt
  have hg:st.getD (f - 1).toNat 0=st[(f - 1).toNat]:=by rw [List.getD_eq_getElem?_getD,List.getElem?_eq_getElem hlt];rfl
  rw [if_pos (by omega),hg]
  repeat (first|refine W.gob rfl ?_|refine WL.nil ?_|refine WL.bf rfl rfl rfl (by omega) ?_|refine WL.e1 rfl ?_|refine W.condF rfl ?_)
  refine (?_:W _ _ _ _ _)
  refine W.drawK (by kernel_rfl) (by kernel_rfl) ?_
  repeat (first|refine DK.st rfl ?_|refine DK.ar rfl rfl (by unfold I64;omega) ?_|refine DK.idx rfl rfl (by omega) zqm ?_|refine DK.nil ?_)
  refine (?_:W _ _ _ _ _)
  exact W.ret (fin1 rfl rfl rfl rfl)
theorem pAt_FS (cs:List (Int×Int×Bool)) (st:List Int) (c f:Int) (hI:insE cs st=0) (hc:1≤c∧c≤cs.length) (hf:0≤f∧f≤fretsOf cs c) :
  Ctr Tryz.prog 231 [.ag (eIns cs st),.ag [.sc (.int .i64 c),.sc (.int .i64 f)]] (.tu [.sc (.int .i64 (pitN cs st c f)),.sc (.int .i64 0)]):=by
 obtain ⟨l1,l2,l3,l4,l5⟩:=insE_len hI
 have hC:=pInsCheck_FS cs st
 rw [hI] at hC
 have hk:(c - 1).toNat < cs.length:=by omega
 have hfr:=crsE_fr l5 _ hk
 have hp:=crsE_p l5 _ hk
 have ef:fretsOf cs c=cs[(c - 1).toNat].2.1:=by
  have:=fretsOf_at hk
  rw [← this];congr 1;omega
 rw [ef] at hf
 have ep:pitN cs st c f=cs[(c - 1).toNat].1+if 0 < f then st.getD (f - 1).toNat 0 else 0:=by
  unfold pitN
  rw [List.getD_eq_getElem?_getD,List.getElem?_eq_getElem hk];rfl
 rw [ep]
 have hS:=stopped_FS cs st cs[(c - 1).toNat] f hp ⟨hf.1,by omega⟩ l3 (stepsBad_bd (Int.le_refl 0) l4)
 refine Ctr.intro Tryz.func231 rfl Tryz.ntmps231 (Nat.le_of_ble_eq_true rfl) (bd_all rfl) fun w0 F0=>?_;dsimp only [St.init,number,Nat.reduceAdd]
 repeat refine W.go rfl ?_
 refine (?_:WL _ _ _ _ _ _)
 refine WL.vl rfl (WV.call rfl (callF Tryz.func117 rfl rfl) rfl rfl hC) ?_
 repeat (first|refine W.gob rfl ?_|refine WL.nil ?_|refine WL.bf rfl rfl rfl (by omega) ?_|refine WL.nf rfl rfl rfl (by omega) ?_|refine WL.e1 rfl ?_|refine WL.gyes rfl rfl rfl rfl ?_|refine WL.ar rfl rfl (by unfold I64;omega) ?_|refine WL.len rfl rfl zql ?_|refine WL.idx rfl rfl (by omega) zqm ?_|refine W.condF rfl ?_)
 refine (?_:WL _ _ _ _ _ _)
 refine WL.vl rfl (WV.call rfl (callF Tryz.func247 rfl rfl) rfl rfl hS) ?_
 repeat (first|refine WL.nil ?_|refine WL.e1 rfl ?_)
 refine (?_:W _ _ _ _ _)
 exact W.ret (fin2 rfl rfl rfl rfl rfl rfl rfl)
end
section
open Go.RowKit
def bumpM (t:Int):List (Int×Int×Int)→List (Int×Int×Int)
 | []=>[]
 | [x]=>[(x.1,x.2.1+1,x.2.2+t)]
 | x::y::r=>x::bumpM t (y::r)
theorem bumpM_snoc (t:Int)(x:Int×Int×Int):∀ l,bumpM t (l++[x])=l++[(x.1,x.2.1+1,x.2.2+t)]
 | []=>rfl
 | [y]=>rfl
 | y::z::r=>by
  have:=bumpM_snoc t x (z::r)
  simp only [List.cons_append]at this ⊢
  rw [bumpM,this]
def newM (evs:List Ev)(k:Nat):Bool:=k == 0|| ((evs[k]?).map (·.bar)).getD false
def mea (evs:List Ev):Nat→List (Int×Int×Int)
 | 0=>[]
 | k+1=>bumpM (frc 0 (evs.take (k+1))) (if newM evs k then mea evs k++[((k:Int),0,0)]else mea evs k)
def mCell(x:Int×Int×Int):List Value:=[.int .i64 x.1,.int .i64 x.2.1,.int .i64 x.2.2]
def mCells (l:List (Int×Int×Int)):List Value:=l.flatMap mCell
theorem mCells_length (l:List (Int×Int×Int)):(mCells l).length=l.length*3:=by
 induction l with
 | nil=>rfl
 | cons x r ih=>simp [mCells,mCell]at ih ⊢;omega
theorem mCells_snoc (l:List (Int×Int×Int))(x:Int×Int×Int):mCells (l++[x])=mCells l++mCell x:=by simp [mCells]
theorem mCells_set1 (l:List (Int×Int×Int)) (x:Int×Int×Int) (u:Int):(mCells (l++[x])).set (l.length*3+1) (.int .i64 u)=mCells (l++[(x.1,u,x.2.2)]):=by
 rw [mCells_snoc,mCells_snoc,List.set_append_right _ _ (by rw [mCells_length];omega),mCells_length]
 rw [show l.length*3+1-l.length*3=1 by omega];rfl
theorem mCells_set2 (l:List (Int×Int×Int)) (x:Int×Int×Int) (u:Int):(mCells (l++[x])).set (l.length*3+2) (.int .i64 u)=mCells (l++[(x.1,x.2.1,u)]):=by
 rw [mCells_snoc,mCells_snoc,List.set_append_right _ _ (by rw [mCells_length];omega),mCells_length]
 rw [show l.length*3+2-l.length*3=2 by omega];rfl
theorem mCells_at1 (l:List (Int×Int×Int))(x:Int×Int×Int):(mCells (l++[x]))[l.length*3+1]?=some (.int .i64 x.2.1):=by
 rw [mCells_snoc,List.getElem?_append_right (by rw [mCells_length];omega),mCells_length,show l.length*3+1-l.length*3=1 by omega];rfl
theorem mCells_at2 (l:List (Int×Int×Int))(x:Int×Int×Int):(mCells (l++[x]))[l.length*3+2]?=some (.int .i64 x.2.2):=by
 rw [mCells_snoc,List.getElem?_append_right (by rw [mCells_length];omega),mCells_length,show l.length*3+2-l.length*3=2 by omega];rfl
theorem bumpM_length (t:Int):∀ l,(bumpM t l).length=l.length
 | []=>rfl
 | [y]=>rfl
 | y::z::r=>by
  have:=bumpM_length t (z::r)
  simp only [bumpM,List.length_cons]at this ⊢
  omega
theorem mea_ne (evs:List Ev):∀ k,(if newM evs k then mea evs k++[((k:Int),0,0)]else mea evs k)≠[]
 | 0=>by simp [newM]
 | k+1=>by
  split
  ·simp
  ·intro h
   have h1:(mea evs (k+1)).length=0:=by rw [h];rfl
   unfold mea at h1
   rw [bumpM_length]at h1
   exact mea_ne evs k (List.length_eq_zero_iff.1 h1)
theorem mea_length(evs:List Ev):∀ k,(mea evs k).length≤k
 | 0=>Nat.le_refl _
 | k+1=>by
  have:=mea_length evs k
  unfold mea
  rw [bumpM_length]
  split
  ·simp;omega
  ·omega
theorem bumpM_mem {t:Int}:∀ {l:List (Int×Int×Int)} {x:Int×Int×Int},x∈bumpM t l→x∈l∨∃ y∈l,x=(y.1,y.2.1+1,y.2.2+t)
 | [],x,h=>by cases h
 | [y],x,h=>by
  rw [show bumpM t [y]=[(y.1,y.2.1+1,y.2.2+t)]from rfl,List.mem_singleton]at h
  exact .inr ⟨y,by simp,h⟩
 | y::z::r,x,h=>by
  rw [show bumpM t (y::z::r)=y::bumpM t (z::r)from rfl]at h
  rcases List.mem_cons.1 h with h|h
  ·exact .inl (by simp [h])
  ·rcases bumpM_mem h with h|⟨w,h,e⟩
   ·exact .inl (List.mem_cons_of_mem _ h)
   ·exact .inr ⟨w,List.mem_cons_of_mem _ h,e⟩
theorem mea_bd (evs:List Ev):∀ k x,x∈mea evs k→(0≤x.1∧x.1≤k)∧(0≤x.2.1∧x.2.1≤k)∧(0≤x.2.2∧x.2.2≤1000*k):=by
 intro k
 induction k with
 | zero=>intro x hx;cases hx
 | succ k ih =>
  intro x hx
  have hT:=frc_le 0 (evs.take (k+1)) ⟨by decide,by decide⟩
  have h1:∀ y,y∈(if newM evs k then mea evs k++[((k:Int),0,0)] else mea evs k)→(0≤y.1∧y.1≤k)∧(0≤y.2.1∧y.2.1≤k)∧(0≤y.2.2∧y.2.2≤1000*k):=fun y hy=>by
   split at hy
   ·rcases List.mem_append.1 hy with hy|hy
    ·exact ih y hy
    ·rw [List.mem_singleton] at hy;subst hy;simp;omega
   ·exact ih y hy
  unfold mea at hx
  rcases bumpM_mem hx with hx|⟨y,hy,rfl⟩
  ·have:=h1 x hx;omega
  ·have:=h1 y hy;simp only;omega
end
end Go.Proofs.YtgelfflighgajaaGreatDoor
