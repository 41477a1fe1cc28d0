/- strings.Join: its contract. (The tool does not lay it here, for its closure's table of numbers; the bodies are the same.) -/
import Derived.Test.YthohlofpphjofaaGreatDoorGQGq
import Derived.Test.YthohlofpphjofaaGreatDoorGRGq
set_option maxRecDepth 100000
set_option linter.unusedVariables false
set_option linter.unusedSimpArgs false
namespace Go.Proofs.YthohlofpphjofaaGreatDoor
section
variable {p:Prop}
theorem UQ(h:p:=by
 rw [if_neg (by omega),if_neg (by omega)]):p:=h
theorem ajh(h:p:=by
 simp only [dI]
 rw [lF (by omega)]
 have:=h.r0
 rwa [dI] at this):p:=h
theorem afs(h:p:=by
 show (match p.evs[m]? with|some e=>_|none=>_)=_
 rw [aB hm']):p:=h
theorem aje(h:p:=by
 rcases List.mem_append.1 hy with hy|hy
 ·exact hE y hy
 ·obtain ⟨z,hz,rfl⟩:=List.mem_map.1 hy
  have:=hne z hz
  simp at ZR;omega):p:=h
theorem aiZ(h:p:=by
 rcases h.ring c' h1 h2 with⟨q1,q2⟩|⟨k,q1,⟨y,q2,q3⟩,q4⟩
 ·exact .inl ⟨q1,fun y hy hr=>q2 y hy ((Q7 c' y e).1 hr)⟩
 ·exact .inr ⟨k,q1,⟨y,q2,(Q7 c' y e).2 q3⟩,fun k' y' a b=>q4 k' y' a ((Q7 c' y' e).1 b)⟩):p:=h
theorem aiO(h:p:=by
 rcases h.ring c h1 h2 with⟨q1,q2⟩|⟨k,q1,⟨y,q2,q3⟩,q4⟩
 ·refine .inl ⟨q1,fun y hy hr=>?_⟩
  rcases List.mem_append.1 hy with hy|hy
  ·exact q2 y hy hr
  ·rw [vZ] at hy;subst hy;exact hn hr
 ·refine .inr ⟨k,q1,⟨y,first k y q2,q3⟩,fun k' y' a b=>?_⟩
  rcases last k' y' a with a|⟨a,rfl⟩
  ·exact q4 k' y' a b
  ·exact absurd b hn):p:=h
end
section
open Go.RowKit
abbrev Nt:=Int×Int×Int×Int×Int
def lq(evs:List Ev)(j:Nat):Nat:=j+((evs.drop j).takeWhile fun e=>e.tie).length
theorem Zu {evs:List Ev} {j:Nat} (h:j<evs.length)(ht:evs[j].tie=true):lq evs j=lq evs (j+1):=by
 unfold lq
 rw [kV h,List.takeWhile_cons_of_pos (by simpa using ht)]
 simp;omega
theorem acJ {evs:List Ev} {j:Nat} (h:j<evs.length)(ht:evs[j].tie=false):lq evs j=j:=by
 unfold lq
 rw [kV h,List.takeWhile_cons_of_neg (by simp [ht])]
 simp
theorem Zt {evs:List Ev} {j:Nat} (h:evs.length≤j):lq evs j=j:=by
 unfold lq
 rw [qN h];simp
theorem acI {evs:List Ev} {j:Nat} (h:j≤evs.length):j≤lq evs j∧lq evs j≤evs.length:=by
 unfold lq
 have h1:=(Ez (p:=fun e:Ev=>e.tie) (l:=evs.drop j)).length_le
 simp at h1
 omega
def xk (cs:List (Int×Int×Bool))(st:List Int)(c f:Int):Int:=(cs.getD (c-1).toNat (0,0,false)).1+if 0<f then st.getD (f-1).toNat 0 else 0
structure NS where
 out:List Nt
 ring:List Int
def yF (l:List Nt)(k:Nat)(t:Int):List Nt :=
 match l[k]? with
 | some n=>l.set k (n.1,n.2.1,n.2.2.1,n.2.2.2.1,t)
 | none=>l
def lu (c:Nat)(t:Int)(s:NS):NS:=if 0<s.ring.getD c 0 then⟨yF s.out (s.ring.getD c 0-1).toNat t,s.ring.set c 0⟩else s
def jW (t:Int):Nat→NS→NS
 | 0,s=>s
 | k+1,s=>lu k t (jW t k s)
def qx (p:aN)(i:Nat)(x:Stp):Nt:=((i:Int),x.1,xk p.cs p.st x.1 x.2.1,aJ p.evs i,if 0<x.2.1 then aJ p.evs (lq p.evs (i+x.2.2.2.2.toNat+1))else aJ p.evs p.evs.length)
def addN (p:aN)(i:Nat)(x:Stp)(s:NS):NS :=
 ⟨(lu x.1.toNat (aJ p.evs i) s).out++[qx p i x],if 0<x.2.1 then (lu x.1.toNat (aJ p.evs i) s).ring else (lu x.1.toNat (aJ p.evs i) s).ring.set x.1.toNat ((lu x.1.toNat (aJ p.evs i) s).out.length+1)⟩
def nM (p:aN)(k:Nat)(stops:List Stp)(s:NS):Nat→NS
 | 0=>s
 | q+1=>match stops[q]? with
  | some x=>addN p k x (nM p k stops s q)
  | none=>nM p k stops s q
def oZ (p:aN)(k:Nat)(e:Ev)(s:NS):NS:=if jl e then jW (aJ p.evs k) 15 s else s
def ug (p:aN):Nat→NS
 | 0=>⟨[],List.replicate 15 0⟩
 | k+1=>match p.evs[k]? with
  | some e=>nM p k e.stops (oZ p k e (ug p k)) e.stops.length
  | none=>ug p k
def PE(p:aN)(i:Nat)(x:Stp):Nt:=((i:Int),x.1,x.2.1,(qx p i x).2.2.2.1,(qx p i x).2.2.2.2)
def xq (p:aN):Nat→List Nt
 | 0=>[]
 | k+1=>match p.evs[k]? with
  | some e=>xq p k++e.stops.map (PE p k)
  | none=>xq p k
def vG(evs:List Ev)(c:Int)(j:Nat):Bool:=match evs[j]? with
 | some e=>jl e|| hasB c e.stops
 | none=>false
def uj (evs:List Ev)(i:Nat)(c:Int)(b:Nat):Option Nat:=(List.range b).find? fun j=>decide (i<j) && vG evs c j
theorem zy (evs:List Ev)(i:Nat)(c:Int)(b:Nat):uj evs i c (b+1)=(uj evs i c b).or (if i<b∧vG evs c b=true then some b else none):=by
 unfold uj
 rw [LM,List.find?_append]
 congr 1
 by_cases h:i<b∧vG evs c b=true
 ·rw [if_pos h];simp [h]
 ·rw [if_neg h]
  simp only [List.find?_cons,List.find?_nil]
  have:(decide (i<b) && vG evs c b)=false:=by
   cases hq:(decide (i<b) && vG evs c b)with
   | false=>rfl
   | true=>simp at hq;exact absurd hq h
  rw [this]
def BI (p:aN)(b:Int→Nat)(y:Nat×Stp):Nt:=((y.1:Int),y.2.1,xk p.cs p.st y.2.1 y.2.2.1,aJ p.evs y.1,
 if 0<y.2.2.1 then aJ p.evs (lq p.evs (y.1+y.2.2.2.2.2.toNat+1))else aJ p.evs ((uj p.evs y.1 y.2.1 (b y.2.1)).getD p.evs.length))
def Bq (p:aN):Nat→List (Nat×Stp)
 | 0=>[]
 | k+1=>match p.evs[k]? with
  | some e=>Bq p k++e.stops.map fun x=>(k,x)
  | none=>Bq p k
def rings (p:aN)(b:Int→Nat)(c:Int)(y:Nat×Stp):Prop:=y.2.1=c∧¬ 0<y.2.2.1∧uj p.evs y.1 c (b c)=none
structure vC (p:aN)(E:List (Nat×Stp))(b:Int→Nat)(s:NS):Prop where
 out:s.out=E.map (BI p b)
 len:s.ring.length=15
 r0:s.ring.getD 0 0=0
 ring:∀ c:Nat,1≤c→c≤14→(s.ring.getD c 0=0∧∀ y∈E,¬ rings p b c y)∨(∃ k:Nat,s.ring.getD c 0=k+1∧(∃ y,E[k]?=some y∧rings p b c y)∧∀ k' y,E[k']?=some y→rings p b c y→k'=k)
theorem af6 {α:Type} {l m:List α} {k:Nat} {x:α} (hl:l.length=m.length) (h:∀ (i:Nat) u v,l[i]?=some u→m[i]?=some v→(if i=k then v=x else v=u)):l.set k x=m:=by
 apply jT (by simpa using hl)
 intro i h1 h2
 have h1':i<l.length:=by simpa using h1
 have:=h i l[i] m[i] (aB h1') (aB h2)
 rw [EJ]
 by_cases e:k=i
 ·rw [if_pos e];rw [if_pos e.symm] at this;exact this.symm
 ·rw [if_neg e];rw [if_neg (fun x=>e x.symm)] at this;exact this.symm
theorem vC.stop {p:aN} {E:List (Nat×Stp)} {b b':Int→Nat} {s:NS} (h:vC p E b s) {m c:Nat} (hc:1≤c∧c≤14) (hb:b c=m) (hb':b' c=m+1) (ho:∀ x,x≠(c:Int)→b' x=b x) (hcut:vG p.evs c m=true)
  (hE:∀ y∈E,y.2.1=(c:Int)→y.1<m):vC p E b' (lu c (aJ p.evs m) s):=by
 have hop:∀ y∈E,y.2.1=(c:Int)→uj p.evs y.1 c (b' c)=(uj p.evs y.1 c (b c)).or (some m):=fun y hy ZR=>by
  rw [hb,hb',zy,if_pos ⟨hE y hy ZR,hcut⟩]
 have hval:∀ y∈E,¬ rings p b c y→BI p b' y=BI p b y:=fun y hy hr=>by
  unfold BI
  by_cases ZR:y.2.1=(c:Int)
  ·by_cases hf:0<y.2.2.1
   ·simp [hf]
   ·rw [if_neg hf,if_neg hf,ZR,hop y hy ZR]
    cases ho2:uj p.evs y.1 c (b c) with
    | none=>exact absurd ⟨ZR,hf,ho2⟩ hr
    | some j=>rfl
  ·rw [ho _ ZR]
 have hnr:∀ y∈E,¬ rings p b' c y:=fun y hy hr=>by
  have:=hr.2.2
  rw [hop y hy hr.1] at this
  cases hq:uj p.evs y.1 c (b c)<;>simp [hq] at this
 have Q7:∀ (c':Nat) y,c'≠c→(rings p b' c' y↔rings p b c' y):=fun c' y hne=>by
  unfold rings
  rw [ho _ (fun e=>hne (by omega))]
 unfold lu
 rcases h.ring c hc.1 hc.2 with⟨h0,hall⟩|⟨k,hk,⟨y,hy,hr⟩,an6⟩
 ·rw [if_neg (by rw [h0];decide)]
  refine ⟨?_,h.len,h.r0,fun c' h1 h2=>?_⟩
  ·rw [h.out]
   exact qO fun y hy=>(hval y hy (hall y hy)).symm
  ·by_cases e:c'=c
   ·subst e;exact .inl ⟨h0,hnr⟩
   ·exact aiZ
 ·rw [hk,if_pos (by omega)]
  have hkE:k<E.length:=(List.getElem?_eq_some_iff.1 hy).1
  have hyE:y∈E:=aY hy
  refine ⟨?_,by simpa using h.len,?_,fun c' h1 h2=>?_⟩
  ·show yF s.out ((k:Int)+1-1).toNat _=_
   rw [show ((k:Int)+1-1).toNat=k by omega]
   unfold yF
   have hok:s.out[k]?=some (BI p b y):=by rw [h.out,bC,hy];rfl
   rw [hok]
   refine af6 (by rw [h.out];simp) fun i u v hu hv=>?_
   rw [h.out,bC] at hu
   rw [bC] at hv
   cases hi:E[i]? with
   | none=>simp [hi] at hv
   | some z =>
    simp [hi] at hu hv
    subst hu hv
    by_cases e:i=k
    ·subst e
     rw [hy] at hi
     cases hi
     rw [if_pos rfl]
     unfold BI
     have hf:=hr.2.1
     simp only [if_neg hf]
     rw [hr.1,hop y hyE hr.1,hr.2.2];rfl
    ·rw [if_neg e]
     exact hval z (aY hi) fun hz=>e (an6 i z hi hz)
  ·exact ajh
  ·by_cases e:c'=c
   ·subst e
    refine .inl ⟨?_,hnr⟩
    simp only [dI]
    rw [ny (by rw [h.len];omega)];rfl
   ·have hg:(s.ring.set c 0).getD c' 0=s.ring.getD c' 0:=by
     simp only [dI]
     rw [lF (fun x=>e x.symm)]
    rw [hg]
    exact aiZ
theorem DR(evs:List Ev)(i:Nat)(c:Int)(b:Nat)(h:b≤i+1):uj evs i c b=none:=by
 unfold uj
 rw [EL]
 intro j hj
 rw [List.mem_range]at hj
 simp;omega
theorem vC.add {p:aN} {E:List (Nat×Stp)} {b:Int→Nat} {s:NS} (h:vC p E b s) {m:Nat} {x:Stp} (hc:1≤x.1∧x.1≤14) (hb:b x.1=m+1) (hno:∀ y∈E,¬ rings p b x.1 y) :
  vC p (E++[(m,x)]) b ⟨s.out++[qx p m x],if 0<x.2.1 then s.ring else s.ring.set x.1.toNat (s.out.length+1)⟩:=by
 have hlenO:s.out.length=E.length:=by rw [h.out];simp
 have hv:qx p m x=BI p b (m,x):=by
  unfold qx BI
  by_cases hf:0<x.2.1
  ·simp [hf]
  ·simp only [if_neg hf]
   rw [hb,DR _ _ _ _ (Nat.le_refl _)];rfl
 have hnew:∀ c:Nat,rings p b c (m,x)↔(x.1=c∧¬ 0<x.2.1):=fun c=>by
  unfold rings
  constructor
  ·exact fun h=>⟨h.1,h.2.1⟩
  ·rintro ⟨h1,h2⟩
   refine ⟨h1,h2,?_⟩
   rw [← h1,hb]
   exact DR _ _ _ _ (Nat.le_refl _)
 have last:∀ (k:Nat) y,(E++[(m,x)])[k]?=some y→(E[k]?=some y)∨(k=E.length∧y=(m,x)):=fun k y hy=>by
  by_cases e:k<E.length
  ·rw [sS e] at hy;exact .inl hy
  ·rw [qL (by omega)] at hy
   have:k-E.length=0:=by have:=(List.getElem?_eq_some_iff.1 hy).1;simp at this;omega
   rw [this] at hy
   cases hy
   exact .inr ⟨by omega,rfl⟩
 have first:∀ (k:Nat) y,E[k]?=some y→(E++[(m,x)])[k]?=some y:=fun k y hy=>by
  rw [sS (List.getElem?_eq_some_iff.1 hy).1];exact hy
 by_cases hf:0<x.2.1
 ·rw [if_pos hf]
  refine ⟨by rw [h.out,hv];simp,h.len,h.r0,fun c h1 h2=>?_⟩
  have hn:¬ rings p b c (m,x):=fun hr=>((hnew c).1 hr).2 hf
  exact aiO
 ·rw [if_neg hf]
  refine ⟨by rw [h.out,hv];simp,by simpa using h.len,?_,fun c h1 h2=>?_⟩
  ·exact ajh
  ·by_cases e:x.1=c
   ·refine .inr ⟨E.length,?_,⟨(m,x),by simp,(hnew c).2 ⟨e,hf⟩⟩,fun k' y' a b=>?_⟩
    ·simp only [dI]
     rw [show x.1.toNat=c by omega,ny (by rw [h.len];omega),hlenO];rfl
    ·rcases last k' y' a with a|⟨a,_⟩
     ·exact absurd (e ▸ b) (hno y' (aY a))
     ·exact a
   ·have hg:(s.ring.set x.1.toNat (s.out.length+1)).getD c 0=s.ring.getD c 0:=by
     simp only [dI]
     rw [lF (by omega)]
    rw [hg]
    have hn:¬ rings p b c (m,x):=fun hr=>e ((hnew c).1 hr).1
    exact aiO
structure Nb(p:aN)(k:Nat)(x:Stp):Prop where
 aQ:1≤x.1∧x.1≤p.cs.length
 c14:x.1≤14
 ajB:0≤x.2.1∧x.2.1≤dS p.cs x.1
 f18:x.2.1≤18
 hold:0≤x.2.2.2.2∧x.2.2.2.2≤ah p.evs k x.1
 h0:0<x.2.2.2.2→x.2.1≠0
theorem acL {p:aN} {i:Nat} {last:Int} {s:Stp} (hI:gB p.cs p.st=0)(h:gY p i s last=0):Nb p i s∧last<s.1:=by
 have hb:=P7 hI h
 unfold gY at h
 by_cases h1:s.1<1∨(p.cs.length:Int)<s.1
 ·rw [if_pos h1]at h;cases h
 ·rw [if_neg h1]at h
  by_cases h2:s.2.1<0∨dS p.cs s.1<s.2.1
  ·rw [if_pos h2]at h;cases h
  ·rw [if_neg h2]at h
   by_cases h3:s.1≤last
   ·rw [if_pos h3]at h;cases h
   ·rw [if_neg h3]at h
    by_cases h4:(s.2.2.1<0∨3<s.2.2.1)∨(s.2.2.2.1<0∨4<s.2.2.2.1)
    ·rw [if_pos h4]at h;cases h
    ·rw [if_neg h4]at h
     by_cases h5:(s.2.2.2.2<0∨(ah p.evs i s.1:Int)<s.2.2.2.2)∨(0<s.2.2.2.2∧s.2.1=0)
     ·rw [if_pos h5]at h;cases h
     ·exact⟨⟨by omega,by omega,by omega,by omega,by omega,by omega⟩,by omega⟩
theorem Zx {p:aN} {i:Nat} (hI:gB p.cs p.st=0):∀ {l:List Stp} {last:Int},iW p i last l=0→(∀ x∈l,Nb p i x∧last<x.1)∧l.Pairwise fun x y=>x.1<y.1:=by
 intro l
 induction l with
 | nil=>intro _ _;exact⟨fun x hx=>(by cases hx),.nil⟩
 | cons x r ih =>
  intro last h
  unfold iW at h
  by_cases h1:gY p i x last≠0
  ·rw [if_pos h1] at h;exact absurd h h1
  ·rw [if_neg h1] at h
   have hx:=acL hI (by simpa using h1:gY p i x last=0)
   obtain⟨q1,q2⟩:=ih h
   refine⟨fun y hy=>?_,.cons (fun y hy=>(q1 y hy).2) q2⟩
   rcases List.mem_cons.1 hy with rfl|hy
   ·exact hx
   ·exact⟨(q1 y hy).1,by have:=(q1 y hy).2;omega⟩
structure alg(p:aN)(k:Nat)(e:Ev):Prop where
 sg:jo e.val e.dot e.three=true
 first:¬ ((k:Int)=0∧e.val=0)
 tie:e.tie=true→e.stops=[]∧0<k
 stops:∀ x∈e.stops,Nb p k x
 F5:e.stops.Pairwise fun x y=>x.1<y.1
theorem kM {p:aN} (h:aO p=0) {k:Nat} (hk:k<p.evs.length):alg p k p.evs[k]:=by
 obtain ⟨h1,h2,h3⟩:=fK h
 obtain ⟨a,b,c,d⟩:=tK (h3 k hk)
 obtain ⟨q1,q2⟩:=Zx h1 d
 refine ⟨a,b,fun ht=>?_,fun x hx=>(q1 x hx).1,q2⟩
 have:¬ (0<p.evs[k].stops.length∨(k:Int)=0):=fun hh=>c ⟨ht,hh⟩
 exact ⟨kU aj,by omega⟩
theorem aco(c:Int):∀ (n:Nat)(l:List Ev),nK c n l≤l.length:=by
 intro n
 induction n with
 | zero=>intro l;unfold nK;first|exact dD _|(split<;>exact dD _)
 | succ n ih =>
  intro l
  cases l with
  | nil=>simp [nK]
  | cons e r =>
   unfold nK
   split
   ·exact dD _
   ·have:=ih r;simp;omega
theorem Ko {evs:List Ev} {i:Nat} (h:i<evs.length)(c:Int):i+ah evs i c+1≤evs.length:=by
 unfold ah
 rw [if_neg (by omega)]
 have:=aco c 15 (evs.drop ((i:Int).toNat+1))
 simp only [dB,qK]at this ⊢
 omega
theorem vC.chg {p:aN} {E:List (Nat×Stp)} {b b':Int→Nat} {s:NS} (h:vC p E b s) (hb:∀ y∈E,uj p.evs y.1 y.2.1 (b' y.2.1)=uj p.evs y.1 y.2.1 (b y.2.1)):vC p E b' s:=by
 have hr:∀ c y,y∈E→(rings p b' c y↔rings p b c y):=fun c y hy=>by
  unfold rings
  constructor
  ·rintro ⟨a1,a2,a3⟩;subst a1;exact ⟨rfl,a2,by rw [← hb y hy];exact a3⟩
  ·rintro ⟨a1,a2,a3⟩;subst a1;exact ⟨rfl,a2,by rw [hb y hy];exact a3⟩
 refine ⟨?_,h.len,h.r0,fun c h1 h2=>?_⟩
 ·rw [h.out]
  refine qO fun y hy=>?_
  unfold BI
  rw [hb y hy]
 ·rcases h.ring c h1 h2 with⟨q1,q2⟩|⟨k,q1,⟨y,q2,q3⟩,q4⟩
  ·exact .inl ⟨q1,fun y hy hh=>q2 y hy ((hr c y hy).1 hh)⟩
  ·exact .inr ⟨k,q1,⟨y,q2,(hr c y (aY q2)).2 q3⟩,fun k' y' a b=>q4 k' y' a ((hr c y' (aY a)).1 b)⟩
theorem vC.all {p:aN} {E:List (Nat×Stp)} {s:NS} {m:Nat} (h:vC p E (fun _=>m) s) (hcut:∀ c,vG p.evs c m=true) (hE:∀ y∈E,y.1<m) :
  ∀ k:Nat,k≤15→vC p E (fun c=>if 1≤c∧c<k then m+1 else m) (jW (aJ p.evs m) k s):=by
 intro k
 induction k with
 | zero =>
  intro _
  refine h.chg fun y hy=>?_
  rw [if_neg (by omega)]
 | succ k ih =>
  intro hk
  have h1:=ih aj
  unfold jW
  by_cases h0:k=0
  ·subst h0
   have e:lu 0 (aJ p.evs m) (jW (aJ p.evs m) 0 s)=jW (aJ p.evs m) 0 s:=by
    unfold lu
    rw [if_neg (by rw [h1.r0];decide)]
   rw [e]
   refine h1.chg fun y hy=>?_
   exact UQ
  ·refine h1.stop ⟨by omega,by omega⟩ (by rw [if_neg (by omega)]) (by rw [if_pos (by omega)]) (fun x hx=>?_) (hcut k) (fun y hy _=>hE y hy)
   by_cases e:1≤x∧x<k
   ·rw [if_pos e,if_pos (by omega)]
   ·rw [if_neg e,if_neg (by omega)]
theorem abI {evs:List Ev} {i m:Nat} {c:Int} (hi:i<m) (hc:vG evs c m=true):uj evs i c (m+1)≠none:=by
 rw [zy,if_pos ⟨hi,hc⟩]
 cases uj evs i c m<;>simp
theorem Xr {evs:List Ev} {m:Nat} (hm:m<evs.length)(h:jl evs[m]=true)(c:Int):vG evs c m=true:=by
 unfold vG;rw [aB hm];simp [h]
theorem aak {evs:List Ev} {m:Nat} (hm:m<evs.length) {x:Stp} (h:x∈evs[m].stops):vG evs x.1 m=true:=by
 unfold vG hasB;rw [aB hm]
 simp only [yM,List.any_eq_true]
 exact .inr ⟨x,h,by simp⟩
theorem afX(p:aN):∀ m y,y∈Bq p m→y.1<m:=by
 intro m
 induction m with
 | zero=>intro y hy;cases hy
 | succ m ih =>
  intro y hy
  unfold Bq at hy
  split at hy
  ·rcases List.mem_append.1 hy with hy|hy
   ·have:=ih y hy;omega
   ·obtain⟨x,_,rfl⟩:=List.mem_map.1 hy
    exact ou m
  ·have:=ih y hy;omega
theorem lV {c:Int} {l:List Stp}:hasB c l=true↔∃ x∈l,x.1=c:=by
 unfold hasB;simp
theorem vC.adds {p:aN} {E:List (Nat×Stp)} {s:NS} {m:Nat} (hm:m<p.evs.length) (hok:alg p m p.evs[m]) (h:vC p E (fun _=>m) s) (hE:∀ y∈E,y.1<m) :
  ∀ q,q≤p.evs[m].stops.length→vC p (E++((p.evs[m].stops.take q).map fun x=>(m,x))) (fun c=>if hasB c (p.evs[m].stops.take q)=true then m+1 else m) (nM p m p.evs[m].stops s q):=by
 intro q
 induction q with
 | zero =>
  intro _
  rw [LU,I5,mG]
  refine h.chg fun y hy=>?_
  have:hasB y.2.1 []=false:=rfl
  simp only [this,EI,if_false]
 | succ q ih =>
  intro hq
  have hq':q<p.evs[m].stops.length:=by omega
  have h1:=ih aj
  obtain ⟨l,hl⟩:∃ l,p.evs[m].stops=l:=⟨_,rfl⟩
  have hasc:=hok.F5
  have hst:=hok.stops
  have hcut:∀ x∈l,vG p.evs x.1 m=true:=fun x hx=>aak hm (by rw [hl];exact hx)
  rw [hl] at hq' h1 hasc hst ⊢
  have hx:=hst _ (fA hq')
  have htk:l.take (q+1)=l.take q++[l[q]]:=gq hq'
  have hne:∀ x∈l.take q,x.1<l[q].1:=fun x hx=>by
   obtain ⟨i,hi,rfl⟩:=fZ hx
   have hi':i<q:=by simp at hi;omega
   rw [LZ]
   exact List.pairwise_iff_getElem.1 hasc i q (by omega) hq' hi'
  have e0:nM p m l s (q+1)=addN p m l[q] (nM p m l s q):=by
   show (match l[q]? with|some x=>addN p m x (nM p m l s q)|none=>nM p m l s q)=_
   rw [aB hq']
  rw [e0,htk,gK,← lD]
  obtain ⟨x,hxe⟩:∃ x,l[q]=x:=⟨_,rfl⟩
  have hxl:x∈l:=by rw [← hxe];exact fA hq'
  rw [hxe] at hx hne ⊢
  obtain ⟨c,hc⟩:∃ c:Nat,x.1=c:=⟨x.1.toNat,by have:=hx.aQ;omega⟩
  have alW:x.1.toNat=c:=by omega
  have alS:1≤c∧c≤14:=⟨by have:=hx.aQ;omega,by have:=hx.c14;omega⟩
  have h2:=h1.stop (b':=fun c'=>if hasB c' (l.take q++[x])=true then m+1 else m) (m:=m) alS (if_neg fun hh=>by obtain ⟨y,hy,ZR⟩:=lV.1 hh;have:=hne y hy;omega) (if_pos (lV.2 ⟨x,by simp,hc⟩)) (fun c' hc'=>?_) (by rw [← hc];exact hcut x hxl) (fun y hy ZR=>?_)
  ·have h3:=h2.add (m:=m) (x:=x) ⟨by omega,by omega⟩ (if_pos (lV.2 ⟨x,by simp,rfl⟩)) (fun y hy hr=>?_)
   ·rw [alW] at h3
    unfold addN
    rw [alW]
    exact h3
   ·have ZR:y.2.1=x.1:=hr.1
    have hym:y.1<m:=by
     exact aje
    have:=hr.2.2
    simp only [show hasB x.1 (l.take q++[x])=true from lV.2 ⟨x,by simp,rfl⟩,if_true] at this
    exact abI hym (hcut x hxl) this
  ·by_cases e:hasB c' (l.take q)=true
   ·obtain ⟨y,a,b⟩:=lV.1 e
    rw [if_pos e,if_pos (lV.2 ⟨y,EH _ a,b⟩)]
   ·rw [if_neg e,if_neg]
    intro hh
    obtain ⟨y,hy,ZR⟩:=lV.1 hh
    rcases List.mem_append.1 hy with hy|hy
    ·exact e (lV.2 ⟨y,hy,ZR⟩)
    ·rw [vZ] at hy;subst hy;omega
  ·exact aje
theorem YR {evs:List Ev} {i m:Nat} {c:Int} (hc:vG evs c m=false):uj evs i c (m+1)=uj evs i c m:=by
 rw [zy,if_neg (by rw [hc];simp)];simp
theorem agO {p:aN} (h0:aO p=0):∀ m,m≤p.evs.length→vC p (Bq p m) (fun _=>m) (ug p m):=by
 intro m
 induction m with
 | zero =>
  intro _
  refine ⟨rfl,by simp [ug],by simp [ug],fun c h1 h2=>.inl ⟨?_,fun y hy=>by cases hy⟩⟩
  simp only [ug,dI]
  rw [Ua,if_pos (by omega)];rfl
 | succ m ih =>
  intro hm
  have hm':m < p.evs.length:=by omega
  have hok:=kM h0 hm'
  have hE:=afX p m
  have e1:ug p (m+1)=nM p m p.evs[m].stops (oZ p m p.evs[m] (ug p m)) p.evs[m].stops.length:=by
   exact afs
  have e2:Bq p (m+1)=Bq p m++p.evs[m].stops.map fun x=>(m,x):=by
   exact afs
  rw [e1,e2]
  have h1:=ih aj
  by_cases hr:jl p.evs[m]=true
  ·have hnil:p.evs[m].stops=[]:=by
    unfold jl at hr
    simp at hr
    exact hr.1
   have e3:oZ p m p.evs[m] (ug p m)=jW (aJ p.evs m) 15 (ug p m):=if_pos hr
   rw [e3,hnil]
   simp only [I5,mG,iC,nM]
   have hall:=h1.all (fun c=>Xr hm' hr c) hE 15 (Nat.le_refl _)
   refine hall.chg fun y hy=>?_
   have hym:=hE y hy
   by_cases hc:1≤y.2.1∧y.2.1 < (15:Nat)
   ·rw [if_pos hc]
   ·-- a course that no stop has
    exfalso
    have:∀ m,m≤p.evs.length→∀ y∈Bq p m,1≤y.2.1∧y.2.1≤14:=by
     intro m
     induction m with
     | zero=>intro _ y hy;cases hy
     | succ m ih =>
      intro hm y hy
      unfold Bq at hy
      rw [aB (show m < p.evs.length by omega)] at hy
      rcases List.mem_append.1 hy with hy|hy
      ·exact ih aj y hy
      ·obtain ⟨x,hx,rfl⟩:=List.mem_map.1 hy
       have:=(kM h0 (show m < p.evs.length by omega)).stops x hx
       exact ⟨this.aQ.1,this.c14⟩
    have:=this m aj y hy
    exact hc aj
  ·have e3:oZ p m p.evs[m] (ug p m)=ug p m:=if_neg hr
   rw [e3]
   have h2:=h1.adds hm' hok hE p.evs[m].stops.length (Nat.le_refl _)
   rw [lC (Nat.le_refl _)] at h2
   refine h2.chg fun y hy=>?_
   by_cases hc:hasB y.2.1 p.evs[m].stops=true
   ·rw [if_pos hc]
   ·rw [if_neg hc]
    refine YR ?_
    cases hq:vG p.evs y.2.1 m with
    | false=>rfl
    | true =>
     exfalso
     unfold vG at hq
     rw [aB hm'] at hq
     simp only [yM] at hq
     exact hq.elim hr hc
def Dh (p:aN) (i:Nat) (x:Stp):Nt:=BI p (fun _=>p.evs.length) (i,x)
def bY (p:aN):Nat→List Nt
 | 0=>[]
 | k+1=>match p.evs[k]? with
  | some e=>bY p k++e.stops.map (Dh p k)
  | none=>bY p k
theorem Ro (p:aN):∀ m,bY p m=(Bq p m).map (BI p fun _=>p.evs.length):=by
 intro m
 induction m with
 | zero=>rfl
 | succ m ih =>
  show (match p.evs[m]? with|some e=>bY p m++e.stops.map (Dh p m)|none=>bY p m)=((match p.evs[m]? with|some e=>Bq p m++e.stops.map (fun x=>(m,x))|none=>Bq p m):List (Nat×Stp)).map _
  cases p.evs[m]? with
  | none=>exact ih
  | some e =>
   simp only [gK,ih,oC];rfl
theorem Ip {p:aN} (h0:aO p=0):(ug p p.evs.length).out=bY p p.evs.length:=by
 rw [(agO h0 _ (Nat.le_refl _)).out,Ro]
end
section
open Go.Shelf Go.RowKit
def Vu:Go.Shelf.Ren:=⟨fun|156=>111|165=>176|166=>53|169=>55|240=>109|241=>232|276=>175|277=>264|n=>n,fun|0=>0|3=>3|4=>4|9=>9|20=>20|31=>39|37=>101|70=>100|72=>103|75=>105|76=>106|127=>191|164=>263|5=>5|80=>81|n=>n,fun|n=>n⟩
theorem NV:Go.Proofs.Lays.n156 Tryz.prog Vu:={
 mixed:=by kernel_rfl
 f156:=Tryz.func111.trans (congrArg some aK)
 f165:=Tryz.func176.trans (congrArg some aK)
 f166:=Tryz.func53.trans (congrArg some aK)
 f169:=Tryz.func55.trans (congrArg some aK)
 f240:=Tryz.func109.trans (congrArg some aK)
 f241:=Tryz.func232.trans (congrArg some aK)
 f276:=Tryz.func175.trans (congrArg some aK)
 f277:=Tryz.func264.trans (congrArg some aK)
 t0:=Tryz.underlying0
 a0:=Tryz.isAgg0
 z0:=Tryz.sizeOf0
 v0:=Tryz.zeroValue0
 t3:=Tryz.underlying3
 a3:=Tryz.isAgg3
 z3:=Tryz.sizeOf3
 v3:=Tryz.zeroValue3
 t4:=Tryz.underlying4
 a4:=Tryz.isAgg4
 z4:=Tryz.sizeOf4
 v4:=Tryz.zeroValue4
 t9:=Tryz.underlying9
 a9:=Tryz.isAgg9
 z9:=Tryz.sizeOf9
 v9:=Tryz.zeroValue9
 t20:=Tryz.underlying20
 a20:=Tryz.isAgg20
 z20:=Tryz.sizeOf20
 v20:=Tryz.zeroValue20
 t31:=Tryz.underlying39
 a31:=Tryz.isAgg39
 z31:=Tryz.sizeOf39
 v31:=Tryz.zeroValue39
 t37:=Tryz.underlying101
 a37:=Tryz.isAgg101
 z37:=Tryz.sizeOf101
 v37:=Tryz.zeroValue101
 t70:=Tryz.underlying100
 a70:=Tryz.isAgg100
 z70:=Tryz.sizeOf100
 v70:=Tryz.zeroValue100
 t72:=Tryz.underlying103
 a72:=Tryz.isAgg103
 z72:=Tryz.sizeOf103
 v72:=Tryz.zeroValue103
 t75:=Tryz.underlying105
 a75:=Tryz.isAgg105
 z75:=Tryz.sizeOf105
 v75:=Tryz.zeroValue105
 t76:=Tryz.underlying106
 a76:=Tryz.isAgg106
 z76:=Tryz.sizeOf106
 v76:=Tryz.zeroValue106
 t127:=Tryz.underlying191
 a127:=Tryz.isAgg191
 z127:=Tryz.sizeOf191
 v127:=Tryz.zeroValue191
 t164:=Tryz.underlying263
 a164:=Tryz.isAgg263
 z164:=Tryz.sizeOf263
 v164:=Tryz.zeroValue263 }
theorem Ho:Builder.Extra Tryz.prog Vu:={
 sizeBuilder:=by kernel_rfl
 liesBuilder:=by kernel_rfl
 t5:=Tryz.underlying5
 a5:=Tryz.isAgg5
 z5:=Tryz.sizeOf5
 v5:=Tryz.zeroValue5
 infoByte:=by kernel_rfl
 cellsByte:=by kernel_rfl
 sizeByte:=by kernel_rfl
 neB5:=by decide }
theorem strings_Join_none (a:Option Addr) (c:Nat) (sep:ByteArray) (w:World) :
  Calls Tryz.prog 111 #[.slice a 0 c,.string sep] w fun e w'=>e=.returned (.string ⟨#[]⟩)∧w'=w:=Any.strings_Join_none NV Ho a c sep w
theorem strings_Join (bk o c:Nat) (xs:List ByteArray) (sep:ByteArray) (w:World) (hcells:∀ (j:Nat) x,xs[j]?=some x→w.cell? ⟨bk,o+j,none⟩=some (.string x)) (hbk:bk<w.heap.size) (hN:xs.length≤140737488355328) (hcap:xs.length≤c) (hlen:(Lib.join (xs.map (·.data.toList)) sep.data.toList).length≤140737488355328) :
  Calls Tryz.prog 111 #[.slice (some ⟨bk,o,none⟩) xs.length c,.string sep] w fun e w'=>e=.returned (.string ⟨(Lib.join (xs.map (·.data.toList)) sep.data.toList).toArray⟩)∧Below w.heap.size w w':=Any.strings_Join NV Ho bk o c xs sep w hcells hbk hN hcap hlen
end
end Go.Proofs.YthohlofpphjofaaGreatDoor
