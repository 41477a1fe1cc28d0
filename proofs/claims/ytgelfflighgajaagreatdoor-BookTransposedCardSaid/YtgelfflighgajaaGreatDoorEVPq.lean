/- A walk that knows values as trees: operations without conditions are carried out by computing. -/
import Derived.Test.YtgelfflighgajaaGreatDoorEAPq
set_option linter.unusedVariables false
set_option linter.unusedSimpArgs false
namespace Go.Proofs.YtgelfflighgajaaGreatDoor
section
open Go.RowKit
def needs(ops:Array Oper)(i:Nat):Nat→Nat→Bool
 | 0,_=>false
 | f+1,j =>
  match ops[j]? with
  | some o=>o.after.any fun e=>Region.binds .any e && (Nat.beq e.on i|| needs ops i f e.on)
  | none=>false
def behindB(ops:Array Oper)(mem:List Bool)(j:Nat):Bool:=(List.range j).all fun i=>!(mem.getD i false)|| needs ops i ops.size j
def chainB(ops:Array Oper)(mem:List Bool):Bool:=(List.range ops.size).all fun j=>!(mem.getD j false)|| behindB ops mem j
section
variable {P:Program} {C:Cx} {σ σ':St} {G G':Gh} {a:Act} {w w':World} {ops:Array Oper} {Q:Exit→St→Prop}
theorem needs_listed {listed:Array Bool} (hcl:∀ j oj,ops[j]?=some oj→listed.getD j false=true→∀ e∈oj.after,Region.binds .any e=true→listed.getD e.on false=true) {i:Nat}:∀ (f j:Nat),needs ops i f j=true→listed.getD j false=true→listed.getD i false=true
 | 0,j,h,_=>by cases h
 | f+1,j,h,hl=>by
  unfold needs at h
  cases ho:ops[j]? with
  | none=>simp [ho]at h
  | some o =>
   simp only [ho]at h
   obtain⟨e,he,h2⟩:=Array.any_eq_true'.1 h
   simp only [Bool.and_eq_true,Bool.or_eq_true]at h2
   have:=hcl j o ho hl e he h2.1
   rcases h2.2 with h3|h3
   ·rw [← Nat.eq_of_beq_eq_true h3];exact this
   ·exact needs_listed hcl f e.on h3 this
theorem needs_ready {listed:Array Bool} (hcl:∀ j oj,ops[j]?=some oj→listed.getD j false=true→∀ e∈oj.after,Region.binds .any e=true→listed.getD e.on false=true) {i j:Nat} {oj:Oper} (hj:ops[j]?=some oj)
  (hr:∀ e∈oj.after,Region.binds .any e=true→listed.getD e.on false=true):∀ (f:Nat),needs ops i f j=true→listed.getD i false=true
 | 0,h=>by cases h
 | f+1,h=>by
  unfold needs at h
  simp only [hj]at h
  obtain⟨e,he,h2⟩:=Array.any_eq_true'.1 h
  simp only [Bool.and_eq_true,Bool.or_eq_true]at h2
  have:=hr e he h2.1
  rcases h2.2 with h3|h3
  ·rw [← Nat.eq_of_beq_eq_true h3];exact this
  ·exact needs_listed hcl f e.on h3 this
theorem Ok.few (ok:Ok C σ G a w) {t:List (Nat×AV)} {M:List (Nat×AO)} {nk:Nat} (ht:∀ i av,look i t=some av→look i σ.t=some av∧av.inn nk=true) (hM:∀ k o,look k M=some o→look k σ.M=some o∧o.inn nk=true∧k<nk) (hnp:C.np≤nk):Ok C ⟨t,M,nk⟩ G a w :=
 ⟨ok.sz,⟨ok.df.1,hnp,ok.df.2.2⟩,fun i av x=>⟨(ok.tm i av (ht i av x).1).1,inn_bd (ht i av x).2,(ok.tm i av (ht i av x).1).2.2⟩,ok.bel,ok.fw,ok.f0,ok.f1,
  fun k o x=>⟨(hM k o x).2.2,by
   cases o with
   | box T cells=>exact fun i av y=>in1_bd (List.all_eq_true.1 (hM k _ x).2.1 av (List.mem_of_getElem? y))
   | rof T n rows hi hj y=>exact in1_bd (hM k _ x).2.1
   | rwo T n rows hi hj y=>exact in1_bd (hM k _ x).2.1
   | row T n rows=>trivial
   | rwn T n rows=>trivial
   | bld T e l=>trivial
   | opq q=>trivial,(ok.ob k o (hM k o x).1).2.2⟩,
  fun k o x p=>ok.my k o x (hM k o p).1,fun k o k' o' x p q=>ok.dj k o k' o' x (hM k o p).1 (hM k' o' q).1,fun k o x p u q=>ok.dF k o x p u (hM k o q).1⟩
def tsInn (nk:Nat):List (Nat×AV)→Bool
 | []=>true
 | x::r=>x.2.inn nk && tsInn nk r
def msInn (nk:Nat):List (Nat×AO)→Bool
 | []=>true
 | x::r=>x.2.inn nk && Nat.blt x.1 nk && msInn nk r
def msSub:List (Nat×AO)→List (Nat×AO)→Prop
 | [],_=>True
 | x::r,M=>look x.1 M=some x.2∧msSub r M
theorem tsInn_at {nk:Nat}:∀ {t:List (Nat×AV)},tsInn nk t=true→∀ i av,look i t=some av→av.inn nk=true
 | [],_,i,av,h=>by cases h
 | x::r,ht,i,av,h=>by
  simp only [tsInn,Bool.and_eq_true]at ht
  by_cases e:i=x.1
  ·subst e;rw [look_set_same]at h;cases h;exact ht.1
  ·rw [look_set_other e]at h;exact tsInn_at ht.2 i av h
theorem msInn_at {nk:Nat}:∀ {t:List (Nat×AO)},msInn nk t=true→∀ i o,look i t=some o→o.inn nk=true∧i<nk
 | [],_,i,o,h=>by cases h
 | x::r,ht,i,o,h=>by
  simp only [msInn,Bool.and_eq_true]at ht
  by_cases e:i=x.1
  ·subst e;rw [look_set_same]at h;cases h;exact⟨ht.1.1,of_blt ht.1.2⟩
  ·rw [look_set_other e]at h;exact msInn_at ht.2 i o h
theorem msSub_at {M:List (Nat×AO)}:∀ {t:List (Nat×AO)},msSub t M→∀ i o,look i t=some o→look i M=some o
 | [],_,i,o,h=>by cases h
 | x::r,ht,i,o,h=>by
  by_cases e:i=x.1
  ·subst e;rw [look_set_same]at h;cases h;exact ht.1
  ·rw [look_set_other e]at h;exact msSub_at ht.2 i o h
def DoesV (P:Program) (C:Cx) (ops:Array Oper) (o:Oper) (t:List (Nat×AV)) (Mc:List (Nat×AO)) (nk:Nat) (av:AV):Prop :=
 msInn nk Mc=true∧tsInn nk (onlyT t (o.looksAt ops))=true∧((guardK ops o ⟨onlyT t (o.looksAt ops),Mc,nk⟩=some true∧WV P C o ⟨onlyT t (o.looksAt ops),Mc,nk⟩ av)∨(guardK ops o ⟨onlyT t (o.looksAt ops),Mc,nk⟩=some false∧av=.sc undef))
def DoesM (P:Program) (C:Cx) (ops:Array Oper) (o:Oper) (σ:St) (d:Tmp) (av:AV) (M':List (Nat×AO)) (nk':Nat):Prop :=
 o.guard=none∧∀ t,(∀ q∈o.looksAt ops,look q t=look q σ.t)→WO P C o ⟨t,σ.M,σ.nk⟩ ⟨(d,av)::t,M',nk'⟩
inductive DM (P:Program) (C:Cx) (ops:Array Oper) (mem:List Bool) (Mc:List (Nat×AO)) (nk0:Nat):Nat→List Oper→St→St→Prop
 | nil (k:Nat) (σ:St):DM P C ops mem Mc nk0 k [] σ σ
 | val (k:Nat) (o:Oper) (rest:List Oper) (d:Tmp) (av:AV) (nk:Nat) (σ σ':St):mem.getD k false=false→o.dst=some d→Nat.blt d C.N=true→(nk=nk0∨(nk=σ.nk∧behindB ops mem k=true))→DoesV P C ops o σ.t Mc nk av →
   DM P C ops mem Mc nk0 (k+1) rest (σ.put d av) σ'→DM P C ops mem Mc nk0 k (o::rest) σ σ'
 | mem (k:Nat) (o:Oper) (rest:List Oper) (d:Tmp) (av:AV) (M':List (Nat×AO)) (nk':Nat) (σ σ':St):mem.getD k false=true→o.dst=some d→Nat.ble σ.nk nk'=true→msSub Mc M'→DoesM P C ops o σ d av M' nk' →
   DM P C ops mem Mc nk0 (k+1) rest ⟨(d,av)::σ.t,M',nk'⟩ σ'→DM P C ops mem Mc nk0 k (o::rest) σ σ'
theorem DM.data {mem:List Bool} {Mc:List (Nat×AO)} {nk0 k:Nat} {l:List Oper} {σ σ':St} (h:DM P C ops mem Mc nk0 k l σ σ'):∃ (avs:Nat→AV) (ms:Nat→List (Nat×AO)) (nks:Nat→Nat),ms 0=σ.M∧nks 0=σ.nk ∧
  σ'=⟨ents l.toArray avs (fun _=>true) l.length++σ.t,ms l.length,nks l.length⟩ ∧
  ∀ j oj,l[j]?=some oj→∃ d,oj.dst=some d ∧
   ((mem.getD (k+j) false=false∧d<C.N∧ms (j+1)=ms j∧nks (j+1)=nks j∧∃ nk,(nk=nk0∨(nk=nks j∧behindB ops mem (k+j)=true))∧DoesV P C ops oj (ents l.toArray avs (fun _=>true) j++σ.t) Mc nk (avs j)) ∨
    (mem.getD (k+j) false=true∧nks j≤nks (j+1)∧msSub Mc (ms (j+1))∧DoesM P C ops oj ⟨ents l.toArray avs (fun _=>true) j++σ.t,ms j,nks j⟩ d (avs j) (ms (j+1)) (nks (j+1)))):=by
 have key:∀ (o:Oper) (rest:List Oper) (d:Tmp) (av:AV) (avs:Nat→AV),o.dst=some d→∀ m,m≤rest.length→ents (o::rest).toArray (fun j=>if j=0 then av else avs (j-1)) (fun _=>true) (m+1)=ents rest.toArray avs (fun _=>true) m++[(d,av)]:=by
  intro o rest d av avs hd m
  induction m with
  | zero=>intro _;simp [ents,ent1,hd]
  | succ m ihm =>
   intro hm
   rw [ents,ihm (by omega),ents]
   simp
 induction h with
 | nil k σ=>exact ⟨fun _=>.sc undef,fun _=>σ.M,fun _=>σ.nk,rfl,rfl,rfl,fun j oj h=>by simp at h⟩
 | val k o rest d av nk σ σ' hm hd hN hq hdo _ ih =>
  obtain ⟨avs,ms,nks,m0,n0,e1,e2⟩:=ih
  refine ⟨fun j=>if j=0 then av else avs (j-1),fun j=>if j=0 then σ.M else ms (j-1),fun j=>if j=0 then σ.nk else nks (j-1),rfl,rfl,?_,fun j oj hj=>?_⟩
  ·rw [e1,List.length_cons,key o rest d av avs hd _ (Nat.le_refl _)]
   simp [St.put]
  ·cases j with
   | zero =>
    cases hj
    exact ⟨d,hd,.inl ⟨hm,of_blt hN,m0,n0,nk,hq,by simpa [ents] using hdo⟩⟩
   | succ j =>
    have hj':rest[j]?=some oj:=by simpa using hj
    obtain ⟨d',q1,q2⟩:=e2 j oj hj'
    refine ⟨d',q1,?_⟩
    rw [key o rest d av avs hd j (by have:=(List.getElem?_eq_some_iff.1 hj').1;omega)]
    simpa [St.put,Nat.add_assoc,Nat.add_comm 1 j] using q2
 | mem k o rest d av M' nk' σ σ' hm hd hn hsub hdo _ ih =>
  obtain ⟨avs,ms,nks,m0,n0,e1,e2⟩:=ih
  refine ⟨fun j=>if j=0 then av else avs (j-1),fun j=>if j=0 then σ.M else ms (j-1),fun j=>if j=0 then σ.nk else nks (j-1),rfl,rfl,?_,fun j oj hj=>?_⟩
  ·rw [e1,List.length_cons,key o rest d av avs hd _ (Nat.le_refl _)]
   simp
  ·cases j with
   | zero =>
    cases hj
    refine ⟨d,hd,.inr ⟨hm,?_,?_,?_⟩⟩
    ·show σ.nk≤nks 0
     rw [n0];exact Nat.le_of_ble_eq_true hn
    ·show msSub Mc (ms 0)
     rw [m0];exact hsub
    ·show DoesM P C ops o _ d av (ms 0) (nks 0)
     rw [m0,n0];simpa [ents] using hdo
   | succ j =>
    have hj':rest[j]?=some oj:=by simpa using hj
    obtain ⟨d',q1,q2⟩:=e2 j oj hj'
    refine ⟨d',q1,?_⟩
    rw [key o rest d av avs hd j (by have:=(List.getElem?_eq_some_iff.1 hj').1;omega)]
    simpa [Nat.add_assoc,Nat.add_comm 1 j] using q2
def cur(mem s:Nat→Bool):Nat→Nat
 | 0=>0
 | m+1=>if mem m=true∧s m=true then m+1 else cur mem s m
theorem cur_congr {mem s s':Nat→Bool}:∀ {m:Nat},(∀ i,i<m→mem i=true→s i=s' i)→cur mem s m=cur mem s' m
 | 0,_=>rfl
 | m+1,h=>by
  unfold cur
  rw [cur_congr (m:=m) fun i hi=>h i (by omega)]
  by_cases e:mem m=true
  ·rw [h m (by omega) e]
  ·rw [if_neg (fun x=>e x.1),if_neg (fun x=>e x.1)]
theorem cur_le {mem s:Nat→Bool}:∀ m:Nat,cur mem s m≤m
 | 0=>Nat.le_refl _
 | m+1=>by
  unfold cur
  split
  ·exact Nat.le_refl _
  ·exact Nat.le_succ_of_le (cur_le m)
theorem cur_at {α:Type} {mem s:Nat→Bool} {f:Nat→α} {n j:Nat} (hc:∀ i,i<n→mem i=false→f (i+1)=f i) (hs:∀ i,i<n→mem i=true→s i=decide (i<j)):∀ m,m≤n→f (cur mem s m)=f (min m j)
 | 0,_=>by simp [cur]
 | m+1,h=>by
  have ih:=cur_at hc hs m (by omega)
  unfold cur
  by_cases e:mem m=true
  ·have:=hs m (by omega) e
   by_cases hm:m<j
   ·rw [if_pos ⟨e,by rw [this];simpa using hm⟩,show min (m+1) j=m+1 by omega]
   ·rw [if_neg (by rw [this];simp;intro _;omega),ih,show min (m+1) j=min m j by omega]
  ·rw [if_neg (fun x=>e x.1),ih]
   by_cases hm:m<j
   ·rw [show min (m+1) j=m+1 by omega,show min m j=m by omega,hc m (by omega) (by simpa using e)]
   ·rw [show min (m+1) j=min m j by omega]
theorem cur_ge {mem s:Nat→Bool} {f:Nat→Nat} {n j:Nat} (hc:∀ i,i<n→mem i=false→f (i+1)=f i) (hmono:∀ i,i<n→f i≤f (i+1)) (hs:∀ i,i<n→i<j→mem i=true→s i=true):∀ m,m≤n→f (min m j)≤f (cur mem s m)
 | 0,_=>by simp [cur]
 | m+1,h=>by
  have ih:=cur_ge hc hmono hs m (by omega)
  unfold cur
  by_cases e:mem m=true∧s m=true
  ·rw [if_pos e]
   by_cases hm:m<j
   ·rw [show min (m+1) j=m+1 by omega]
    exact Nat.le_refl _
   ·rw [show min (m+1) j=j by omega]
    have:∀ b a,a≤b→b≤n→f a≤f b:=by
     intro b
     induction b with
     | zero=>intro a h _;rw [Nat.le_zero.1 h];exact Nat.le_refl _
     | succ b ihb =>
      intro a hab hbn
      by_cases e2:a=b+1
      ·rw [e2];exact Nat.le_refl _
      ·exact Nat.le_trans (ihb a (by omega) (by omega)) (hmono b (by omega))
    exact this (m+1) j (by omega) h
  ·rw [if_neg e]
   by_cases hm:m<j
   ·have hmf:mem m=false:=by
     cases hq:mem m with
     | false=>rfl
     | true=>exact absurd ⟨hq,hs m (by omega) hm hq⟩ e
    rw [show min (m+1) j=m+1 by omega,hc m (by omega) hmf]
    rw [show min m j=m by omega] at ih
    exact ih
   ·rw [show min (m+1) j=min m j by omega];exact ih
theorem WA.drawM {l:List Oper} (mem:List Bool) (Mc:List (Nat×AO)) (hB:Region.lexB .any l.toArray=true) (hch:chainB l.toArray mem=true) (hMc:msSub Mc σ.M) (h:DM P C l.toArray mem Mc σ.nk 0 l σ σ') (k:Q .normal σ'):WA P C l.toArray σ Q:=by
 intro G a w ok
 obtain ⟨avs,ms,nks,m0,n0,e1,e2⟩:=h.data
 simp only [Nat.zero_add] at e2
 simp only [Region.lexB,Bool.and_eq_true] at hB
 obtain ⟨FA,FB⟩:=lex_facts (ops:=l.toArray) l.toArray.size 0 (Array.replicate l.toArray.size false) (by simp) (by simp) (fun i hi=>by simp [Array.getD_eq_getD_getElem?,hi] at hi ⊢;simp [hi]) hB.2
 have sz:l.toArray.size=l.length:=by simp
 have mconst:∀ i,i < l.length→mem.getD i false=false→ms (i+1)=ms i∧nks (i+1)=nks i:=fun i hi hf=>by
  obtain ⟨d,_,q⟩:=e2 i l[i] (List.getElem?_eq_getElem hi)
  rcases q with ⟨_,_,a,b,_⟩|⟨a,_⟩
  ·exact ⟨a,b⟩
  ·rw [hf] at a;cases a
 have mmono:∀ i,i < l.length→nks i≤nks (i+1):=fun i hi=>by
  obtain ⟨d,_,q⟩:=e2 i l[i] (List.getElem?_eq_getElem hi)
  rcases q with ⟨_,_,_,b,_⟩|⟨_,b,_⟩
  ·rw [b];exact Nat.le_refl _
  ·exact b
 have hnp0:C.np≤nks 0:=by rw [n0];exact ok.df.2.1
 have hnpj:∀ i,i≤l.length→C.np≤nks i:=fun i=>by
  induction i with
  | zero=>exact fun _=>hnp0
  | succ i ih=>exact fun h=>Nat.le_trans (ih (by omega)) (mmono i (by omega))
 have msub:∀ i,i≤l.length→msSub Mc (ms i):=fun i=>by
  induction i with
  | zero=>intro _;rw [m0];exact hMc
  | succ i ih =>
   intro hi
   obtain ⟨d,_,q⟩:=e2 i l[i] (List.getElem?_eq_getElem (by omega))
   rcases q with ⟨_,_,a,_⟩|⟨_,_,a,_⟩
   ·rw [a];exact ih (by omega)
   ·exact a
 have hchj:∀ j,j < l.length→mem.getD j false=true→behindB l.toArray mem j=true:=fun j hj hmj=>by
  have h1:(!(mem.getD j false)|| behindB l.toArray mem j)=true:=List.all_eq_true.1 hch j (by simpa using hj)
  rw [hmj] at h1;exact h1
 have hbeh:∀ i j,i < j→behindB l.toArray mem j=true→mem.getD i false=true→needs l.toArray i l.toArray.size j=true:=fun i j hij hb hmi=>by
  have h1:(!(mem.getD i false)|| needs l.toArray i l.toArray.size j)=true:=List.all_eq_true.1 hb i (List.mem_range.2 hij)
  rw [hmi] at h1;exact h1
 let cu:Array Bool→Nat:=fun listed=>cur (fun i=>mem.getD i false) (fun i=>listed.getD i false) l.length
 let KS:Array Bool→St:=fun listed=>⟨ents l.toArray avs (fun i=>listed.getD i false) l.length++σ.t,ms (cu listed),nks (cu listed)⟩
 have key:∀ (fuel:Nat) (listed:Array Bool) (G:Gh) (a:Act) (w:World),listed.size=l.length→(∀ j oj,l.toArray[j]?=some oj→listed.getD j false=true→∀ e∈oj.after,Region.binds .any e=true→listed.getD e.on false=true) →
   (List.range l.length).countP (fun i=>!listed.getD i false)≤fuel→Ok C (KS listed) G a w→wpAny P .any l.toArray (Post C Q) fuel listed a w:=by
  intro fuel
  have done:∀ (listed:Array Bool) (G:Gh) (a:Act) (w:World),listed.size=l.length→Region.ready .any l.toArray listed=[]→Ok C (KS listed) G a w→Post C Q .normal a w:=by
   intro listed G a w hsz hr ok
   have hall:∀ n i,i < n→i < l.length→listed.getD i false=true:=by
    intro n
    induction n with
    | zero=>intro i h;omega
    | succ n ih =>
     intro i hi hlt
     by_cases e:i < n
     ·exact ih i e hlt
     ·have hin:i=n:=by omega
      subst hin
      cases hli:listed.getD i false with
      | true=>rfl
      | false =>
       have hoi:l.toArray[i]?=some l[i]:=by simp [hlt]
       have:i∈Region.ready .any l.toArray listed:=mem_ready.2 ⟨by
        have:listed.getD i true=listed.getD i false:=by simp [Array.getD_eq_getD_getElem?,hsz,hlt]
        rw [this];exact hli,l[i],hoi,fun e he hb=>ih e.on (FA i l[i] (Nat.zero_le _) hoi e he hb) (by have:=FA i l[i] (Nat.zero_le _) hoi e he hb;omega)⟩
       rw [hr] at this;cases this
   have hcu:ms (cu listed)=ms l.length∧nks (cu listed)=nks l.length:=by
    have hs:∀ i,i < l.length→(fun i=>mem.getD i false) i=true→(fun i=>listed.getD i false) i=decide (i < l.length):=fun i hi _=>by
     show listed.getD i false=_
     rw [hall (i+1) i (by omega) hi,decide_eq_true hi]
    have h1:=cur_at (f:=ms) (fun i hi hf=>(mconst i hi hf).1) hs l.length (Nat.le_refl _)
    have h2:=cur_at (f:=nks) (fun i hi hf=>(mconst i hi hf).2) hs l.length (Nat.le_refl _)
    rw [Nat.min_self] at h1 h2
    exact ⟨h1,h2⟩
   refine ⟨σ',G,k,ok.congr_ (fun t=>?_) (by rw [e1];exact hcu.1.symm) (by rw [e1];exact hcu.2.symm)⟩
   rw [e1]
   show look t (_++_)=look t (_++_)
   rw [look_app,look_app,ents_agree (s':=fun i=>listed.getD i false) fun i hi _=>(hall (i+1) i (by omega) hi).symm]
  induction fuel with
  | zero =>
   intro listed G a w hsz hcl hf ok
   have hr:Region.ready .any l.toArray listed=[]:=by
    apply List.eq_nil_iff_forall_not_mem.2
    intro j hj
    obtain ⟨h1,oj,h2,_⟩:=mem_ready.1 hj
    have hlt:j < l.length:=by have:=(Array.getElem?_eq_some_iff.1 h2).1;omega
    have h3:listed.getD j false=false:=by
     have:listed.getD j false=listed.getD j true:=by simp [Array.getD_eq_getD_getElem?,hsz,hlt]
     rw [this];exact h1
    have:=List.countP_eq_zero.1 (Nat.le_zero.1 hf) j (List.mem_range.2 hlt)
    simp [h3] at this
   exact ⟨hr,done listed G a w hsz hr ok⟩
  | succ fuel ih =>
   intro listed G a w hsz hcl hf ok
   refine ⟨fun hr=>done listed G a w hsz hr ok,fun j hj=>?_⟩
   obtain ⟨h1,oj,h2,h4⟩:=mem_ready.1 hj
   have hlt:j < l.length:=by have:=(Array.getElem?_eq_some_iff.1 h2).1;omega
   have h3:listed.getD j false=false:=by
    have:listed.getD j false=listed.getD j true:=by simp [Array.getD_eq_getD_getElem?,hsz,hlt]
    rw [this];exact h1
   have hlj:l[j]?=some oj:=by simpa using h2
   obtain ⟨d,hd,hdoes⟩:=e2 j oj hlj
   have hlook:∀ t∈oj.looksAt l.toArray,∀ i,i < l.length→(l.toArray[i]?).bind (·.dst)=some t→listed.getD i false=decide (i < j):=by
    intro t ht i hi hdi
    have hoi:l.toArray[i]?=some l[i]:=by simp [hi]
    rw [hoi] at hdi
    have hdi:l[i].dst=some t:=hdi
    rcases Nat.lt_trichotomy i j with hij|hij|hij
    ·rw [decide_eq_true hij]
     by_cases hno:∃ e,e∈oj.after∧Region.binds .any e=true∧e.on=i
     ·obtain ⟨e,he,hb,rfl⟩:=hno
      exact h4 e he hb
     ·exact absurd ht ((Oper.apart_spec (FB i j _ _ (Nat.zero_le _) hij hoi h2 fun e he hb h=>hno ⟨e,he,hb,h⟩)).1 t hdi)
    ·subst hij;rw [h3];simp
    ·rw [decide_eq_false (by omega)]
     cases hli:listed.getD i false with
     | false=>rfl
     | true =>
      by_cases hno:∃ e,e∈(l[i]).after∧Region.binds .any e=true∧e.on=j
      ·obtain ⟨e,he,hb,he2⟩:=hno
       have:=hcl i _ hoi hli e he hb
       rw [he2,h3] at this;cases this
      ·exact absurd ht ((Oper.apart_spec (FB j i _ _ (Nat.zero_le _) hij h2 hoi fun e he hb h=>hno ⟨e,he,hb,h⟩)).2.2 t hdi)
   have hents:∀ t,look t (ents l.toArray avs (fun _=>true) j)=look t (ents l.toArray avs (fun i=>decide (i < j)) l.length):=by
    intro t
    have:∀ m,j≤m→look t (ents l.toArray avs (fun i=>decide (i < j)) m)=look t (ents l.toArray avs (fun i=>decide (i < j)) j):=by
     intro m
     induction m with
     | zero=>intro h;rw [Nat.le_zero.1 h]
     | succ m ihm =>
      intro h
      by_cases e:j=m+1
      ·rw [e]
      ·rw [ents,look_app,look_ent1,if_neg (fun x=>by have:=of_decide_eq_true x.1;omega),ihm (by omega)];rfl
    rw [this l.length (by omega)]
    exact ents_agree fun i hi _=>(decide_eq_true hi).symm
   have hlooks:∀ t∈oj.looksAt l.toArray,look t (KS listed).t=look t (ents l.toArray avs (fun _=>true) j++σ.t):=fun t ht=>by
    show look t (_++_)=look t (_++_)
    rw [look_app,look_app,hents t,ents_agree fun i hi hdi=>(hlook t ht i hi hdi)]
   have hslots:∀ t,look t (ents l.toArray avs (fun i=>(listed.setIfInBounds j true).getD i false) l.length++σ.t)=look t ((d,avs j)::(KS listed).t):=by
    intro t
    by_cases et:t=d
    ·subst et
     rw [look_set_same,look_app,ents_top (j:=j) hlt (by rw [h2];exact hd) (by simp [Array.getD_eq_getD_getElem?,hsz,hlt]) fun i hij hi hdi=>?_]
     ·rfl
     ·have hoi:l.toArray[i]?=some l[i]:=by simp [hi]
      rw [hoi] at hdi
      have hdi:l[i].dst=some t:=hdi
      have hne:j≠i:=by omega
      cases hli:listed.getD i false with
      | false=>simpa [Array.getD_eq_getD_getElem?,Array.getElem?_setIfInBounds_ne hne] using hli
      | true =>
       by_cases hno:∃ e,e∈(l[i]).after∧Region.binds .any e=true∧e.on=j
       ·obtain ⟨e,he,hb,he2⟩:=hno
        have:=hcl i _ hoi hli e he hb
        rw [he2,h3] at this;cases this
       ·exact absurd hdi ((Oper.apart_spec (FB j i _ _ (Nat.zero_le _) hij h2 hoi fun e he hb h=>hno ⟨e,he,hb,h⟩)).2.1 t hd)
    ·rw [look_set_other et]
     show _=look t (_++_)
     rw [look_app,look_app]
     congr 1
     refine ents_agree fun i hi hdi=>?_
     by_cases e2:j=i
     ·subst e2
      rw [h2] at hdi
      have:oj.dst=some t:=hdi
      rw [hd] at this
      exact absurd (by injection this with h;exact h.symm) et
     ·simp [Array.getD_eq_getD_getElem?,Array.getElem?_setIfInBounds_ne e2]
   have hset:∀ i,j≠i→(listed.setIfInBounds j true).getD i false=listed.getD i false:=fun i e=>by simp [Array.getD_eq_getD_getElem?,Array.getElem?_setIfInBounds_ne e]
   have hsetj:(listed.setIfInBounds j true).getD j false=true:=by simp [Array.getD_eq_getD_getElem?,hsz,hlt]
   have hclose:∀ i oi,l.toArray[i]?=some oi→(listed.setIfInBounds j true).getD i false=true→∀ e∈oi.after,Region.binds .any e=true→(listed.setIfInBounds j true).getD e.on false=true:=by
    intro i oi hi hli e he hb
    have mono:∀ q,listed.getD q false=true→(listed.setIfInBounds j true).getD q false=true:=fun q hq=>by
     by_cases e:j=q
     ·subst e;rw [hq] at h3;cases h3
     ·rw [hset q e];exact hq
    by_cases e2:j=i
    ·subst e2
     rw [h2] at hi;cases hi
     exact mono _ (h4 e he hb)
    ·refine mono _ (hcl i oi hi ?_ e he hb)
     rw [← hset i e2];exact hli
   have hcount:(List.range l.length).countP (fun i=>!(listed.setIfInBounds j true).getD i false)≤fuel:=by
    have:=countP_lt (p:=fun i=>!listed.getD i false) (q:=fun i=>!(listed.setIfInBounds j true).getD i false) (fun i hi=>by
       by_cases e:j=i
       ·subst e;rw [hsetj] at hi;cases hi
       ·rw [hset i e] at hi;exact hi) hlt (by simp only [h3];rfl) (by simp only [hsetj];rfl)
    omega
   unfold wpOp
   simp only [h2]
   rcases hdoes with ⟨hmf,hdN,hmc,hnc,nk,hnk,hmi,hti,hdo⟩|⟨hmt,hnle,hsub,hgd,hdo⟩
   ·-- memory stays
    have hot:onlyT (KS listed).t (oj.looksAt l.toArray)=onlyT (ents l.toArray avs (fun _=>true) j++σ.t) (oj.looksAt l.toArray):=onlyT_congr hlooks
    have hnkle:nk≤nks (cu listed):=by
     rcases hnk with rfl|⟨rfl,hbj⟩
     ·have:=cur_ge (f:=nks) (j:=0) (s:=fun i=>listed.getD i false) (mem:=fun i=>mem.getD i false) (fun i hi hf=>(mconst i hi hf).2) mmono (fun i _ h=>by omega) l.length (Nat.le_refl _)
      rw [Nat.min_zero,n0] at this
      exact this
     ·have:=cur_ge (f:=nks) (j:=j) (s:=fun i=>listed.getD i false) (mem:=fun i=>mem.getD i false) (fun i hi hf=>(mconst i hi hf).2) mmono (fun i hi hij hmi=>needs_ready hcl h2 h4 _ (hbeh i j hij hbj hmi)) l.length (Nat.le_refl _)
      rw [show min l.length j=j by omega] at this
      exact this
    have okO:Ok C ⟨onlyT (ents l.toArray avs (fun _=>true) j++σ.t) (oj.looksAt l.toArray),Mc,nk⟩ G a w :=
     ok.few (hnp:=by rcases hnk with h|⟨h,_⟩<;>rw [h]<;>first|exact hnpj j (by omega)|(rw [← n0];exact hnp0)) (ht:=fun i av hx=>⟨by rw [← hot] at hx;exact look_onlyT hx,tsInn_at hti i av hx⟩) (hM:=fun q o hx=>⟨msSub_at (msub _ (cur_le _)) q o hx,(msInn_at hmi q o hx).1,(msInn_at hmi q o hx).2⟩)
    have next:∀ (v:Value) (G':Gh) (w':World),Ok C (KS listed) G' a w'→R G' (avs j) v→Bd nk (avs j)→wpAny P .any l.toArray (Post C Q) fuel (listed.setIfInBounds j true) (a.put oj.dst v) w':=by
     intro v G' w' ok' hr hb
     have ok2:=ok'.set (d:=some d) hr (hb.mono hnkle) fun x hx=>by cases hx;exact hdN
     rw [hd]
     have hcu:cu (listed.setIfInBounds j true)=cu listed:=cur_congr fun i hi hmi=>by
      by_cases e:j=i
      ·subst e;rw [hmf] at hmi;cases hmi
      ·exact hset i e
     exact ih (listed.setIfInBounds j true) G' _ w' (by simpa using hsz) hclose hcount (ok2.congr_ hslots (by show ms _=ms _;rw [hcu]) (by show nks _=nks _;rw [hcu]))
    rcases hdo with ⟨hg,hv⟩|⟨hg,hv⟩
    ·rw [if_pos (guardK_wanted okO hg)]
     exact .inl (hv G a w okO _ _ fun v G' w' hk hr hb=>next v G' w' (hk _ _ ok) hr hb)
    ·rw [if_neg (by rw [guardK_wanted okO hg];simp)]
     exact next undef G w ok (by rw [hv];exact .pu _ _ (.sc _)) (by rw [hv];exact .sc _)
   ·-- memory is written
    have hbj:=hchj j hlt hmt
    have hst:∀ i,i < l.length→mem.getD i false=true→listed.getD i false=decide (i < j):=fun i hi hmi=>by
     rcases Nat.lt_trichotomy i j with hij|hij|hij
     ·rw [decide_eq_true hij]
      exact needs_ready hcl h2 h4 _ (hbeh i j hij hbj hmi)
     ·subst hij;rw [h3];simp
     ·rw [decide_eq_false (by omega)]
      cases hli:listed.getD i false with
      | false=>rfl
      | true =>
       have:=needs_listed hcl _ _ (hbeh j i hij (hchj i hi hmi) hmt) hli
       rw [h3] at this;cases this
    have hM:ms (cu listed)=ms j∧nks (cu listed)=nks j:=by
     have h1:=cur_at (f:=ms) (fun i hi hf=>(mconst i hi hf).1) hst l.length (Nat.le_refl _)
     have h2:=cur_at (f:=nks) (fun i hi hf=>(mconst i hi hf).2) hst l.length (Nat.le_refl _)
     rw [show min l.length j=j by omega] at h1 h2
     exact ⟨h1,h2⟩
    have hst':∀ i,i < l.length→mem.getD i false=true→(listed.setIfInBounds j true).getD i false=decide (i < j+1):=fun i hi hmi=>by
     by_cases e:j=i
     ·subst e;rw [hsetj];simp
     ·rw [hset i e,hst i hi hmi]
      have:(i < j)↔(i < j+1):=by omega
      simp [this]
    have hM':ms (cu (listed.setIfInBounds j true))=ms (j+1)∧nks (cu (listed.setIfInBounds j true))=nks (j+1):=by
     have h1:=cur_at (f:=ms) (fun i hi hf=>(mconst i hi hf).1) hst' l.length (Nat.le_refl _)
     have h2:=cur_at (f:=nks) (fun i hi hf=>(mconst i hi hf).2) hst' l.length (Nat.le_refl _)
     rw [show min l.length (j+1)=j+1 by omega] at h1 h2
     exact ⟨h1,h2⟩
    rw [if_pos (by simp [Region.wanted,hgd])]
    have ok1:Ok C ⟨(KS listed).t,ms j,nks j⟩ G a w:=ok.congr_ (fun _=>rfl) (by exact hM.1.symm) (by exact hM.2.symm)
    refine .inl (hdo (KS listed).t hlooks G a w ok1 _ _ fun G' a' w' ok'=>?_)
    exact ih (listed.setIfInBounds j true) G' a' w' (by simpa using hsz) hclose hcount (ok'.congr_ hslots (by exact hM'.1) (by exact hM'.2))
 have hcu0:cu (Array.replicate l.toArray.size false)=0:=by
  have:∀ m,cur (fun i=>mem.getD i false) (fun i=>(Array.replicate l.toArray.size false).getD i false) m=0:=by
   intro m
   induction m with
   | zero=>rfl
   | succ m ih=>unfold cur;rw [if_neg (fun x=>by have:=x.2;rw [rep_getD] at this;cases this),ih]
  exact this _
 refine key _ (Array.replicate l.toArray.size false) G a _ (by simp) (fun j oj _ h=>?_) ?_ (ok.drew.congr_ (fun t=>?_) (by show ms _=_;rw [hcu0,m0]) (by show nks _=_;rw [hcu0,n0]))
 ·rw [rep_getD] at h;cases h
 ·rw [sz]
  exact Nat.le_trans List.countP_le_length (by simp)
 ·show look t (_++_)=_
  rw [look_app,ents_none fun i hi _=>?_]
  ·rfl
  ·exact rep_getD _ _
theorem W.drawM {id:Nat} {l:List Oper} (mem:List Bool)(Mc:List (Nat×AO))(hm:P.follows .mixedOrders=true)(hB:Region.lexB .any l.toArray=true)(hch:chainB l.toArray mem=true)(hMc:msSub Mc σ.M)(h:DM P C l.toArray mem Mc σ.nk 0 l σ σ')(k:Q .normal σ'):W P C (.region id l.toArray true) σ Q:=W.of_wa hm (WA.drawM mem Mc hB hch hMc h k)
end
end
section
open Go.RowKit
theorem fold_put:∀ (v:List Value)(off:Nat)(cells:Array Value),off+v.length≤cells.size→(v.zipIdx.foldl (fun cs (c,j)=>cs.setIfInBounds (off+j) c) cells).toList=putL off v cells.toList:=by
 have key:∀ (v:List Value)(off s:Nat)(cells:Array Value),off+s+v.length≤cells.size→(v.zipIdx s|>.foldl (fun cs (x:Value×Nat)=>cs.setIfInBounds (off+x.2) x.1) cells).toList=putL (off+s) v cells.toList:=by
  intro v
  induction v with
  | nil =>
   intro off s cells h
   rw [putL_eq _ _ _ (by simpa using h)]
   simp
  | cons x r ih =>
   intro off s cells h
   rw [List.zipIdx_cons,List.foldl_cons,ih off (s+1) _ (by simp at h ⊢;omega)]
   have hlen:off+s+(r.length+1)≤cells.size:=by simpa [Nat.add_assoc] using h
   have hl:off+s<cells.toList.length:=by simp;omega
   apply List.ext_getElem?
   intro i
   rw [putL_at (by simp;omega),putL_at (by simp;omega),Array.toList_setIfInBounds,List.length_cons]
   by_cases h2:i=off+s
   ·subst h2
    rw [if_neg (by omega),if_pos (by omega),List.getElem?_set_self hl,Nat.sub_self];rfl
   ·rw [List.getElem?_set_ne (fun e=>h2 e.symm)]
    by_cases h3:off+s+1≤i∧i<off+s+(r.length+1)
    ·rw [if_pos (by omega),if_pos (by omega),show i-(off+s)=(i-(off+(s+1)))+1 by omega,List.getElem?_cons_succ]
    ·rw [if_neg (by omega),if_neg (by omega)]
 intro v off cells h
 have:=key v off 0 cells (by simpa using h)
 simpa using this
theorem putL_head {α:Type} (l m rest:List α)(off:Nat)(h:off=l.length)(done:List α)(hl:m.length≤rest.length):putL off m (l++rest)=l++m++rest.drop m.length:=by
 subst h
 rw [putL_eq _ _ _ (by simp;omega),List.take_left,List.drop_append]
 simp
theorem fill_rows {size:Nat}:∀ (vs:List Value) (q:Nat) (done rest:List Value),done.length=q*size→rest.length=vs.length*size→(∀ v∈vs,v.cells.size=size) →
  Instr.fill (fun i=>some (i*size,size)) (done++rest).toArray (number q vs)=some (done++(vs.map fun v=>v.cells.toList).flatten).toArray
 | [],q,done,rest,hd,hr,_=>by
  have:rest=[]:=List.eq_nil_of_length_eq_zero (by simpa using hr)
  subst this
  simp [number,Instr.fill]
 | v::vs,q,done,rest,hd,hr,hv=>by
  have h1:v.cells.size=size:=hv v (by simp)
  have hle:size≤rest.length:=by rw [hr,List.length_cons,Nat.succ_mul];omega
  have hb:(v.cells.size≠size|| q*size+v.cells.size > (done++rest).toArray.size)=false:=by
   rw [h1];simp [hd];omega
  have hf:=fold_put v.cells.toList (q*size) (done++rest).toArray (by simp [h1,hd];omega)
  have e:(v.cells.zipIdx.foldl (fun cs (c,j)=>cs.setIfInBounds (q*size+j) c) (done++rest).toArray)=((done++v.cells.toList)++rest.drop size).toArray:=by
   apply Array.ext'
   rw [← Array.foldl_toList,Array.toList_zipIdx,hf]
   have:=putL_head done v.cells.toList rest (q*size) hd.symm done (by simpa [h1] using hle)
   simp only [List.toList_toArray] at this ⊢
   rw [this]
   simp [h1]
  have ih:=fill_rows vs (q+1) (done++v.cells.toList) (rest.drop size) (by simp [hd,h1,Nat.succ_mul]) (by simp [hr,Nat.succ_mul]) fun x hx=>hv x (by simp [hx])
  show (match some (q*size,size) with|none=>none|some (off,sz)=>if v.cells.size≠sz|| off+v.cells.size > (done++rest).toArray.size then none else Instr.fill _ _ (number (q+1) vs))=_
  simp only
  rw [hb]
  simp only [Bool.false_eq_true,if_false]
  rw [e,ih]
  simp
section
variable {P:Program} {C:Cx} {σ σ':St} {G G':Gh} {a:Act} {w w':World} {o:Oper} {d:Tmp}
theorem run_buildS {T e n m:Nat} {z:Value} {vs:List Value} {parts:Array (Nat×Value)} (hT:P.underlying T=some (.slice e)) (hn:sizeB P e=some n) (hz:(P.info? e).bind (·.zero)=some z) (hp:parts.toList=number 0 vs) (hm:vs.length=m) (hv:∀ v∈vs,v.cells.size=n) (hb:m*n≤16777216) (w:World) :
  (Instr.buildSlice T m parts).run P w=.ok (.slice (some ⟨w.heap.size,0,none⟩) m m) (w.alloc (.cells (vs.map fun v=>v.cells.toList).flatten.toArray e)):=by
 cases hi:P.info? e with
 | none=>simp [hi] at hz
 | some i =>
  simp [hi] at hz
  have hfill:∀ zero:Array Value,Instr.fill (fun i=>some (i*n,n)) ((Array.range (m*n)).map (zero[· % zero.size]!)) parts.toList=some (vs.map fun v=>v.cells.toList).flatten.toArray:=fun zero=>by
   have:=fill_rows (size:=n) vs 0 [] ((Array.range (m*n)).map (zero[· % zero.size]!)).toList (by simp) (by simp [hm]) hv
   rw [hp]
   have e0:((Array.range (m*n)).map (zero[· % zero.size]!))=([]++((Array.range (m*n)).map (zero[· % zero.size]!)).toList).toArray:=by rw [List.nil_append,Array.toArray_toList]
   rw [e0];exact this
  have h2:¬ (m*n > 2 ^ 24):=by simp;omega
  unfold Instr.buildSlice
  by_cases h0:m*n=0
  ·simp only [Sem.run_bind,run_underlying hT,Result.andThen_ok,run_sizeB hn,if_neg h2,if_pos h0,Sem.run_pure,hfill,newRow,run_newObj]
   rfl
  ·simp only [Sem.run_bind,run_underlying hT,Result.andThen_ok,run_sizeB hn,if_neg h2,if_neg h0,Sem.run_pure,zeroValue,typeInfo,run_program,hi,hz,hfill,newRow,run_newObj]
   rfl
def rowsB(n:Nat)(l:List AV):Bool:=l.all fun av=>av.cellB && Nat.beq av.cells.length n && av.cells.all AV.oneB && av.cells.all AV.pu0
theorem number_map {α β:Type} (f:α→β):∀ (n:Nat)(l:List α),(number n l).map (fun x=>(x.1,f x.2))=number n (l.map f)
 | _,[]=>rfl
 | n,x::r=>by simp [number,number_map f (n+1) r]
def numB {α:Type}:Nat→List (Nat×α)→Bool
 | _,[]=>true
 | n,x::r=>Nat.beq x.1 n && numB (n+1) r
theorem numB_eq {α:Type}:∀ (n:Nat)(l:List (Nat×α)),numB n l=true→l=number n (l.map (·.2))
 | _,[],_=>rfl
 | n,x::r,h=>by
  simp only [numB,Bool.and_eq_true] at h
  rw [List.map_cons,number,← numB_eq (n+1) r h.2,← Nat.eq_of_beq_eq_true h.1]
theorem WO.build0 {T e n m q:Nat} {z:Value} {parts:Array (Nat×Operand)} {xs:List Operand} {avs:List AV} {rows:List (List AV)} (ho:o.op=.buildSlice T m parts) (hT:P.underlying T=some (.slice e)) (hn:sizeB P e=some n) (hz:(P.info? e).bind (·.zero)=some z)
  (hp:parts.toList=number 0 xs) (hm:xs.length=m) (hb:Nat.ble (m*n) 16777216=true) (hb1:Nat.ble m 16777216=true) (hds:o.dst=some d) (hd:Nat.blt d C.N=true) (hx:σ.evs xs=some avs) (hck:rowsB n avs=true) (hr:avs.map AV.cells=rows) (hq:σ.nk=q) :
  WO P C o σ ((σ.new (.row e n rows)).put d (.sl q)):=by
 intro G a w ok N Q' hN
 obtain ⟨e1,e2⟩:=ok.evl hx
 have hck':∀ av∈avs,av.cellB=true∧av.cells.length=n∧av.cells.all AV.oneB=true∧av.cells.all AV.pu0=true:=fun av hav=>by
  have:=List.all_eq_true.1 hck av hav
  simp only [Bool.and_eq_true] at this
  exact ⟨this.1.1.1,Nat.eq_of_beq_eq_true this.1.1.2,this.1.2,this.2⟩
 have hv:∀ v∈xs.map a.eval,v.cells.size=n:=fun v hv=>by
  obtain ⟨i,hi,rfl⟩:=List.getElem_of_mem hv
  have hi2:i<avs.length:=by omega
  obtain ⟨c1,c2,_⟩:=hck' _ (List.getElem_mem hi2)
  rw [(cells_of (e2 i _ _ (List.getElem?_eq_getElem hi2) (List.getElem?_eq_getElem hi)) c1).1,c2]
 have hlm:(xs.map a.eval).length=m:=by simpa using hm
 have hrun:=run_buildS (P:=P) (T:=T) (e:=e) (n:=n) (m:=m) (vs:=xs.map a.eval) (parts:=parts.map fun (i,x)=>(i,a.eval x)) hT hn hz (by
  have:=number_map a.eval 0 xs
  rw [← this,← hp];simp) hlm hv (Nat.le_of_ble_eq_true hb) w
 have hvs:((xs.map a.eval).map fun v=>v.cells.toList).length=rows.length:=by rw [← hr];simp only [List.length_map] at e1 ⊢;exact e1
 have hown:=own_built w e n m ((xs.map a.eval).map fun v=>v.cells.toList).flatten.toArray (by unfold maxLen;have:=Nat.le_of_ble_eq_true hb1;omega) (by
  rw [List.size_toArray,flatten_len (size:=n) (fun r hr=>by obtain ⟨v,hv',rfl⟩:=List.mem_map.1 hr;simpa using hv v hv')]
  simp [hm])
 have honeR:∀ r∈(xs.map a.eval).map fun v=>v.cells.toList,∀ u∈r,u.oneCell'=true :=
  (fun r hr' u hu=>by
   obtain ⟨v,hv',rfl⟩:=List.mem_map.1 hr'
   obtain ⟨i,hi,rfl⟩:=List.getElem_of_mem hv'
   have hi2:i<avs.length:=by omega
   obtain ⟨c1,c2,c3,_⟩:=hck' _ (List.getElem_mem hi2)
   obtain ⟨d1,d2⟩:=cells_of (e2 i _ _ (List.getElem?_eq_getElem hi2) (List.getElem?_eq_getElem hi)) c1
   obtain ⟨j,hj,rfl⟩:=List.getElem_of_mem hu
   have hj2:j<(avs[i]).cells.length:=by rw [← d1];simpa using hj
   exact oneB_of (d2 j _ _ (List.getElem?_eq_getElem hj2) (by simp at hj;simp [hj])) (List.all_eq_true.1 c3 _ (List.getElem_mem hj2)))
 have hrel:∀ (i:Nat) r r',rows[i]?=some r→((xs.map a.eval).map fun v=>v.cells.toList)[i]?=some r'→RL G.F r r' :=
  (fun i r r' h1 h2=>by
   rw [← hr,List.getElem?_map] at h1
   rw [List.getElem?_map] at h2
   cases q1:avs[i]? with
   | none=>simp [q1] at h1
   | some av =>
    cases q2:(xs.map a.eval)[i]? with
    | none=>simp [q2] at h2
    | some v =>
     simp [q1] at h1
     simp only [q2,Option.map_some,Option.some.injEq] at h2
     subst h1 h2
     obtain ⟨c1,c2,_,c4⟩:=hck' av (List.mem_of_getElem? q1)
     obtain ⟨d1,d2⟩:=cells_of (e2 i av v q1 q2) c1
     exact ⟨by simpa using d1,fun j x u hx hu=>(pu0_bd (List.all_eq_true.1 c4 x (List.mem_of_getElem? hx)) 0).rp (d2 j x u hx (by simpa using hu))⟩)
 have hsl:(.slice (some ⟨w.heap.size,0,none⟩) m m:Value).ownBlock=some w.heap.size:=rfl
 have ok':=ok.newObj (w':=w.alloc (.cells ((xs.map a.eval).map fun v=>v.cells.toList).flatten.toArray e)) (S:=fun _=>False) (b:=w.heap.size) (n:=n) (h:=.slice (some ⟨w.heap.size,0,none⟩) m m) (φ:=fun x=>x=w.heap.size) (ob:=.row e n rows)
  (Kept.below ((Below.refl _ _).alloc (Nat.le_refl _) _)) (fun _ h=>h.elim) (fun _ _ _ _ _ h=>h) (fun _ _ _ h=>h)
  ⟨with_n,(fun g hg=>by rw [with_h,hsl] at hg;rw [with_b];exact (Option.some.inj hg).symm),by
   rw [with_h,with_f]
   refine ⟨fun r hr'=>by rw [← hr] at hr';obtain ⟨av,hav,rfl⟩:=List.mem_map.1 hr';exact (hck' av hav).2.1,(xs.map a.eval).map fun v=>v.cells.toList,fun _ _ _=>False,?_,hvs,?_,fun g hg=>by rw [hsl] at hg;exact (Option.some.inj hg).symm,
    fun _ _ _ h=>h.elim,fun _ _ _ _ _ h=>h.elim,fun i r r' h1 h2=>(hrel i r r' h1 h2).1,fun i r r' j av u h1 h2 h3 h4=>(hrel i r r' h1 h2).2 j av u h3 h4⟩
   ·have:((xs.map a.eval).map fun v=>v.cells.toList).length=m:=by simpa using hlm
    rw [this]
    exact own_weaken (by simpa using hown) (Nat.zero_le _)
   ·exact honeR⟩ trivial (fun x hx=>by
   obtain rfl:x=w.heap.size:=hx
   refine ⟨.inl ok.bel.size,by simp,fun k o h1 h2=>?_,fun p u h1 h2=>?_⟩
   ·have:=(ok.my k o _ h1 h2).2;omega
   ·have:=cell_block (ok.fw p u h1);omega)
 unfold Oper.wp execOp
 simp only [ho,Sem.run_bind,hrun,Result.andThen_ok,Sem.run_pure,Oper.upon]
 rw [hds]
 subst hq
 exact hN _ _ _ (ok'.set (d:=some d) (av:=.sl σ.nk) (v:=.slice (some ⟨w.heap.size,0,none⟩) m m) (with_sl rfl) (.sl _ (Nat.lt_succ_self _)) fun x hx=>by cases hx;exact of_blt hd)
theorem WO.build {T e n m q:Nat} {z:Value} {parts:Array (Nat×Operand)} {avs:List AV} {rows:List (List AV)} (ho:o.op=.buildSlice T m parts) (hT:P.underlying T=some (.slice e)) (hn:sizeB P e=some n) (hz:(P.info? e).bind (·.zero)=some z)
  (hp:numB 0 parts.toList=true) (hm:parts.toList.length=m) (hb:Nat.ble (m*n) 16777216=true) (hb1:Nat.ble m 16777216=true) (hds:o.dst=some d) (hd:Nat.blt d C.N=true) (hx:σ.evs (parts.toList.map (·.2))=some avs) (hck:rowsB n avs=true) (hr:avs.map AV.cells=rows) (hq:σ.nk=q) :
  WO P C o σ ((σ.new (.row e n rows)).put d (.sl q)) :=
 WO.build0 ho hT hn hz (numB_eq 0 _ hp) (by simpa using hm) hb hb1 hds hd hx hck hr hq
end
end
section
open Go.RowKit
def placesB (P:Program)(T:TypeId):Option (List (Nat×Nat)) :=
 match P.underlying T with
 | some (.struct fields)=>fields.toList.mapM fun f=>(P.info? f.type).map fun i=>(f.offset,i.size)
 | _=>none
def fillA (places:List (Nat×Nat)):List AV→List (Nat×AV)→Option (List AV)
 | cells,[]=>some cells
 | cells,(i,av)::r =>
  match places[i]? with
  | some (off,sz)=>bif av.cellB && Nat.beq av.cells.length sz && Nat.ble (off+sz) cells.length then fillA places (putL off av.cells cells) r else none
  | none=>none
def pairUp:List (Nat×Operand)→List AV→List (Nat×AV)
 | (i,_)::r,av::s=>(i,av)::pairUp r s
 | _,_=>[]
section
variable {P:Program} {C:Cx} {σ σ':St} {G G':Gh} {a:Act} {w w':World} {o:Oper} {d:Tmp} {ops:Array Oper} {Q:Exit→St→Prop}
theorem fillA_of {places:List (Nat×Nat)}:∀ (parts:List (Nat×AV)) (vals:List (Nat×Value)) (cells:List AV) (cs:Array Value) (l:List AV),fillA places cells parts=some l→vals.length=parts.length →
  (∀ (q:Nat) x y,parts[q]?=some x→vals[q]?=some y→y.1=x.1∧R G x.2 y.2)→cs.size=cells.length→(∀ (i:Nat) x u,cells[i]?=some x→cs[i]?=some u→R G x u) →
  ∃ cs',Instr.fill (places.toArray[·]?) cs vals=some cs'∧cs'.size=l.length∧∀ (i:Nat) x u,l[i]?=some x→cs'[i]?=some u→R G x u
 | [],vals,cells,cs,l,h,hl,_,hs,hc=>by
  cases h
  have:vals=[]:=List.eq_nil_of_length_eq_zero hl
  subst this
  exact ⟨cs,rfl,hs,hc⟩
 | (i,av)::r,[],cells,cs,l,h,hl,_,hs,hc=>by cases hl
 | (i,av)::r,(j,v)::vr,cells,cs,l,h,hl,hp,hs,hc=>by
  obtain ⟨e1,e2⟩:=hp 0 _ _ rfl rfl
  simp only at e1 e2
  subst e1
  unfold fillA at h
  cases hpl:places[j]? with
  | none=>simp [hpl] at h
  | some x =>
   obtain ⟨off,sz⟩:=x
   simp only [hpl] at h
   cases hb:av.cellB && Nat.beq av.cells.length sz && Nat.ble (off+sz) cells.length with
   | false=>rw [hb] at h;cases h
   | true =>
    rw [hb] at h
    simp only [cond_true] at h
    simp only [Bool.and_eq_true] at hb
    obtain ⟨⟨b1,b2⟩,b3⟩:=hb
    have b2:=Nat.eq_of_beq_eq_true b2
    have b3:=Nat.le_of_ble_eq_true b3
    obtain ⟨c1,c2⟩:=cells_of e2 b1
    have hfit:off+v.cells.toList.length≤cs.size:=by rw [hs];simp [c1,b2];omega
    have hfit2:off+av.cells.length≤cells.length:=by omega
    obtain ⟨cs',f1,f2,f3⟩:=fillA_of r vr (putL off av.cells cells) (putL off v.cells.toList cs.toList).toArray l h (by simpa using hl) (fun q x y a b=>hp (q+1) x y (by simpa using a) (by simpa using b))
     (by rw [List.size_toArray,putL_len (by simpa using hfit),putL_len hfit2];simpa using hs)
     (fun q x u a b=>putL_rel (R G) hfit2 (by rw [Array.length_toList];exact c1) (by rw [Array.length_toList];exact hs) (fun q x y a b=>c2 q x y a (by simpa using b)) (fun q x y a b=>hc q x y a (by simpa using b)) q x u a (by simpa using b))
    refine ⟨cs',?_,f2,f3⟩
    have hf:=fold_put v.cells.toList off cs hfit
    have e:(v.cells.zipIdx.foldl (fun cs (c,j)=>cs.setIfInBounds (off+j) c) cs)=(putL off v.cells.toList cs.toList).toArray:=by
     apply Array.ext'
     rw [← Array.foldl_toList,Array.toList_zipIdx,hf]
    have hpl':places.toArray[j]?=some (off,sz):=by simpa using hpl
    show (match places.toArray[j]? with|none=>none|some (off,sz)=>if v.cells.size≠sz|| off+v.cells.size > cs.size then none else Instr.fill _ _ vr)=_
    rw [hpl']
    simp only
    have hbad:(v.cells.size≠sz|| off+v.cells.size > cs.size)=false:=by
     rw [c1,b2];simp;rw [hs];omega
    rw [hbad]
    simp only [Bool.false_eq_true,if_false]
    rw [e];exact f1
theorem WV.build {T:TypeId} {parts:Array (Nat×Operand)} {z:Value} {places:List (Nat×Nat)} {avs l:List AV} (ho:o.op=.build T parts) (hz:(P.info? T).bind (·.zero)=some z) (hpl:placesB P T=some places)
  (hx:σ.evs (parts.toList.map (·.2))=some avs) (hf:fillA places (z.cells.toList.map .sc) (pairUp parts.toList avs)=some l):WV P C o σ (.ag l):=by
 have main:∀ G a w,Ok C σ G a w→∃ cs,(Instr.build T (parts.map fun (i,x)=>(i,a.eval x))).run P w=.ok (.agg cs) w∧cs.size=l.length∧∀ (i:Nat) x u,l[i]?=some x→cs[i]?=some u→R G x u:=by
  intro G a w ok
  obtain ⟨e1,e2⟩:=ok.evl hx
  have hlen:avs.length=parts.toList.length:=by simpa using e1.symm
  have hpu:∀ (ps:List (Nat×Operand)) (ys:List AV),ys.length=ps.length→(pairUp ps ys).length=ps.length∧∀ (q:Nat) x,(pairUp ps ys)[q]?=some x→∃ p av,ps[q]?=some p∧ys[q]?=some av∧x=(p.1,av):=by
   intro ps
   induction ps with
   | nil=>intro ys h;exact ⟨by cases ys<;>rfl,fun q x hx=>by cases ys<;>simp [pairUp] at hx⟩
   | cons p r ih =>
    intro ys h
    cases ys with
    | nil=>simp at h
    | cons av s =>
     obtain ⟨h1,h2⟩:=ih s (by simpa using h)
     refine ⟨by simp [pairUp,h1],fun q x hx=>?_⟩
     cases q with
     | zero=>cases hx;exact ⟨p,av,rfl,rfl,rfl⟩
     | succ q=>exact h2 q x (by simpa [pairUp] using hx)
  obtain ⟨p1,p2⟩:=hpu parts.toList avs hlen
  obtain ⟨cs',f1,f2,f3⟩:=fillA_of (G:=G) (pairUp parts.toList avs) (parts.toList.map fun (i,x)=>(i,a.eval x)) _ z.cells l hf (by simp [p1]) (fun q x y hxq hy=>by
   obtain ⟨p,av,q1,q2,rfl⟩:=p2 q x hxq
   rw [List.getElem?_map,q1] at hy
   simp at hy
   subst hy
   exact ⟨rfl,e2 q av _ q2 (by rw [List.map_map,List.getElem?_map,q1];rfl)⟩) (by simp) (fun i x u hxi hu=>by
   rw [List.getElem?_map,show z.cells.toList[i]?=z.cells[i]? by simp,hu] at hxi
   cases hxi
   exact .pu _ _ (.sc _))
  refine ⟨cs',?_,f2,f3⟩
  apply run_build
  unfold Program.built
  cases hi:P.info? T with
  | none=>simp [hi] at hz
  | some it =>
   simp [hi] at hz
   unfold placesB at hpl
   cases hu:P.underlying T with
   | none=>simp [hu] at hpl
   | some u =>
    cases u with
    | struct fields =>
     simp only [hu] at hpl
     simp only [hz,hpl]
     simpa using f1
    | _=>simp [hu] at hpl
 refine WV.val (fun G a w ok=>?_) fun G a w ok=>?_
 ·obtain ⟨_,b2⟩:True∧∀ av∈avs,Bd σ.nk av:=⟨trivial,by
   have:∀ (xs:List Operand) (ys:List AV),σ.evs xs=some ys→∀ av∈ys,Bd σ.nk av:=by
    intro xs
    induction xs with
    | nil=>intro ys h av hav;cases h;cases hav
    | cons x r ih =>
     intro ys h av hav
     unfold St.evs at h
     cases h1:σ.ev x with
     | none=>simp [h1] at h
     | some y =>
      cases h2:σ.evs r with
      | none=>simp [h1,h2] at h
      | some l' =>
       simp [h1,h2] at h
       subst h
       rcases List.mem_cons.1 hav with rfl|hav
       ·exact (ok.evr h1).1
       ·exact ih l' h2 av hav
   exact this _ _ hx⟩
  have hfb:∀ (parts:List (Nat×AV)) (cells l:List AV),fillA places cells parts=some l→(∀ x∈parts,Bd σ.nk x.2)→(∀ (i:Nat) x,cells[i]?=some x→Bd σ.nk x)→∀ (i:Nat) x,l[i]?=some x→Bd σ.nk x:=by
   intro parts
   induction parts with
   | nil=>intro cells l h _ hc;cases h;exact hc
   | cons p r ih =>
    intro cells l h hp hc
    obtain ⟨i,av⟩:=p
    unfold fillA at h
    cases hpl:places[i]? with
    | none=>simp [hpl] at h
    | some x =>
     obtain ⟨off,sz⟩:=x
     simp only [hpl] at h
     cases hb:av.cellB && Nat.beq av.cells.length sz && Nat.ble (off+sz) cells.length with
     | false=>rw [hb] at h;cases h
     | true =>
      rw [hb] at h
      simp only [Bool.and_eq_true] at hb
      have b2:=Nat.eq_of_beq_eq_true hb.1.2
      have b3:=Nat.le_of_ble_eq_true hb.2
      refine ih _ _ h (fun x hx=>hp x (by simp [hx])) fun q x hx=>?_
      rw [putL_at (by omega)] at hx
      split at hx
      ·exact cells_bd (hp (i,av) (by simp)) _ x hx
      ·exact hc q x hx
  refine .ag _ (hfb _ _ _ hf (fun x hx=>?_) fun i x hx=>?_)
  ·have:∀ (ps:List (Nat×Operand)) (ys:List AV),x∈pairUp ps ys→x.2∈ys:=by
    intro ps
    induction ps with
    | nil=>intro ys h;cases ys<;>simp [pairUp] at h
    | cons p r ih =>
     intro ys h
     cases ys with
     | nil=>simp [pairUp] at h
     | cons av s =>
      rcases List.mem_cons.1 (by simpa [pairUp] using h) with rfl|h
      ·simp
      ·exact List.mem_cons_of_mem _ (ih s h)
   exact b2 _ (this _ _ hx)
  ·rw [List.getElem?_map] at hx
   cases hq:z.cells.toList[i]? with
   | none=>simp [hq] at hx
   | some u=>simp [hq] at hx;rw [← hx];exact .sc _
 ·obtain ⟨cs,h1,h2,h3⟩:=main G a w ok
  exact ⟨.agg cs,by unfold execOp;simp only [ho,Sem.run_bind,h1,Result.andThen_ok,Sem.run_pure],.ag l cs h2 h3⟩
end
end
section
open Go.RowKit
def gdn(v:Value)(b:Bool):Bool :=
 match vb v with
 | some c=>!(c == b)
 | none=>true
section
variable {P:Program} {C:Cx} {σ σ':St} {G G':Gh} {a:Act} {w w':World} {o oj:Oper} {d d0:Tmp} {ops:Array Oper} {rest:List Oper} {Q:Exit→St→Prop} {j:Nat} {b c:Bool}
theorem WL.opno {v:Value} (hg:o.guard=some (j,b))(hj:ops[j]?=some oj)(hd0:oj.dst=some d0)(hv:look d0 σ.t=some (.sc v))(hb:gdn v b=true)(hds:o.dst=some d)(hd:Nat.blt d C.N=true)(k:WL P C ops rest (σ.put d (.sc undef)) Q):WL P C ops (o::rest) σ Q :=
 WL.opn hg hj hd0 hv (by
  unfold gdn at hb
  cases h:vb v with
  | none=>simp
  | some c=>rw [h] at hb;cases c<;>cases b<;>first|(intro h2;cases h2;done)|cases hb) hds hd k
theorem WL.partG (hg:o.guard=some (j,b)) (hj:ops[j]?=some oj) (hd0:oj.dst=some d0) (hv:look d0 σ.t=some (.sc (.bool c))) (h1:c=true→WL P C ops (o::rest) (σ.put d0 (.sc (.bool true))) Q) (h2:c=false→WL P C ops (o::rest) (σ.put d0 (.sc (.bool false))) Q):WL P C ops (o::rest) σ Q :=
 WL.part hv h1 h2
theorem W.condT {x:Operand} {p q:Code} (hc:σ.ev x=some (.sc (.bool true))) (h:W P C p σ Q):W P C (.cond x p q) σ Q:=W.cond hc (fun _=>h) (fun h=>by cases h)
theorem W.condF {x:Operand} {p q:Code} (hc:σ.ev x=some (.sc (.bool false))) (h:W P C q σ Q):W P C (.cond x p q) σ Q:=W.cond hc (fun h=>by cases h) (fun _=>h)
theorem WV.cast {av av':AV} (h:WV P C o σ av)(e:av=av'):WV P C o σ av':=e ▸ h
theorem ev_agree {t:List (Nat×AV)} {M:List (Nat×AO)} {nk:Nat} (H:∀ q∈o.looksAt ops,look q t=look q σ.t) {x:Operand} (hx:x∈o.op.operands.toList):(⟨t,M,nk⟩:St).ev x=σ.ev x:=by
 cases x with
 | tmp q=>exact H q (List.mem_append_left _ (List.mem_filterMap.2 ⟨.tmp q,hx,rfl⟩))
 | const v=>rfl
 | func f=>rfl
 | global g=>rfl
theorem src_same {t:List (Nat×AV)} {nk:Nat} (n:Nat)(av:AV):(⟨t,σ.M,nk⟩:St).src n av=σ.src n av:=by cases av<;>rfl
theorem evs_agree {t:List (Nat×AV)} {M:List (Nat×AO)} {nk:Nat} (H:∀ q∈o.looksAt ops,look q t=look q σ.t):∀ {xs:List Operand},(∀ x∈xs,x∈o.op.operands.toList)→(⟨t,M,nk⟩:St).evs xs=σ.evs xs
 | [],_=>rfl
 | x::r,h=>by
  unfold St.evs
  rw [ev_agree H (h x (by simp)),evs_agree H fun y hy=>h y (by simp [hy])]
theorem DoesM.append {T e n by_ k m:Nat} {z:Value} {i:TypeInfo} {x y:Operand} {rows rows2 rows':List (List AV)} {av2:AV} {M':List (Nat×AO)} {nk':Nat} (hg:o.guard=none) (ho:o.op=.call { callee:=.builtin .append,args:=#[x,y],argTypes:=#[T,T] }) (hT:P.underlying T=some (.slice e))
  (hi:P.info? e=some i) (hz:i.zero=some z) (hn:i.size=n) (hby:i.bytes=by_) (hzs:z.cells.size=n) (h0:Nat.blt 0 n=true) (hds:o.dst=some d) (hd:Nat.blt d C.N=true)
  (hx:σ.ev x=some (.sl k)) (hk:look k σ.M=some (.row e n rows)) (hy:σ.ev y=some av2) (hs:σ.src n av2=some rows2) (hm:σ.nk=m) (hb1:rows.length+rows2.length≤1000000000) (hb2:Nat.ble by_ 100000=true) (hrr:rows++rows2=rows') (hM:(m,.row e n rows')::rem k σ.M=M') (hnk:m+1=nk') :
  DoesM P C ops o σ d (.sl m) M' nk':=by
 subst hM hnk
 refine ⟨hg,fun t H=>?_⟩
 have hmem:∀ q∈[x,y],q∈o.op.operands.toList:=fun q hq=>by rw [ho];simp [Op.operands,Call.operands] at hq ⊢;exact hq
 have:=WO.append (P:=P) (C:=C) (σ:=⟨t,σ.M,σ.nk⟩) ho hT hi hz hn hby hzs h0 hds hd ((ev_agree H (hmem x (by simp))).trans hx) hk ((ev_agree H (hmem y (by simp))).trans hy) ((src_same n av2).trans hs) hm hb1 hb2 hrr
 subst hm
 exact this
theorem DoesM.build {T e n m q:Nat} {z:Value} {parts:Array (Nat×Operand)} {avs:List AV} {rows:List (List AV)} {M':List (Nat×AO)} {nk':Nat} (hg:o.guard=none) (ho:o.op=.buildSlice T m parts) (hT:P.underlying T=some (.slice e)) (hn:sizeB P e=some n) (hz:(P.info? e).bind (·.zero)=some z)
  (hp:numB 0 parts.toList=true) (hm:parts.toList.length=m) (hb:Nat.ble (m*n) 16777216=true) (hb1:Nat.ble m 16777216=true) (hds:o.dst=some d) (hd:Nat.blt d C.N=true) (hx:σ.evs (parts.toList.map (·.2))=some avs) (hck:rowsB n avs=true) (hr:avs.map AV.cells=rows) (hq:σ.nk=q) (hM:(q,.row e n rows)::σ.M=M') (hnk:q+1=nk') :
  DoesM P C ops o σ d (.sl q) M' nk':=by
 subst hM hnk
 refine ⟨hg,fun t H=>?_⟩
 have hmem:∀ x∈parts.toList.map (·.2),x∈o.op.operands.toList:=fun x hx'=>by
  rw [ho]
  simp only [Op.operands]
  exact hx'
 have:=WO.build (P:=P) (C:=C) (σ:=⟨t,σ.M,σ.nk⟩) ho hT hn hz hp hm hb hb1 hds hd ((evs_agree H hmem).trans hx) hck hr hq
 subst hq
 exact this
end
theorem Tr.nilBox {C:Cx} {σ:St} {k j m:Nat} {T':TypeId} {cells cells':List AV} (T:TypeId) (n:Nat) (hk:look k σ.M=some (.box T' cells)) (hj:cells[j]?=some (.sc (.slice none 0 0))) (hm:σ.nk=m) (hc:cells.set j (.sl m)=cells') :
  Tr C σ ((σ.new (.row T n [])).upd k (.box T' cells')):=fun G a w ok=>by
 obtain ⟨G',ok',hsl⟩:=ok.nilRow T n
 subst hm hc
 have hkn:k≠σ.nk:=Nat.ne_of_lt (ok.ob k _ hk).1
 have hk':look k (σ.new (.row T n [])).M=some (.box T' cells):=by
  rw [show look k (σ.new (.row T n [])).M=look k σ.M from look_set_other hkn];exact hk
 obtain ⟨g1,g2,g3,cs,Φ,g4,g5,g6,g7,g8⟩:=ok'.ob k _ hk'
 refine ⟨G',ok'.reob hk' ⟨g1,fun i av x=>?_,g3,cs,Φ,g4,by simpa using g5,g6,g7,fun i av u x y=>?_⟩⟩
 ·rw [List.getElem?_set]at x
  split at x
  ·split at x
   ·cases x;exact .sl _ (Nat.lt_succ_self _)
   ·cases x
  ·exact g2 i av x
 ·by_cases e:j=i
  ·subst e
   have hlt:j<cells.length:=(List.getElem?_eq_some_iff.1 hj).1
   rw [List.getElem?_set_self hlt]at x
   cases x
   have:=((g8 j _ u hj y).r rfl).sc_eq
   rw [this];exact .inl hsl
  ·rw [List.getElem?_set_ne e]at x
   exact g8 i av u x y
theorem callF {P:Program} {f:FuncId} {fn:Func} (h:P.funcs[f]?=some fn)(hn:(fn.name == "runtime.NumGoroutine")=false)(hb:fn.body.isNone=false):∀ vs w,(callFunc f vs).run P w=.ok (.enter f vs) w:=fun vs w=>by
 unfold callFunc
 simp only [Sem.run_bind,run_program,Result.andThen_ok,h,hn,hb,Bool.false_eq_true,if_false]
 rfl
theorem fin_cell {P:Program} {fn:Func} {C:Cx} {σ:St} {t:Tmp} {T T':TypeId} {k n:Nat} {cells:List AV} {res:AV} (h:fn.results=#[.cell t T])(hT:aggB P T=some true)(hn:sizeB P T=some n)(ht:look t σ.t=some (.pt k 0 0))(hk:look k σ.M=some (.box T' cells))(hl:cells.length=n)(hr:.ag cells=res)(hp:cells.all AV.pu0=true) :
  QFin P fn C res .ret σ:=by
 refine⟨.inr rfl,fun G a w ok=>?_⟩
 subst hr
 obtain⟨p,ep,p1,p2,p3⟩:=(ok.tm t _ ht).2.2.pt_of
 obtain⟨_,_,g3,cs,Φ,g4,g5,_,_,g6⟩:=ok.ob k _ hk
 obtain rfl:=addr_eq p1 p2 p3
 rw [Nat.zero_mul,Nat.zero_add] at ep
 refine⟨.agg cs,G.F,?_,fun _ _ h=>h,ok.fw,fun _ _ h=>.inl h,.ag _ _ g5 fun i av u x y=>(pu0_bd (List.all_eq_true.1 hp av (List.mem_of_getElem? x)) 0).rp ((g6 i av u x y).r (pu0_own (List.all_eq_true.1 hp av (List.mem_of_getElem? x))))⟩
 unfold aggB at hT
 cases hu:P.underlying T with
 | none=>simp [hu] at hT
 | some d =>
  refine results_cell_row h a.tmps w (G.b k) T' cs (0,0) d ep g4 hu ?_ ?_
  ·rw [hu] at hT;cases d<;>simp_all
  ·have:sizeB P T=some cs.size:=by rw [hn,g5,hl]
   exact this
theorem letsOut_mono {Q Q':Exit→Act→World→Prop} (h:∀ e a w,Q e a w→Q' e a w)(k:LetsOut Q):LetsOut Q':=let⟨a,w,q⟩:=k;⟨a,w,h _ a w q⟩
theorem wp_monoQ {P:Program} {o:Oper} {a:Act} {w:World} {K K':Act→World→Prop} {Q Q':Exit→Act→World→Prop} (hk:∀ a w,K a w→K' a w)(hq:∀ e a w,Q e a w→Q' e a w)(h:o.wp P a w K Q):o.wp P a w K' Q':=by
 unfold Oper.wp at *
 generalize(execOp a.eval o).run P w=r at *
 cases r with
 | ok n w' =>
  cases n<;>simp only [Oper.upon]at h ⊢
  case value v=>exact hk _ _ h
  case skip=>exact hk _ _ h
  case defer d=>exact hk _ _ h
  case enter f args =>
   refine h.mono fun e w'' x=>?_
   cases e with
   | returned v=>exact hk _ _ x
   | panicked c=>exact hq _ _ _ x
   | outgrown=>exact letsOut_mono hq x
  case row r args=>exact h.mono fun v w'' x=>hk _ _ x
 | halt x w' =>
  cases x<;>simp only [Oper.upon]at h ⊢
  exact hq _ _ _ h
theorem wpList_mono' {P:Program} {ops:Array Oper} {Q Q':Exit→Act→World→Prop}:∀ {l:List Oper} {a:Act} {w:World},wpList P ops Q l a w→(∀ e a w,Q e a w→Q' e a w)→wpList P ops Q' l a w
 | [],a,w,h,hq=>hq _ _ _ h
 | o::rest,a,w,h,hq=>by
  unfold wpList at *
  split at h
  ·rename_i hw
   rw [if_pos hw]
   rcases h with h|⟨h1,h2⟩
   ·exact .inl (wp_monoQ (fun a w x=>wpList_mono' x hq) hq h)
   ·exact .inr ⟨h1,letsOut_mono hq h2⟩
  ·rename_i hw
   rw [if_neg hw]
   exact wpList_mono' h hq
theorem W.meet {P:Program} {C:Cx} {σ:St} {Q Q2:Exit→St→Prop} {x y:Code} (σm:St)(h:W P C x σ (QThen (fun s=>Tr C s σm) Q))(k:W P C y σm Q2):W P C x σ (QThen (fun s=>W P C y s Q2) Q) :=
 W.mono h fun e s q=>by
  cases e with
  | normal=>exact W.tr q k
  | _=>exact q
theorem WL.meet2 {P:Program} {C:Cx} {σ:St} {ops:Array Oper} {l:List Oper} {Q Q1 Q2:Exit→St→Prop} {x y:Code} (σm:St)(h:WL P C ops l σ (QThen (fun s=>W P C x s (QThen (fun s=>Tr C s σm) Q)) Q1))(k:W P C y σm Q2) :
  WL P C ops l σ (QThen (fun s=>W P C x s (QThen (fun s=>W P C y s Q2) Q)) Q1):=fun G a w ok =>
 wpList_mono' (h G a w ok) fun e a w⟨s,g,q,o⟩=>⟨s,g,by
  cases e with
  | normal=>exact W.meet σm q k
  | _=>exact q,o⟩
end
section
open Go.RowKit
def DK(P:Program)(C:Cx)(ops:Array Oper)(l:List Oper)(σ:St)(Q:Exit→St→Prop):Prop:=∃ σ',DL P C ops l σ σ'∧Q .normal σ'
def DMK (P:Program)(C:Cx)(ops:Array Oper)(mem:List Bool)(Mc:List (Nat×AO))(nk0 k:Nat)(l:List Oper)(σ:St)(Q:Exit→St→Prop):Prop:=∃ σ',DM P C ops mem Mc nk0 k l σ σ'∧Q .normal σ'
section
variable {P:Program} {C:Cx} {σ:St} {ops:Array Oper} {l rest:List Oper} {o:Oper} {d:Tmp} {av:AV} {Q:Exit→St→Prop}
theorem W.drawK {id:Nat} (hm:P.follows .mixedOrders=true)(hB:Region.lexB .any l.toArray=true)(h:DK P C l.toArray l σ Q):W P C (.region id l.toArray true) σ Q :=
 let⟨_,a,b⟩:=h;W.draw hm hB a b
theorem DK.nil(k:Q .normal σ):DK P C ops [] σ Q:=⟨σ,.nil σ,k⟩
theorem DK.op (hd:o.dst=some d)(hN:Nat.blt d C.N=true)(h:Does P C ops o σ av)(k:DK P C ops rest (σ.put d av) Q):DK P C ops (o::rest) σ Q :=
 let⟨s,a,b⟩:=k;⟨s,.op o rest d av σ s hd hN h a,b⟩
theorem DK.val (hd:o.dst=some d) (hN:Nat.blt d C.N=true) (hg:guardK ops o (σ.only (o.looksAt ops))=some true) (h:WV P C o (σ.only (o.looksAt ops)) av) (k:DK P C ops rest (σ.put d av) Q):DK P C ops (o::rest) σ Q:=DK.op hd hN (.inl ⟨hg,h⟩) k
theorem DK.no (hd:o.dst=some d) (hN:Nat.blt d C.N=true) (hg:guardK ops o (σ.only (o.looksAt ops))=some false) (k:DK P C ops rest (σ.put d (.sc undef)) Q):DK P C ops (o::rest) σ Q:=DK.op hd hN (.inr ⟨hg,rfl⟩) k
theorem W.drawMK {id:Nat} (mem:List Bool)(Mc:List (Nat×AO))(hm:P.follows .mixedOrders=true)(hB:Region.lexB .any l.toArray=true)(hch:chainB l.toArray mem=true)(hMc:msSub Mc σ.M)(h:DMK P C l.toArray mem Mc σ.nk 0 l σ Q):W P C (.region id l.toArray true) σ Q :=
 let⟨_,a,b⟩:=h;W.drawM mem Mc hm hB hch hMc a b
variable {mem:List Bool} {Mc:List (Nat×AO)} {nk0 k:Nat}
theorem DMK.nil(h:Q .normal σ):DMK P C ops mem Mc nk0 k [] σ Q:=⟨σ,.nil k σ,h⟩
theorem DMK.val (hm:mem.getD k false=false)(hd:o.dst=some d)(hN:Nat.blt d C.N=true) {nk:Nat} (hk:nk=nk0∨(nk=σ.nk∧behindB ops mem k=true))(h:DoesV P C ops o σ.t Mc nk av)(r:DMK P C ops mem Mc nk0 (k+1) rest (σ.put d av) Q):DMK P C ops mem Mc nk0 k (o::rest) σ Q :=
 let⟨s,a,b⟩:=r;⟨s,.val k o rest d av nk σ s hm hd hN hk h a,b⟩
theorem DMK.wr {M':List (Nat×AO)} {nk':Nat} (hm:mem.getD k false=true) (hd:o.dst=some d) (hn:Nat.ble σ.nk nk'=true) (hs:msSub Mc M') (h:DoesM P C ops o σ d av M' nk') (r:DMK P C ops mem Mc nk0 (k+1) rest ⟨(d,av)::σ.t,M',nk'⟩ Q):DMK P C ops mem Mc nk0 k (o::rest) σ Q :=
 let ⟨s,a,b⟩:=r;⟨s,.mem k o rest d av M' nk' σ s hm hd hn hs h a,b⟩
end
end
section
open Go.RowKit
theorem flat_rep(z:Value):∀ k:Nat,(List.replicate k [z]).flatten=List.replicate k z
 | 0=>rfl
 | k+1=>by rw [List.replicate_succ,List.replicate_succ,List.flatten_cons,flat_rep z k];rfl
section
variable {P:Program} {C:Cx} {σ:St} {o:Oper} {d:Tmp}
theorem WO.make1 {T e q k:Nat} {z:Value} {i:TypeInfo} {x y:Operand} (ho:o.op=.makeSlice T x y) (hT:P.underlying T=some (.slice e)) (hi:P.info? e=some i) (hz:i.zero=some z) (hn:i.size=1) (hby:Nat.ble i.bytes 1000=true)
  (hc:∀ k,(madeCells z.cells (k*1)).toList=List.replicate k z) (hz1:z.oneCell'=true) (hds:o.dst=some d) (hd:Nat.blt d C.N=true) (hx:σ.ev x=some (.sc (.int .i64 (k:Nat)))) (hy:σ.ev y=some (.sc (.int .i64 (k:Nat)))) (hk:k≤1000000) (hq:σ.nk=q) :
  WO P C o σ ((σ.new (.row e 1 (List.replicate k [.sc z]))).put d (.sl q)):=by
 intro G a w ok N Q' hN
 have hb:=Nat.le_of_ble_eq_true hby
 have hbk:i.bytes*k≤281474976710656:=Nat.le_trans (Nat.mul_le_mul hb hk) (by decide)
 obtain ⟨w',hrun,hown,hgr⟩:=run_makeSlice_full (P:=P) w C.w0.heap.size T e i z 1 hT hi hz hn .i64 .i64 k (by omega) hbk (by unfold maxLen;omega) ok.bel.size
 have hl:(List.replicate k [z]).length=k:=by simp
 have hsl:(.slice (some ⟨w.heap.size,0,none⟩) k k:Value).ownBlock=some w.heap.size:=rfl
 have hlt:w.heap.size<w'.heap.size:=by
  rcases hown.2 with⟨e,_⟩|⟨g,cap,cur,e,_,hh,_⟩
  ·cases e
  ·obtain rfl:w.heap.size=g:=by injection e with e _ _;injection e with e;injection e
   exact (Array.getElem?_eq_some_iff.1 hh).1
 have ok':=ok.newObj (w':=w') (S:=fun _=>False) (b:=w.heap.size) (n:=1) (h:=.slice (some ⟨w.heap.size,0,none⟩) k k) (φ:=fun x=>x=w.heap.size) (ob:=.row e 1 (List.replicate k [.sc z]))
  ⟨hgr.os,hgr.tape,hgr.output,hgr.size,fun x h1 _=>hgr.block x h1 (by simp)⟩ (fun _ h=>h.elim) (fun _ _ _ _ _ h=>h) (fun _ _ _ h=>h)
  ⟨with_n,(fun g hg=>by rw [with_h,hsl] at hg;rw [with_b];exact (Option.some.inj hg).symm),by
   rw [with_h,with_f]
   refine ⟨fun r hr=>by rw [List.eq_of_mem_replicate hr];rfl,List.replicate k [z],fun _ _ _=>False,by rw [hl,flat_rep,← hc k];exact own_weaken hown (Nat.zero_le _),by simp,?_,fun g hg=>by rw [hsl] at hg;exact (Option.some.inj hg).symm,
    fun _ _ _ h=>h.elim,fun _ _ _ _ _ h=>h.elim,fun j r r' h1 h2=>?_,fun j r r' q av u h1 h2 h3 h4=>?_⟩
   ·intro r hr u hu
    rw [List.eq_of_mem_replicate hr] at hu
    obtain rfl:u=z:=by simpa using hu
    exact hz1
   ·rw [List.eq_of_mem_replicate (List.mem_of_getElem? h1),List.eq_of_mem_replicate (List.mem_of_getElem? h2)];rfl
   ·rw [List.eq_of_mem_replicate (List.mem_of_getElem? h1)] at h3
    rw [List.eq_of_mem_replicate (List.mem_of_getElem? h2)] at h4
    match q with
    | 0=>cases h3;cases h4;exact .sc _
    | q+1=>simp at h3⟩ trivial (fun x hx=>by
   obtain rfl:x=w.heap.size:=hx
   refine ⟨.inl ok.bel.size,hlt,fun k o h1 h2=>?_,fun p u h1 h2=>?_⟩
   ·have:=(ok.my k o _ h1 h2).2;omega
   ·have:=cell_block (ok.fw p u h1);omega)
 unfold Oper.wp execOp
 simp only [ho,ok.evs hx,ok.evs hy,Sem.run_bind,hrun,Result.andThen_ok,Sem.run_pure,Oper.upon]
 rw [hds]
 subst hq
 exact hN _ _ _ (ok'.set (d:=some d) (av:=.sl σ.nk) (v:=.slice (some ⟨w.heap.size,0,none⟩) k k) (with_sl rfl) (.sl _ (Nat.lt_succ_self _)) fun x hx=>by cases hx;exact of_blt hd)
end
end
section
open Go.RowKit
def remS {α:Type} (k:Nat):List (Nat×α)→Option (List (Nat×α))
 | []=>some []
 | x::r =>
  match remS k r with
  | some r'=>bif Nat.beq k x.1 then some r' else some (x::r')
  | none=>none
theorem remS_eq {α:Type} {k:Nat}:∀ {l l':List (Nat×α)},remS k l=some l'→l'=rem k l
 | [],l',h=>by cases h;rfl
 | x::r,l',h=>by
  unfold remS at h
  split at h
  ·rename_i r' h2
   have:=remS_eq h2
   subst this
   unfold rem
   cases hb:Nat.beq k x.1 with
   | true=>rw [hb]at h;cases h;rfl
   | false=>rw [hb]at h;cases h;rfl
  ·cases h
def boolB(P:Program)(T:TypeId):Bool :=
 match P.underlying T with
 | some .bool=>true
 | _=>false
theorem boolB_of {P:Program} {T:TypeId} (h:boolB P T=true):P.underlying T=some .bool:=by
 unfold boolB at h
 split at h
 ·assumption
 ·cases h
def cmpI (op:BinOp)(m n:Int):Option Value :=
 match op with
 | .lss=>some (.bool (decide (m<n)))
 | .leq=>some (.bool (decide (m≤n)))
 | .gtr=>some (.bool (decide (n<m)))
 | .geq=>some (.bool (decide (n≤m)))
 | .eql=>some (.bool (decide (m=n)))
 | .neq=>some (.bool (!decide (m=n)))
 | _=>none
def cmpB (op:BinOp)(b c:Bool):Option Value :=
 match op with
 | .eql=>some (.bool (b == c))
 | .neq=>some (.bool (!(b == c)))
 | _=>none
def cmpS (op:BinOp)(s t:List UInt8):Option Value :=
 match op with
 | .eql=>some (.bool (s == t))
 | .neq=>some (.bool (!(s == t)))
 | _=>none
def cmpV(P:Program) (op:BinOp) (T:TypeId):Value→Value→Option Value
 | .string ⟨⟨s⟩⟩,.string ⟨⟨t⟩⟩=>cmpS op s t
 | .int j m,.int k n =>
  match decEq j k with
  | isTrue _=>cmpI op m n
  | isFalse _=>none
 | .bool b,.bool c=>bif boolB P T then cmpB op b c else none
 | _,_=>none
def pickV:AV→AV→AV→Option AV
 | .sc (.bool b),.sc u,.sc v=>some (.sc (bif b then u else v))
 | .sc (.bool true),x,_=>some x
 | .sc (.bool false),_,y=>some y
 | _,_,_=>none
def takeE:Nat→List AV→Option (List AV)
 | 0,_=>some []
 | n+1,x::r =>
  match takeE n r with
  | some l=>some (x::l)
  | none=>none
 | _+1,[]=>none
theorem takeE_of:∀ {n:Nat} {l l':List AV},takeE n l=some l'→l.take n=l'∧l'.length=n
 | 0,l,l',h=>by cases h;simp
 | n+1,[],l',h=>by cases h
 | n+1,x::r,l',h=>by
  unfold takeE at h
  split at h
  ·rename_i l2 h2
   cases h
   obtain⟨a,b⟩:=takeE_of h2
   simp [a,b]
  ·cases h
def takeV (P:Program)(T:TypeId)(l:List AV):Option AV :=
 match aggB P T with
 | some false =>
  match l with
  | av::_=>some av
  | []=>none
 | some true =>
  match sizeB P T with
  | some n =>
   match takeE n l with
   | some l'=>some (.ag l')
   | none=>none
  | none=>none
 | none=>none
def ownB:AV→Bool
 | .ow _ _ _=>true
 | .ag l=>l.any AV.own
 | _=>false
def takeO(P:Program)(T:TypeId)(l:List AV):Option AV :=
 match takeV P T l with
 | some av =>
  match ownB av with
  | false=>some av
  | true=>none
 | none=>none
theorem takeO_of {P:Program} {T:TypeId} {l:List AV} {av:AV} (h:takeO P T l=some av):takeV P T l=some av∧ownB av=false:=by
 unfold takeO at h
 split at h
 ·rename_i h1
  split at h
  ·rename_i h2;cases h;exact⟨h1,h2⟩
  ·cases h
 ·cases h
theorem ownB_own {av:AV} (h:ownB av=false):av.own=false:=by cases av<;>first|rfl|cases h
theorem ownB_all {l:List AV} (h:ownB (.ag l)=false):(l.all fun av=>!av.own)=true:=by
 rw [List.all_eq_true]
 intro x hx
 have h:l.any AV.own=false:=h
 rw [List.any_eq_false]at h
 simpa using h x hx
def loadV(P:Program)(σ:St)(T:TypeId):AV→Option AV
 | .pt k i j =>
  match look k σ.M with
  | some ob =>
   match ob.from_ i j with
   | some l=>takeO P T l
   | none=>none
  | none=>none
 | .pr cells=>takeV P T cells
 | _=>none
def nthL {α:Type}:List α→Nat→Option α
 | [],_=>none
 | x::_,0=>some x
 | _::r,n+1=>nthL r n
theorem nthL_eq {α:Type}:∀ (l:List α)(n:Nat),nthL l n=l[n]?
 | [],n=>by simp [nthL]
 | x::r,0=>by simp [nthL]
 | x::r,n+1=>by simp [nthL,nthL_eq r n]
def dropE {α:Type}:Nat→List α→List α
 | 0,l=>l
 | _+1,[]=>[]
 | n+1,_::r=>dropE n r
theorem dropE_eq {α:Type}:∀ (n:Nat)(l:List α),dropE n l=l.drop n
 | 0,l=>by simp [dropE]
 | n+1,[]=>by simp [dropE]
 | n+1,x::r=>by simp [dropE,dropE_eq n r]
def fldE (P:Program)(T i:Nat):Option Nat :=
 match P.underlying T with
 | some (.struct fs) =>
  match nthL fs.toList i with
  | some f=>bif Nat.beq (P.cellsOf f.type) 0 then none else some f.offset
  | none=>none
 | _=>none
theorem fldE_of {P:Program} {T i off:Nat} (h:fldE P T i=some off):fldB P T i=some off:=by
 unfold fldE at h
 unfold fldB
 split at h
 ·rename_i fs hu
  rw [nthL_eq] at h
  rw [show fs.toList[i]?=fs[i]? by simp] at h
  split at h
  ·rename_i f hf
   try rw [hu]
   try simp only [hf]
   cases hb:Nat.beq (P.cellsOf f.type) 0 with
   | true=>rw [hb] at h;cases h
   | false =>
    rw [hb] at h
    rw [if_neg (fun e=>by rw [e] at hb;cases hb)]
    exact h
  ·cases h
 ·cases h
def fldV (P:Program)(T i:Nat):AV→Option AV
 | .pt k r j =>
  match fldE P T i with
  | some off=>some (.pt k r (j+off))
  | none=>none
 | .pr cells =>
  match fldE P T i with
  | some off=>some (.pr (dropE off cells))
  | none=>none
 | _=>none
def stepV (P:Program) (σ:St):Op→Option AV
 | .move x=>σ.ev x
 | .assign x=>σ.ev x
 | .pick c x y =>
  match σ.ev c,σ.ev x,σ.ev y with
  | some ac,some ax,some ay=>pickV ac ax ay
  | _,_,_=>none
 | .binOp op T x y _ =>
  match σ.ev x,σ.ev y with
  | some (.sc u),some (.sc v) =>
   match cmpV P op T u v with
   | some r=>some (.sc r)
   | none=>none
  | _,_=>none
 | .unOp .not _ x =>
  match σ.ev x with
  | some (.sc (.bool b))=>some (.sc (.bool (!b)))
  | _=>none
 | .extract x i =>
  match σ.ev x with
  | some (.tu l)=>l[i]?
  | _=>none
 | .fieldAddr T x i =>
  match σ.ev x with
  | some av=>fldV P T i av
  | none=>none
 | .load T x =>
  match σ.ev x with
  | some av=>loadV P σ T av
  | none=>none
 | .build T parts =>
  match (P.info? T).bind (·.zero),placesB P T,σ.evs (parts.toList.map (·.2))with
  | some z,some places,some avs =>
   match fillA places (z.cells.toList.map .sc) (pairUp parts.toList avs)with
   | some l=>some (.ag l)
   | none=>none
  | _,_,_=>none
 | _=>none
section
variable {P:Program} {C:Cx} {σ σ':St} {o:Oper} {d:Tmp} {av:AV}
theorem cmpV_of {op:BinOp} {T Ty:TypeId} {x y:Operand} {u v r:Value} (ho:o.op=.binOp op T x y Ty) (hx:σ.ev x=some (.sc u)) (hy:σ.ev y=some (.sc v)) (h:cmpV P op T u v=some r):WV P C o σ (.sc r):=by
 unfold cmpV at h
 split at h
 ·rename_i s t
  unfold cmpS at h
  split at h<;>first|cases h|skip
  ·exact WV.seq_ (s:=s) (t:=t) ho hx hy
  ·exact WV.sne (s:=s) (t:=t) ho hx hy
 ·split at h
  ·rename_i e _
   subst e
   unfold cmpI at h
   split at h<;>first|cases h|skip
   ·exact WV.lss ho hx hy
   ·exact WV.leq ho hx hy
   ·exact WV.gtr ho hx hy
   ·exact WV.geq ho hx hy
   ·exact WV.eql ho hx hy
   ·exact WV.neq ho hx hy
  ·cases h
 ·rename_i b c
  cases hb:boolB P T with
  | false=>rw [hb] at h;cases h
  | true =>
   rw [hb] at h
   simp only [cond_true] at h
   unfold cmpB at h
   split at h<;>first|cases h|skip
   ·exact WV.beq ho (boolB_of hb) hx hy
   ·exact WV.bne ho (boolB_of hb) hx hy
 ·cases h
theorem pickV_of {c x y:Operand} {ac ax ay:AV} (ho:o.op=.pick c x y) (hc:σ.ev c=some ac) (hx:σ.ev x=some ax) (hy:σ.ev y=some ay) (h:pickV ac ax ay=some av):WV P C o σ av:=by
 unfold pickV at h
 split at h
 ·rename_i b u v
  cases h
  have:=WV.pickS (P:=P) (C:=C) ho hc hx hy
  cases b<;>exact this
 ·cases h;exact WV.pickT ho hc hx
 ·cases h;exact WV.pickF ho hc hy
 ·cases h
theorem loadV_of {T:TypeId} {x:Operand} {a:AV} (ho:o.op=.load T x)(hx:σ.ev x=some a)(h:loadV P σ T a=some av):WV P C o σ av:=by
 unfold loadV at h
 split at h
 ·rename_i k i j
  split at h
  ·rename_i ob hk
   split at h
   ·rename_i l hf
    obtain⟨h,hob⟩:=takeO_of h
    unfold takeV at h
    split at h
    ·rename_i hT
     split at h
     ·rename_i a r
      cases h
      exact WV.load1 ho hT hx hk hf rfl (ownB_own hob)
     ·cases h
    ·rename_i hT
     split at h
     ·rename_i n hn
      split at h
      ·rename_i l' hl
       cases h
       obtain⟨e1,e2⟩:=takeE_of hl
       exact WV.loadN ho hT hn hx hk hf e1 e2 (ownB_all hob)
      ·cases h
     ·cases h
    ·cases h
   ·cases h
  ·cases h
 ·rename_i cells
  unfold takeV at h
  split at h
  ·rename_i hT
   split at h
   ·rename_i a r
    cases h
    exact WV.load1R ho hT hx rfl
   ·cases h
  ·rename_i hT
   split at h
   ·rename_i n hn
    split at h
    ·rename_i l' hl
     cases h
     obtain⟨e1,e2⟩:=takeE_of hl
     exact WV.loadNR ho hT hn hx e1 e2
    ·cases h
   ·cases h
  ·cases h
 ·cases h
theorem fldV_of {T:TypeId} {i:Nat} {x:Operand} {a:AV} (ho:o.op=.fieldAddr T x i)(hx:σ.ev x=some a)(h:fldV P T i a=some av):WV P C o σ av:=by
 unfold fldV at h
 split at h
 ·split at h
  ·rename_i off hf;cases h;exact WV.fieldP ho (fldE_of hf) hx
  ·cases h
 ·split at h
  ·rename_i off hf;cases h;rw [dropE_eq];exact WV.fieldR ho (fldE_of hf) hx
  ·cases h
 ·cases h
theorem stepV_of {op:Op} (ho:o.op=op)(h:stepV P σ op=some av):WV P C o σ av:=by
 unfold stepV at h
 split at h
 ·exact WV.move ho h
 ·exact WV.assign ho h
 ·split at h
  ·rename_i h1 h2 h3;exact pickV_of ho h1 h2 h3 h
  ·cases h
 ·split at h
  ·rename_i h1 h2
   split at h
   ·rename_i r hr;cases h;exact cmpV_of ho h1 h2 hr
   ·cases h
  ·cases h
 ·split at h
  ·rename_i b h1;cases h;exact WV.not ho h1
  ·cases h
 ·split at h
  ·rename_i l h1;exact WV.extract ho h1 h
  ·cases h
 ·split at h
  ·rename_i a h1;exact fldV_of ho h1 h
  ·cases h
 ·split at h
  ·rename_i a h1;exact loadV_of ho h1 h
  ·cases h
 ·split at h
  ·rename_i h1 h2 h3
   split at h
   ·rename_i l hl;cases h;exact WV.build ho h1 h2 h3 hl
   ·cases h
  ·cases h
 ·cases h
end
def storeE (P:Program)(M:List (Nat×AO))(T:TypeId):AV→AV→Option (Nat×AO)
 | .pt k i j,av =>
  match sizeB P T,look k M with
  | some m,some ob =>
   bif av.cellB && Nat.beq av.cells.length m && av.cells.all AV.oneB then
    match ob.put i j av.cells with
    | some ob'=>some (k,ob')
    | none=>none
   else none
  | _,_=>none
 | _,_=>none
def buildE (P:Program)(σ:St)(T:TypeId)(m:Nat)(parts:List (Nat×Operand)):Option AO :=
 match P.underlying T with
 | some (.slice e) =>
  match sizeB P e,(P.info? e).bind (·.zero),σ.evs (parts.map (·.2)) with
  | some n,some _,some avs =>
   bif numB 0 parts && Nat.beq parts.length m && Nat.ble (m*n) 16777216 && Nat.ble m 16777216 && rowsB n avs then some (.row e n (avs.map AV.cells)) else none
  | _,_,_=>none
 | _=>none
theorem wo_rem {P:Program} {C:Cx} {σ:St} {o:Oper} {t:List (Nat×AV)} {M:List (Nat×AO)} {nk k:Nat} {ob:AO} (h:WO P C o σ ⟨t,(k,ob)::M,nk⟩):WO P C o σ ⟨t,(k,ob)::rem k M,nk⟩:=fun G a w ok N Q' hN =>
 h G a w ok N Q' fun G' a' w' ok'=>hN G' a' w' (by
  have hl:∀ i,look i ((k,ob)::rem k M)=look i ((k,ob)::M):=fun i=>by
   by_cases e:i=k
   ·subst e;rw [look_set_same,look_set_same]
   ·rw [look_set_other e,look_set_other e,look_rem,if_neg e]
  exact ⟨ok'.sz,ok'.df,ok'.tm,ok'.bel,ok'.fw,ok'.f0,ok'.f1,fun i x hx=>ok'.ob i x (by rw [← hl];exact hx),fun i x y hx=>ok'.my i x y (by rw [← hl];exact hx),fun i x i' x' y hx hx'=>ok'.dj i x i' x' y (by rw [← hl];exact hx) (by rw [← hl];exact hx'),fun i x y p u hx=>ok'.dF i x y p u (by rw [← hl];exact hx)⟩)
def opE (P:Program) (N:Nat) (t:List (Nat×AV)) (M:List (Nat×AO)) (nk:Nat) (o:Oper):Option (List (Nat×AV)×List (Nat×AO)×Nat) :=
 match o.guard with
 | some _=>none
 | none =>
  match o.dst with
  | none =>
   match o.op with
   | .store T x y =>
    match (⟨t,M,nk⟩:St).ev x,(⟨t,M,nk⟩:St).ev y with
    | some ax,some ay =>
     match storeE P M T ax ay with
     | some (k,ob) =>
      match remS k M with
      | some M'=>some (t,(k,ob)::M',nk)
      | none=>none
     | none=>none
    | _,_=>none
   | _=>none
  | some d =>
   bif Nat.blt d N then
    match o.op with
    | .box T x =>
     match (⟨t,M,nk⟩:St).ev x with
     | some av=>bif av.cellB then some ((d,.pt nk 0 0)::t,(nk,.box T av.cells)::M,nk+1) else none
     | none=>none
    | .alloc T =>
     match (P.info? T).bind (·.zero) with
     | some z=>some ((d,.pt nk 0 0)::t,(nk,.box T (z.cells.toList.map .sc))::M,nk+1)
     | none=>none
    | .buildSlice T m parts =>
     match buildE P ⟨t,M,nk⟩ T m parts.toList with
     | some ob=>some ((d,.sl nk)::t,(nk,ob)::M,nk+1)
     | none=>none
    | op =>
     match stepV P ⟨t,M,nk⟩ op with
     | some av=>some ((d,av)::t,M,nk)
     | none=>none
   else none
theorem opE_of {P:Program} {C:Cx} {t t':List (Nat×AV)} {M M':List (Nat×AO)} {nk nk':Nat} {o:Oper} (h:opE P C.N t M nk o=some (t',M',nk')):o.guard=none∧WO P C o ⟨t,M,nk⟩ ⟨t',M',nk'⟩:=by
 unfold opE at h
 split at h
 ·cases h
 ·rename_i hg
  refine ⟨hg,?_⟩
  split at h
  ·rename_i hds
   split at h
   ·rename_i T x y ho
    split at h
    ·rename_i ax ay hx hy
     split at h
     ·rename_i k ob hst
      split at h
      case h_2=>cases h
      rename_i M1 hM1
      cases h
      rw [remS_eq hM1]
      unfold storeE at hst
      split at hst
      ·rename_i k i j
       split at hst
       ·rename_i m ob0 hm hk
        cases hb:ay.cellB && Nat.beq ay.cells.length m && ay.cells.all AV.oneB with
        | false=>rw [hb] at hst;cases hst
        | true =>
         rw [hb] at hst
         simp only [cond_true] at hst
         simp only [Bool.and_eq_true] at hb
         split at hst
         ·rename_i ob' hp
          cases hst
          exact wo_rem (WO.store (σ:=⟨t,M,nk⟩) ho hds hm hx hk hy hb.1.1 rfl (Nat.eq_of_beq_eq_true hb.1.2) hb.2 hp)
         ·cases hst
       ·cases hst
      ·cases hst
     ·cases h
    ·cases h
   ·cases h
  ·rename_i d hds
   cases hd:Nat.blt d C.N with
   | false=>rw [hd] at h;cases h
   | true =>
    rw [hd] at h
    simp only [cond_true] at h
    split at h
    ·rename_i T x ho
     split at h
     ·rename_i av hx
      cases hB:av.cellB with
      | false=>rw [hB] at h;cases h
      | true =>
       rw [hB] at h
       cases h
       exact WO.box (σ:=⟨t,M,nk⟩) ho hds hd hx hB rfl rfl
     ·cases h
    ·rename_i T ho
     split at h
     ·rename_i z hz
      cases h
      exact WO.alloc (σ:=⟨t,M,nk⟩) ho hz hds hd rfl rfl
     ·cases h
    ·rename_i T m parts ho
     split at h
     ·rename_i ob hob
      cases h
      unfold buildE at hob
      split at hob
      ·rename_i e hT
       split at hob
       ·rename_i n z avs hn hz hx
        cases hb:numB 0 parts.toList && Nat.beq parts.toList.length m && Nat.ble (m*n) 16777216 && Nat.ble m 16777216 && rowsB n avs with
        | false=>rw [hb] at hob;cases hob
        | true =>
         rw [hb] at hob
         simp only [Bool.and_eq_true] at hb
         cases hob
         exact WO.build (σ:=⟨t,M,nk⟩) ho hT hn hz hb.1.1.1.1 (Nat.eq_of_beq_eq_true hb.1.1.1.2) hb.1.1.2 hb.1.2 hds hd hx hb.2 rfl rfl
       ·cases hob
      ·cases hob
     ·cases h
    ·split at h
     ·rename_i av hv
      cases h
      exact WO.of_wv (σ:=⟨t,M,nk⟩) hds hd (stepV_of rfl hv)
     ·cases h
def goL (P:Program) (C:Cx) (ops:Array Oper) (Q:Exit→St→Prop):List Oper→List (Nat×AV)→List (Nat×AO)→Nat→Prop
 | [],t,M,nk=>Q .normal ⟨t,M,nk⟩
 | o::r,t,M,nk =>
  match opE P C.N t M nk o with
  | some (t',M',nk')=>goL P C ops Q r t' M' nk'
  | none=>WL P C ops (o::r) ⟨t,M,nk⟩ Q
theorem goL_of {P:Program} {C:Cx} {ops:Array Oper} {Q:Exit→St→Prop}:∀ {l:List Oper} {t:List (Nat×AV)} {M:List (Nat×AO)} {nk:Nat},goL P C ops Q l t M nk→WL P C ops l ⟨t,M,nk⟩ Q
 | [],t,M,nk,h=>WL.nil h
 | o::r,t,M,nk,h=>by
  unfold goL at h
  split at h
  ·rename_i t' M' nk' hs
   obtain ⟨h1,h2⟩:=opE_of hs
   exact WL.op h1 h2 (goL_of h)
  ·exact h
def goC (P:Program)(C:Cx):Code→St→(Exit→St→Prop)→Prop
 | .skip,σ,Q=>Q .normal σ
 | .exit id,σ,Q=>Q (.exit id) σ
 | .seq x y,σ,Q=>goC P C x σ (QThen (fun s=>W P C y s Q) Q)
 | .block id c,σ,Q=>goC P C c σ (QBlock id Q)
 | .region id ops false,⟨t,M,nk⟩,Q=>goL P C ops Q ops.toList t M nk
 | c,σ,Q=>W P C c σ Q
theorem goC_of {P:Program} {C:Cx}:∀ {c:Code} {σ:St} {Q:Exit→St→Prop},goC P C c σ Q→W P C c σ Q
 | .skip,σ,Q,h=>W.skip h
 | .exit id,σ,Q,h=>W.exit h
 | .ret,σ,Q,h=>h
 | .seq x y,σ,Q,h=>W.seq (goC_of (c:=x) h)
 | .block id c,σ,Q,h=>W.block (goC_of (c:=c) h)
 | .region id ops false,⟨t,M,nk⟩,Q,h=>fun G a w ok=>wp_region_list (goL_of (P:=P) (C:=C) (show goL P C ops Q ops.toList t M nk from h) G a w ok)
 | .region id ops true,σ,Q,h=>h
 | .cond c x y,σ,Q,h=>h
 | .loop c,σ,Q,h=>h
 | .rangeFunc f p a b,σ,Q,h=>h
 | .scope b,σ,Q,h=>h
 | .label l,σ,Q,h=>h
 | .goto l,σ,Q,h=>h
 | .refuse w,σ,Q,h=>h
def goB:Code→Bool
 | .skip=>true
 | .exit _=>true
 | .seq _ _=>true
 | .block _ _=>true
 | .region _ _ false=>true
 | _=>false
theorem W.go {P:Program} {C:Cx} {c:Code} {σ:St} {Q:Exit→St→Prop} (hc:goB c=true)(h:goC P C c σ Q):W P C c σ Q:=goC_of h
def goD (P:Program) (C:Cx):Code→St→(Exit→St→Prop)→Prop
 | .skip,σ,Q=>Q .normal σ
 | .exit id,σ,Q=>Q (.exit id) σ
 | .seq x y,σ,Q=>goD P C x σ (QThen (fun s=>W P C y s Q) Q)
 | .block id c,σ,Q=>goD P C c σ (QBlock id Q)
 | .region id ops false,⟨t,M,nk⟩,Q=>WL P C ops ops.toList ⟨t,M,nk⟩ Q
 | c,σ,Q=>W P C c σ Q
theorem goD_of {P:Program} {C:Cx}:∀ {c:Code} {σ:St} {Q:Exit→St→Prop},goD P C c σ Q→W P C c σ Q
 | .skip,σ,Q,h=>W.skip h
 | .exit id,σ,Q,h=>W.exit h
 | .ret,σ,Q,h=>h
 | .seq x y,σ,Q,h=>W.seq (goD_of (c:=x) h)
 | .block id c,σ,Q,h=>W.block (goD_of (c:=c) h)
 | .region id ops false,⟨t,M,nk⟩,Q,h=>fun G a w ok=>wp_region_list ((show WL P C ops ops.toList ⟨t,M,nk⟩ Q from h) G a w ok)
 | .region id ops true,σ,Q,h=>h
 | .cond c x y,σ,Q,h=>h
 | .loop c,σ,Q,h=>h
 | .rangeFunc f p a b,σ,Q,h=>h
 | .scope b,σ,Q,h=>h
 | .label l,σ,Q,h=>h
 | .goto l,σ,Q,h=>h
 | .refuse w,σ,Q,h=>h
theorem W.gob {P:Program} {C:Cx} {c:Code} {σ:St} {Q:Exit→St→Prop} (hc:goB c=true)(h:goD P C c σ Q):W P C c σ Q:=goD_of h
theorem WL.gyes {P:Program} {C:Cx} {ops:Array Oper} {o oj:Oper} {rest:List Oper} {σ:St} {Q:Exit→St→Prop} {j:Nat} {b:Bool} {d:Tmp} (hg:o.guard=some (j,b))(hj:ops[j]?=some oj)(hd:oj.dst=some d)(hv:look d σ.t=some (.sc (.bool b)))
  (k:WL P C ops ({ o with guard:=none }::rest) σ Q):WL P C ops (o::rest) σ Q:=fun G a w ok=>by
 have h:=k G a w ok
 have hy:=yielded_of (ops:=ops) ok hj hd hv
 unfold wpList at h ⊢
 rw [if_pos (by simp [Region.wanted])] at h
 rw [if_pos (by simp [Region.wanted,hg,hy,vb])]
 exact h
def sideI (op:BinOp)(m n:Int):Option (Prop×Int) :=
 match op with
 | .add=>some (I64 (m+n),m+n)
 | .sub=>some (I64 (m-n),m-n)
 | .mul=>some (I64 (m*n),m*n)
 | _=>none
def sideV (σ:St):Op→Option (Prop×Int)
 | .binOp op _ x y _ =>
  match σ.ev x,σ.ev y with
  | some (.sc (.int .i64 m)),some (.sc (.int .i64 n))=>sideI op m n
  | _,_=>none
 | _=>none
def catV (σ:St):Op→Option (List UInt8×List UInt8)
 | .binOp .add _ x y _ =>
  match σ.ev x,σ.ev y with
  | some (.sc (.string ⟨⟨s⟩⟩)),some (.sc (.string ⟨⟨t⟩⟩))=>some (s,t)
  | _,_=>none
 | _=>none
def lenA (P:Program) (σ:St) (T:TypeId):AV→Option Nat
 | .sc (.string ⟨⟨s⟩⟩) =>
  match P.underlying T with
  | some .string=>some s.length
  | _=>none
 | .ls _ rows =>
  match P.underlying T with
  | some (.slice _)=>some rows.length
  | _=>none
 | .sl k =>
  match P.underlying T,look k σ.M with
  | some (.slice _),some ob =>
   match ob.rows? with
   | some rows=>some rows.length
   | none=>none
  | _,_=>none
 | .sc (.slice _ m _) =>
  match P.underlying T with
  | some (.slice _)=>some m
  | _=>none
 | _=>none
def lenV(P:Program)(σ:St):Op→Option Nat
 | .call { callee:=.builtin .len,args:=⟨[x]⟩,argTypes:=⟨[T]⟩ } =>
  match σ.ev x with
  | some av=>lenA P σ T av
  | none=>none
 | _=>none
def idxV (P:Program)(σ:St):Op→Option (List (List AV)×Int)
 | .indexAddr T x y =>
  match P.underlying T,σ.ev x,σ.ev y with
  | some (.slice e),some (.ls n rows),some (.sc (.int _ z)) =>
   match sizeB P e with
   | some m=>bif Nat.beq m n then some (rows,z)else none
   | none=>none
  | _,_,_=>none
 | _=>none
def ixsV (P:Program)(σ:St):Op→Option (Nat×List (List AV)×Int)
 | .indexAddr T x y =>
  match P.underlying T,σ.ev x,σ.ev y with
  | some (.slice e),some (.sl k),some (.sc (.int _ z)) =>
   match sizeB P e,look k σ.M with
   | some m,some ob =>
    match ob.rows?,ob.n? with
    | some rows,some n=>bif Nat.beq m n then some (k,rows,z)else none
    | _,_=>none
   | _,_=>none
  | _,_,_=>none
 | _=>none
structure AppD where
 T:TypeId
 n:Nat
 k:Nat
 a:List (List AV)
 b:List (List AV)
def appV (P:Program) (σ:St):Op→Option AppD
 | .call { callee:=.builtin .append,args:=⟨[x,y]⟩,argTypes:=⟨[T,T']⟩ } =>
  match P.underlying T,σ.ev x,σ.ev y with
  | some (.slice e),some (.sl k),some av2 =>
   match P.info? e,look k σ.M with
   | some i,some (.row e' n rows) =>
    match i.zero,σ.src n av2 with
    | some z,some rows2=>bif Nat.beq T T' && Nat.beq e e' && Nat.beq i.size n && Nat.beq z.cells.size n && Nat.blt 0 n && Nat.ble i.bytes 100000 then some ⟨e,n,k,rows,rows2⟩else none
    | _,_=>none
   | _,_=>none
  | _,_,_=>none
 | _=>none
def dstB(N:Nat)(o:Oper):Option Tmp :=
 match o.guard,o.dst with
 | none,some d=>bif Nat.blt d N then some d else none
 | _,_=>none
section
variable {P:Program} {C:Cx} {ops:Array Oper} {o:Oper} {rest:List Oper} {σ:St} {Q:Exit→St→Prop} {d:Tmp}
theorem dstB_of(h:dstB C.N o=some d):o.guard=none∧o.dst=some d∧Nat.blt d C.N=true:=by
 unfold dstB at h
 split at h
 ·rename_i x h1 h2
  cases hb:Nat.blt x C.N with
  | false=>rw [hb]at h;cases h
  | true=>rw [hb]at h;cases h;exact⟨h1,h2,hb⟩
 ·cases h
theorem WL.vl {av:AV} (hd:dstB C.N o=some d)(h:WV P C o σ av)(k:WL P C ops rest (σ.put d av) Q):WL P C ops (o::rest) σ Q :=
 WL.opv (dstB_of hd).1 (dstB_of hd).2.1 (dstB_of hd).2.2 h k
theorem catV_of {s t:List UInt8} (h:catV σ o.op=some (s,t)) (hl:s.length+t.length<9223372036854775808):WV P C o σ (.sc (.string (bs (s++t)))):=by
 unfold catV at h
 split at h
 ·rename_i T x y Ty ho
  split at h
  ·rename_i s t h1 h2
   cases h
   exact WV.cat (s:=s) (t:=t) ho h1 h2 hl
  ·cases h
 ·cases h
theorem WL.cat {s t:List UInt8} (hd:dstB C.N o=some d)(h:catV σ o.op=some (s,t))(hl:s.length+t.length<9223372036854775808)(k:WL P C ops rest (σ.put d (.sc (.string (bs (s++t))))) Q):WL P C ops (o::rest) σ Q:=WL.vl hd (catV_of h hl) k
theorem lenV_of {m:Nat} (h:lenV P σ o.op=some m):WV P C o σ (.sc (.int .i64 m)):=by
 unfold lenV at h
 split at h
 ·rename_i x T ho
  split at h
  ·rename_i av hx
   unfold lenA at h
   split at h
   ·split at h
    ·rename_i s _ hT;cases h;exact WV.lenB (s:=s) ho hT hx
    ·cases h
   ·split at h
    ·rename_i hT;cases h;exact WV.lenL ho hT hx rfl
    ·cases h
   ·split at h
    ·rename_i ob hT hk
     split at h
     ·rename_i rows hr;cases h;exact WV.lenS ho hT hx hk hr rfl
     ·cases h
    ·cases h
   ·split at h
    ·rename_i hT;cases h;exact WV.lenN ho hT hx
    ·cases h
   ·cases h
  ·cases h
 ·cases h
theorem WL.len {m m':Nat} (hd:dstB C.N o=some d)(h:lenV P σ o.op=some m)(hm:m=m')(k:WL P C ops rest (σ.put d (.sc (.int .i64 m'))) Q):WL P C ops (o::rest) σ Q:=by
 subst hm
 exact WL.vl hd (lenV_of h) k
theorem zql {m n:Nat} (h:m = n:=by first|exact List.length_map _|exact List.length_replicate|rfl):m = n:=h
theorem idxV_of {rows:List (List AV)} {z:Int} {r:List AV} (h:idxV P σ o.op=some (rows,z))(h0:0≤z)(hr:rows[z.toNat]?=some r):WV P C o σ (.pr r):=by
 unfold idxV at h
 split at h
 ·rename_i T x y ho
  split at h
  ·rename_i e n rows' q z' hT hx hy
   split at h
   ·rename_i m hn
    cases hb:Nat.beq m n with
    | false=>rw [hb]at h;cases h
    | true =>
     rw [hb]at h
     cases h
     obtain rfl:=Nat.eq_of_beq_eq_true hb
     exact WV.indexL ho hT hn hx hy h0 hr
   ·cases h
  ·cases h
 ·cases h
theorem WL.idx {rows:List (List AV)} {z:Int} {r:List AV} (hd:dstB C.N o=some d)(h:idxV P σ o.op=some (rows,z))(h0:0≤z)(hr:rows[z.toNat]?=some r)(k:WL P C ops rest (σ.put d (.pr r)) Q):WL P C ops (o::rest) σ Q :=
 WL.vl hd (idxV_of h h0 hr) k
theorem ixsV_of {q:Nat} {rows:List (List AV)} {z:Int} (h:ixsV P σ o.op=some (q,rows,z))(h0:0≤z)(h1:z<rows.length):WV P C o σ (.pt q z.toNat 0):=by
 unfold ixsV at h
 split at h
 ·rename_i T x y ho
  split at h
  ·rename_i e k q' z' hT hx hy
   split at h
   ·rename_i m ob hn hk
    split at h
    ·rename_i rows' n hr hn2
     cases hb:Nat.beq m n with
     | false=>rw [hb]at h;cases h
     | true =>
      rw [hb]at h
      cases h
      obtain rfl:=Nat.eq_of_beq_eq_true hb
      exact WV.indexS ho hT hn hx hy hk hr hn2 h0 h1
    ·cases h
   ·cases h
  ·cases h
 ·cases h
theorem WL.ixs {q:Nat} {rows:List (List AV)} {z:Int} (hd:dstB C.N o=some d)(h:ixsV P σ o.op=some (q,rows,z))(h0:0≤z∧z<rows.length)(k:WL P C ops rest (σ.put d (.pt q z.toNat 0)) Q):WL P C ops (o::rest) σ Q :=
 WL.vl hd (ixsV_of h h0.1 h0.2) k
theorem appV_of {x:AppD} (hd:dstB C.N o=some d)(h:appV P σ o.op=some x)(hl:x.a.length+x.b.length≤1000000000):WO P C o σ (((σ.drop x.k).new (.row x.T x.n (x.a++x.b))).put d (.sl σ.nk)):=by
 obtain⟨_,hds,hdb⟩:=dstB_of hd
 unfold appV at h
 split at h
 ·rename_i x y T T' ho
  split at h
  ·rename_i e k av2 hT hx hy
   split at h
   ·rename_i i e' n rows hi hk
    split at h
    ·rename_i z rows2 hz hs
     cases hb:Nat.beq T T' && Nat.beq e e' && Nat.beq i.size n && Nat.beq z.cells.size n && Nat.blt 0 n && Nat.ble i.bytes 100000 with
     | false=>rw [hb] at h;cases h
     | true =>
      rw [hb] at h
      simp only [Bool.and_eq_true] at hb
      cases h
      obtain⟨⟨⟨⟨⟨b1,b2⟩,b3⟩,b4⟩,b5⟩,b6⟩:=hb
      obtain rfl:=Nat.eq_of_beq_eq_true b1
      obtain rfl:=Nat.eq_of_beq_eq_true b2
      exact WO.append ho hT hi hz (Nat.eq_of_beq_eq_true b3) rfl (Nat.eq_of_beq_eq_true b4) b5 hds hdb hx hk hy hs rfl hl b6 rfl
    ·cases h
   ·cases h
  ·cases h
 ·cases h
theorem WL.app {x:AppD} {t:List (Nat×AV)} {M M':List (Nat×AO)} {nk:Nat} (hd:dstB C.N o=some d) (h:appV P ⟨t,M,nk⟩ o.op=some x) (hM:remS x.k M=some M') (hl:x.a.length+x.b.length≤1000000000) (k:WL P C ops rest ⟨(d,.sl nk)::t,(nk,.row x.T x.n (x.a++x.b))::M',nk+1⟩ Q):WL P C ops (o::rest) ⟨t,M,nk⟩ Q:=by
 rw [remS_eq hM] at k
 exact WL.op (dstB_of hd).1 (appV_of hd h hl) k
theorem WL.ev {t:List (Nat×AV)} {M:List (Nat×AO)} {nk:Nat} (h:(opE P C.N t M nk o).isSome=true) (k:goL P C ops Q (o::rest) t M nk):WL P C ops (o::rest) ⟨t,M,nk⟩ Q:=goL_of k
def stepD (P:Program)(N:Nat)(ops:Array Oper)(σ:St)(o:Oper):Option (Tmp×AV) :=
 match o.dst with
 | some d =>
  bif Nat.blt d N then
   match guardK ops o (σ.only (o.looksAt ops)) with
   | some true =>
    match stepV P (σ.only (o.looksAt ops)) o.op with
    | some av=>some (d,av)
    | none=>none
   | some false=>some (d,.sc undef)
   | none=>none
  else none
 | none=>none
theorem DK.st {av:AV} (h:stepD P C.N ops σ o=some (d,av))(k:DK P C ops rest (σ.put d av) Q):DK P C ops (o::rest) σ Q:=by
 unfold stepD at h
 split at h
 ·rename_i x hds
  cases hb:Nat.blt x C.N with
  | false=>rw [hb] at h;cases h
  | true =>
   rw [hb] at h
   simp only [cond_true] at h
   split at h
   ·rename_i hg
    split at h
    ·rename_i av' hv
     cases h
     exact DK.val hds hb hg (stepV_of rfl hv) k
    ·cases h
   ·rename_i hg
    cases h
    exact DK.no hds hb hg k
   ·cases h
 ·cases h
theorem DK.tt {b:Bool} (h:stepD P C.N ops σ o=some (d,.sc (.bool b)))(hb:b=true)(k:DK P C ops rest (σ.put d (.sc (.bool true))) Q):DK P C ops (o::rest) σ Q:=by
 subst hb;exact DK.st h k
theorem DK.ff {b:Bool} (h:stepD P C.N ops σ o=some (d,.sc (.bool b)))(hb:b=false)(k:DK P C ops rest (σ.put d (.sc (.bool false))) Q):DK P C ops (o::rest) σ Q:=by
 subst hb;exact DK.st h k
def dstD (N:Nat)(ops:Array Oper)(σ:St)(o:Oper):Option Tmp :=
 match o.dst,guardK ops o (σ.only (o.looksAt ops))with
 | some d,some true=>bif Nat.blt d N then some d else none
 | _,_=>none
theorem DK.vl {av:AV} (hd:dstD C.N ops σ o=some d)(h:WV P C o (σ.only (o.looksAt ops)) av)(k:DK P C ops rest (σ.put d av) Q):DK P C ops (o::rest) σ Q:=by
 unfold dstD at hd
 split at hd
 ·rename_i x h1 h2
  cases hb:Nat.blt x C.N with
  | false=>rw [hb] at hd;cases hd
  | true=>rw [hb] at hd;cases hd;exact DK.val h1 hb h2 h k
 ·cases hd
theorem DK.len {m m':Nat} (hd:dstD C.N ops σ o=some d)(h:lenV P (σ.only (o.looksAt ops)) o.op=some m)(hm:m=m')(k:DK P C ops rest (σ.put d (.sc (.int .i64 m'))) Q):DK P C ops (o::rest) σ Q:=by
 subst hm;exact DK.vl hd (lenV_of h) k
theorem DK.cat {s t:List UInt8} (hd:dstD C.N ops σ o=some d)(h:catV (σ.only (o.looksAt ops)) o.op=some (s,t))(hl:s.length+t.length<9223372036854775808)(k:DK P C ops rest (σ.put d (.sc (.string (bs (s++t))))) Q):DK P C ops (o::rest) σ Q:=DK.vl hd (catV_of h hl) k
theorem DK.idx {rows:List (List AV)} {z:Int} {r:List AV} (hd:dstD C.N ops σ o=some d)(h:idxV P (σ.only (o.looksAt ops)) o.op=some (rows,z))(h0:0≤z)(hr:rows[z.toNat]?=some r)(k:DK P C ops rest (σ.put d (.pr r)) Q):DK P C ops (o::rest) σ Q :=
 DK.vl hd (idxV_of h h0 hr) k
theorem DK.ixs {q:Nat} {rows:List (List AV)} {z:Int} (hd:dstD C.N ops σ o=some d)(h:ixsV P (σ.only (o.looksAt ops)) o.op=some (q,rows,z))(h0:0≤z∧z<rows.length)(k:DK P C ops rest (σ.put d (.pt q z.toNat 0)) Q):DK P C ops (o::rest) σ Q :=
 DK.vl hd (ixsV_of h h0.1 h0.2) k
theorem sideV_of {φ:Prop} {z:Int} (h:sideV σ o.op=some (φ,z))(hφ:φ):WV P C o σ (.sc (.int .i64 z)):=by
 unfold sideV at h
 split at h
 ·rename_i op T x y Ty ho
  split at h
  ·rename_i m n h1 h2
   unfold sideI at h
   split at h<;>first|cases h|skip
   ·exact WV.add ho h1 h2 hφ
   ·exact WV.sub ho h1 h2 hφ
   ·exact WV.mul ho h1 h2 hφ
  ·cases h
 ·cases h
theorem WL.ar {φ:Prop} {z:Int} (hd:dstB C.N o=some d)(h:sideV σ o.op=some (φ,z))(hφ:φ)(k:WL P C ops rest (σ.put d (.sc (.int .i64 z))) Q):WL P C ops (o::rest) σ Q:=WL.vl hd (sideV_of h hφ) k
theorem DK.ar {φ:Prop} {z:Int} (hd:dstD C.N ops σ o=some d)(h:sideV (σ.only (o.looksAt ops)) o.op=some (φ,z))(hφ:φ)(k:DK P C ops rest (σ.put d (.sc (.int .i64 z))) Q):DK P C ops (o::rest) σ Q:=DK.vl hd (sideV_of h hφ) k
end
end
end Go.Proofs.YtgelfflighgajaaGreatDoor
