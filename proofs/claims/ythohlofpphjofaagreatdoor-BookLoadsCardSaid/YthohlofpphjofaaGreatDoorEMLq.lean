/- A walk that knows values as trees: makeSlice of rows of one cell. -/
import Derived.Test.YthohlofpphjofaaGreatDoorEALq
set_option linter.unusedVariables false
set_option linter.unusedSimpArgs false
namespace Go.Proofs.YthohlofpphjofaaGreatDoor
theorem Oh {p:Prop}(h:p:=by unfold maxLen;omega):p:=h
theorem CX {p:Prop}(h:p:=by simpa using hj):p:=h
theorem adV {p:Prop}(h:p:=by have:=(List.getElem?_eq_some_iff.1 hj').1;omega):p:=h
section
variable {p:Prop}
theorem abU(h:p:=by
 show bD Mc (ms 0);rw [m0];exact hsub):p:=h
theorem alF(h:p:=by
 split at x
 .split at x;.cases x;exact .sl _ (vw _)
  .cases x
 .exact g2 i av x):p:=h
theorem alD(h:p:=by rw [vF (cZ h1),vF (cZ h2)];rfl):p:=h
theorem abN(h:p:=by
 show σ.nk<=jm 0;rw [n0];exact bG hn):p:=h
theorem ak9(h:p:=by
 rcases q with ⟨_,_,_,b,_⟩|⟨_,b,_⟩;.rw [b];exact Nat.le_refl _
 .exact b):p:=h
theorem ak8(h:p:=by
 rcases q with ⟨_,_,a,b,_⟩|⟨a,_⟩;.exact ⟨a,b⟩
 .rw [hf] at a;cases a):p:=h
theorem ak6(h:p:=by
 rcases q with ⟨_,_,a,_⟩|⟨_,_,a,_⟩;.rw [a];exact ih (by omega)
 .exact a):p:=h
theorem anI(h:p:=by
 show look t (_++_)=look t (_++_);rw [dh,dh,VR t,kW λi hi hdi=>(hlook t ht i hi hdi)]):p:=h
theorem anG(h:p:=by
 have h1:(!(mem.getD j false)|| iV l.toArray mem j)=true:=List.all_eq_true.1 hch j CX;rw [hmj] at h1;exact h1):p:=h
theorem anF(h:p:=by
 have h1:(!(mem.getD i false)|| needs l.toArray i l.toArray.size j)=true:=List.all_eq_true.1 hb i (List.mem_range.2 hij);rw [Ep] at h1;exact h1):p:=h
theorem anA(h:p:=by
 have:=Gi (p:=λi=>!listed.getD i false) (q:=λi=>!(listed.setIfInBounds j true).getD i false) (λi hi=>by
    by_cases e:j=i;.subst e;rw [VY] at hi;cases hi
    .rw [hset i e] at hi;exact hi) hlt (by simp only [h3];rfl) (by simp only [VY];rfl);omega):p:=h
theorem am3(h:p:=by
 have mono:∀ q,listed.getD q false=true->(listed.setIfInBounds j true).getD q false=true:=λq hq=>by
  by_cases e:j=q;.subst e;rw [hq] at h3;cases h3
  .rw [hset q e];exact hq
 by_cases e2:j=i
 .subst e2;rw [h2] at hi;cases hi;exact mono _ (h4 e he hb)
 .refine mono _ (hcl i oi hi ?_ e he hb);rw [← hset i e2];exact zJ):p:=h
theorem alI(h:p:=by
 rcases hnk with rfl|⟨rfl,hbj⟩
 .have:=Zb (f:=jm) (j:=0) (s:=λi=>listed.getD i false) (mem:=λi=>mem.getD i false) (λi hi hf=>(wM i hi hf).2) Le (λi _ h=>by omega) l.length (Nat.le_refl _);rw [Nat.min_zero,n0] at this;exact this
 .have:=Zb (f:=jm) (j:=j) (s:=λi=>listed.getD i false) (mem:=λi=>mem.getD i false) (λi hi hf=>(wM i hi hf).2) Le (λi hi hij Ep=>vU hcl h2 h4 _ (ahU i j hij hbj Ep)) l.length (Nat.le_refl _);rw [show min l.length j=j by omega] at this;exact this):p:=h
theorem alA(h:p:=by
 have aw3:cu (Array.replicate l.toArray.size false)=0:=by
  have:∀ m,cur (λi=>mem.getD i false) (λi=>(Array.replicate l.toArray.size false).getD i false) m=0:=by
   intro m;induction m with
   | zero=>rfl| succ m ih=>unfold cur;rw [if_neg (λx=>by have:=x.2;rw [rF] at this;cases this),ih]
  exact this _
 refine key _ (Array.replicate l.toArray.size false) G a _ (by simp) (λj oj _ h=>?_) ?_ (ok.drew.uD (λt=>?_) (by show ms _=_;rw [aw3,m0]) (by show jm _=_;rw [aw3,n0]));.rw [rF] at h;cases h
 .rw [sz];exact gX List.countP_le_length (by simp)
 grind[dh,Gn,rF]):p:=h
theorem avD(h:p:=by
 have hoi:l.toArray[i]?=some l[i]:=by simp [hi]
 rw [hoi] at hdi;have hdi:l[i].dst=some t:=hdi;rcases Q8 i j with hij|hij|hij
 .rw [bQ hij];by_cases hno:∃ e,e∈oj.after/\Region.binds .any e=true/\e.on=i
  .obtain ⟨e,he,hb,rfl⟩:=hno;exact h4 e he hb
  .exact absurd ht ((Oper.apart_spec (FB i j _ _ (iT _) hij hoi h2 λe he hb h=>hno ⟨e,he,hb,h⟩)).1 t hdi)
 .subst hij;rw [h3];simp
 .rw [bW (by omega)];cases zJ:listed.getD i false with
  | false=>rfl| true =>
   by_cases hno:∃ e,e∈(l[i]).after/\Region.binds .any e=true/\e.on=j
   .obtain ⟨e,he,hb,he2⟩:=hno;have:=hcl i _ hoi zJ e he hb;rw [he2,h3] at this;cases this
   .exact absurd ht ((Oper.apart_spec (FB j i _ _ (iT _) hij h2 hoi λe he hb h=>hno ⟨e,he,hb,h⟩)).2.2 t hdi)):p:=h
theorem avA(h:p:=by
 have hall:∀ n i,i < n->i < l.length->listed.getD i false=true:=by
  intro n;induction n with
  | zero=>intro i h;omega| succ n ih =>
   intro i hi hlt;by_cases e:i < n;.exact ih i e hlt
   .have hin:i=n:=by omega
    subst hin;cases zJ:listed.getD i false with
    | true=>rfl| false =>
     have hoi:l.toArray[i]?=some l[i]:=by simp [hlt]
     have:i∈Region.ready .any l.toArray listed:=mem_ready.2 ⟨by
      have:listed.getD i true=listed.getD i false:=by simp [dU,hsz,hlt]
      rw [this];exact zJ,l[i],hoi,λe he hb=>ih e.on (FA i l[i] (iT _) hoi e he hb) (by have:=FA i l[i] (iT _) hoi e he hb;omega)⟩;rw [hr] at this;cases this
 have hcu:ms (cu listed)=ms l.length/\jm (cu listed)=jm l.length:=by
  have hs:∀ i,i < l.length->(λi=>mem.getD i false) i=true->(λi=>listed.getD i false) i=decide (i < l.length):=λi hi _=>by
   show listed.getD i false=_;rw [hall (i+1) i (by omega) hi,bQ hi]
  have h1:=Dh (f:=ms) (λi hi hf=>(wM i hi hf).1) hs l.length (Nat.le_refl _);have h2:=Dh (f:=jm) (λi hi hf=>(wM i hi hf).2) hs l.length (Nat.le_refl _);rw [Nat.min_self] at h1 h2;exact ⟨h1,h2⟩
 refine ⟨σ',G,k,ok.uD (λt=>?_) (by rw [e1];exact hcu.1.symm) (by rw [e1];exact hcu.2.symm)⟩;rw [e1];show look t (_++_)=look t (_++_);rw [dh,dh,kW (s':=λi=>listed.getD i false) λi hi _=>(hall (i+1) i (by omega) hi).symm]):p:=h
theorem avz(h:p:=by
 .-- memory is written
  have hbj:=aoF j hlt hmt;have hst:∀ i,i < l.length->mem.getD i false=true->listed.getD i false=decide (i < j):=λi hi Ep=>by
   rcases Q8 i j with hij|hij|hij
   .rw [bQ hij];exact vU hcl h2 h4 _ (ahU i j hij hbj Ep)
   .subst hij;rw [h3];simp
   .rw [bW (by omega)];cases zJ:listed.getD i false with
    | false=>rfl| true =>
     have:=sW hcl _ _ (ahU j i hij (aoF i hi Ep) hmt) zJ;rw [h3] at this;cases this
  have hM:ms (cu listed)=ms j/\jm (cu listed)=jm j:=by
   have h1:=Dh (f:=ms) (λi hi hf=>(wM i hi hf).1) hst l.length (Nat.le_refl _);have h2:=Dh (f:=jm) (λi hi hf=>(wM i hi hf).2) hst l.length (Nat.le_refl _);rw [show min l.length j=j by omega] at h1 h2;exact ⟨h1,h2⟩
  have hst':∀ i,i < l.length->mem.getD i false=true->(listed.setIfInBounds j true).getD i false=decide (i < j+1):=λi hi Ep=>by
   by_cases e:j=i;.subst e;rw [VY];simp
   .rw [hset i e,hst i hi Ep];have:(i < j)↔(i < j+1):=by omega
    simp [this]
  have hM':ms (cu (listed.setIfInBounds j true))=ms (j+1)/\jm (cu (listed.setIfInBounds j true))=jm (j+1):=by
   have h1:=Dh (f:=ms) (λi hi hf=>(wM i hi hf).1) hst' l.length (Nat.le_refl _);have h2:=Dh (f:=jm) (λi hi hf=>(wM i hi hf).2) hst' l.length (Nat.le_refl _);rw [show min l.length (j+1)=j+1 by omega] at h1 h2;exact ⟨h1,h2⟩
  rw [if_pos (by simp [Region.wanted,hgd])];have ok1:Ok C ⟨(KS listed).t,ms j,jm j⟩ G a w:=ok.uD (λ_=>rfl) (by exact hM.1.symm) (by exact hM.2.symm);refine .inl (hdo (KS listed).t hlooks G a w ok1 _ _ λG' a' w' ok'=>?_);exact ih (listed.setIfInBounds j true) G' a' w' Ru hclose hcount (ok'.uD KL (by exact hM'.1) (by exact hM'.2))):p:=h
end
section
open Go.RowKit
def needs(ops:Array Oper)(i:Nat):Nat->Nat->Bool
 | 0,_=>false| f+1,j =>match ops[j]? with
  | some o=>o.after.any λe=>Region.binds .any e && (Nat.beq e.on i|| needs ops i f e.on)| none=>false
def iV(ops:Array Oper)(mem:List Bool)(j:Nat):Bool:=(List.range j).all λi=>!(mem.getD i false)|| needs ops i ops.size j
def chainB(ops:Array Oper)(mem:List Bool):Bool:=(List.range ops.size).all λj=>!(mem.getD j false)|| iV ops mem j
section
variable {P:Program} {C:Cx} {σ σ':St} {G G':Gh} {a:Act} {w w':World} {ops:Array Oper} {Q:Exit→St→Prop}
theorem sW {listed:Array Bool} (hcl:∀ j oj,ops[j]?=some oj->listed.getD j false=true->∀ e∈oj.after,Region.binds .any e=true->listed.getD e.on false=true) {i:Nat}:∀ (f j:Nat),needs ops i f j=true->listed.getD j false=true->listed.getD i false=true
 | 0,j,h,_=>by cases h| f+1,j,h,hl=>by
  unfold needs at h;cases ho:ops[j]? with
  | none=>simp [ho]at h| some o =>
   simp only [ho]at h;obtain⟨e,he,h2⟩:=Array.any_eq_true'.1 h;simp only [gG,CQ]at h2;have:=hcl j o ho hl e he h2.1;rcases h2.2 with h3|h3;.simp_all
   .exact sW hcl f e.on h3 this
theorem vU {listed:Array Bool} (hcl:∀ j oj,ops[j]?=some oj->listed.getD j false=true->∀ e∈oj.after,Region.binds .any e=true->listed.getD e.on false=true) {i j:Nat} {oj:Oper} (hj:ops[j]?=some oj)(hr:∀ e∈oj.after,Region.binds .any e=true->listed.getD e.on false=true):∀ (f:Nat),needs ops i f j=true->listed.getD i false=true
 | 0,h=>by cases h| f+1,h=>by grind[needs,dG,sW]
theorem Ok.few (ok:Ok C σ G a w) {t:List (Nat×AV)} {M:List (Nat×AO)} {nk:Nat} (ht:∀ i av,look i t=some av->look i σ.t=some av/\av.inn nk=true) (hM:∀ k o,look k M=some o->look k σ.M=some o/\o.inn nk=true/\k<nk) (hnp:C.np<=nk):Ok C ⟨t,M,nk⟩ G a w :=⟨ok.sz,⟨ok.df.1,hnp,ok.df.2.2⟩,λi av x=>⟨(ok.tm i av (ht i av x).1).1,Gv (ht i av x).2,(ok.tm i av (ht i av x).1).2.2⟩,ok.bel,ok.fw,ok.f0,ok.f1,λk o x=>⟨(hM k o x).2.2,by cases o with
   | box T cells=>exact λi av y=>zK (List.all_eq_true.1 (hM k _ x).2.1 av (cZ y))| JU T n rows hi hj y=>exact zK (hM k _ x).2.1| rV T n rows hi hj y=>exact zK (hM k _ x).2.1| row T n rows=>trivial| jO T n rows=>trivial| vK T e l=>trivial| opq q=>trivial,(ok.ob k o (hM k o x).1).2.2⟩,λk o x p=>ok.my k o x (hM k o p).1,λk o k' o' x p q=>ok.dj k o k' o' x (hM k o p).1 (hM k' o' q).1,λk o x p u q=>ok.dF k o x p u (hM k o q).1⟩
def Nq (nk:Nat):List (Nat×AV)->Bool
 | []=>true| x::r=>x.2.inn nk && Nq nk r
def Lh (nk:Nat):List (Nat×AO)->Bool
 | []=>true| x::r=>x.2.inn nk && Nat.blt x.1 nk && Lh nk r
def bD:List (Nat×AO)->List (Nat×AO)->Prop
 | [],_=>True| x::r,M=>look x.1 M=some x.2/\bD r M
theorem FD {nk:Nat}:∀ {t:List (Nat×AV)},Nq nk t=true->∀ i av,look i t=some av->av.inn nk=true
 | [],_,i,av,h=>by cases h| x::r,ht,i,av,h=>by
  simp only [Nq,gG]at ht;by_cases e:i=x.1;.grind[aB]
  .rw [ah e]at h;exact FD ht.2 i av h
theorem uK {nk:Nat}:∀ {t:List (Nat×AO)},Lh nk t=true->∀ i o,look i t=some o->o.inn nk=true/\i<nk
 | [],_,i,o,h=>by cases h| x::r,ht,i,o,h=>by
  simp only [Lh,gG]at ht;by_cases e:i=x.1;.subst e;rw [aB]at h;simp_all
  .rw [ah e]at h;exact uK ht.2 i o h
theorem xH {M:List (Nat×AO)}:∀ {t:List (Nat×AO)},bD t M->∀ i o,look i t=some o->look i M=some o
 | [],_,i,o,h=>by cases h| x::r,ht,i,o,h=>by
  by_cases e:i=x.1;.subst e;rw [aB]at h;cases h;exact ht.1
  .rw [ah e]at h;exact xH ht.2 i o h
def J5 (P:Program) (C:Cx) (ops:Array Oper) (o:Oper) (t:List (Nat×AV)) (Mc:List (Nat×AO)) (nk:Nat) (av:AV):Prop :=Lh nk Mc=true/\Nq nk (dR t (o.looksAt ops))=true/\((qm ops o ⟨dR t (o.looksAt ops),Mc,nk⟩=some true/\WV P C o ⟨dR t (o.looksAt ops),Mc,nk⟩ av)\/(qm ops o ⟨dR t (o.looksAt ops),Mc,nk⟩=some false/\av=.sc undef))
def DoesM (P:Program) (C:Cx) (ops:Array Oper) (o:Oper) (σ:St) (d:Tmp) (av:AV) (M':List (Nat×AO)) (bP:Nat):Prop :=o.guard=none/\∀ t,(∀ q∈o.looksAt ops,look q t=look q σ.t)->WO P C o ⟨t,σ.M,σ.nk⟩ ⟨(d,av)::t,M',bP⟩
inductive DM (P:Program) (C:Cx) (ops:Array Oper) (mem:List Bool) (Mc:List (Nat×AO)) (dB:Nat):Nat->List Oper->St->St->Prop| nil (k:Nat) (σ:St):DM P C ops mem Mc dB k [] σ σ| val (k:Nat) (o:Oper) (rest:List Oper) (d:Tmp) (av:AV) (nk:Nat) (σ σ':St):mem.getD k false=false->o.dst=some d->Nat.blt d C.N=true->(nk=dB\/(nk=σ.nk/\iV ops mem k=true))->J5 P C ops o σ.t Mc nk av ->DM P C ops mem Mc dB (k+1) rest (σ.put d av) σ'->DM P C ops mem Mc dB k (o::rest) σ σ'| mem (k:Nat) (o:Oper) (rest:List Oper) (d:Tmp) (av:AV) (M':List (Nat×AO)) (bP:Nat) (σ σ':St):mem.getD k false=true->o.dst=some d->Nat.ble σ.nk bP=true->bD Mc M'->DoesM P C ops o σ d av M' bP ->DM P C ops mem Mc dB (k+1) rest ⟨(d,av)::σ.t,M',bP⟩ σ'->DM P C ops mem Mc dB k (o::rest) σ σ'
theorem DM.data {mem:List Bool} {Mc:List (Nat×AO)} {dB k:Nat} {l:List Oper} {σ σ':St} (h:DM P C ops mem Mc dB k l σ σ'):∃ (aW:Nat->AV) (ms:Nat->List (Nat×AO)) (jm:Nat->Nat),ms 0=σ.M/\jm 0=σ.nk /\σ'=⟨ents l.toArray aW (λ_=>true) l.length++σ.t,ms l.length,jm l.length⟩ /\∀ j oj,l[j]?=some oj->∃ d,oj.dst=some d /\((mem.getD (k+j) false=false/\d<C.N/\ms (j+1)=ms j/\jm (j+1)=jm j/\∃ nk,(nk=dB\/(nk=jm j/\iV ops mem (k+j)=true))/\J5 P C ops oj (ents l.toArray aW (λ_=>true) j++σ.t) Mc nk (aW j)) \/(mem.getD (k+j) false=true/\jm j<=jm (j+1)/\bD Mc (ms (j+1))/\DoesM P C ops oj ⟨ents l.toArray aW (λ_=>true) j++σ.t,ms j,jm j⟩ d (aW j) (ms (j+1)) (jm (j+1)))):=by
 have key:∀ (o:Oper) (rest:List Oper) (d:Tmp) (av:AV) (aW:Nat->AV),o.dst=some d->∀ m,m<=rest.length->ents (o::rest).toArray (λj=>if j=0 then av else aW (j-1)) (λ_=>true) (m+1)=ents rest.toArray aW (λ_=>true) m++[(d,av)]:=by
  intro o rest d av aW hd m;induction m<;>grind[ents,o9]
 induction h with
 | nil k σ=>exact ⟨λ_=>.sc undef,λ_=>σ.M,λ_=>σ.nk,rfl,rfl,rfl,λj oj h=>by simp at h⟩| val k o rest d av nk σ σ' hm hd hN hq hdo _ ih =>
  obtain ⟨aW,ms,jm,m0,n0,e1,e2⟩:=ih;refine ⟨λj=>if j=0 then av else aW (j-1),λj=>if j=0 then σ.M else ms (j-1),λj=>if j=0 then σ.nk else jm (j-1),rfl,rfl,?_,λj oj hj=>?_⟩;.simp_all[St.put]
  .cases j with
   | zero =>
    cases hj;exact ⟨d,hd,.inl ⟨hm,dn hN,m0,n0,nk,hq,by simpa [ents] using hdo⟩⟩| succ j =>
    have hj':rest[j]?=some oj:=by simpa using hj
    obtain ⟨d',q1,q2⟩:=e2 j oj hj';refine ⟨d',q1,?_⟩;rw [key o rest d av aW hd j adV];simpa [St.put,Q9,Nat.add_comm 1 j] using q2
 | mem k o rest d av M' bP σ σ' hm hd hn hsub hdo _ ih =>
  obtain ⟨aW,ms,jm,m0,n0,e1,e2⟩:=ih;refine ⟨λj=>if j=0 then av else aW (j-1),λj=>if j=0 then σ.M else ms (j-1),λj=>if j=0 then σ.nk else jm (j-1),rfl,rfl,?_,λj oj hj=>?_⟩
  .rw [e1,pW,key o rest d av aW hd _ (Nat.le_refl _)];simp
  .cases j with
   | zero =>
    cases hj;refine ⟨d,hd,.inr ⟨hm,?_,?_,?_⟩⟩;.exact abN
    .exact abU
    .show DoesM P C ops o _ d av (ms 0) (jm 0);rw [m0,n0];simpa [ents] using hdo| succ j =>
    have hj':rest[j]?=some oj:=by simpa using hj
    obtain ⟨d',q1,q2⟩:=e2 j oj hj';refine ⟨d',q1,?_⟩;rw [key o rest d av aW hd j adV];simpa [Q9,Nat.add_comm 1 j] using q2
def cur(mem s:Nat->Bool):Nat->Nat
 | 0=>0| m+1=>if mem m=true/\s m=true then m+1 else cur mem s m
theorem Gj {mem s s':Nat->Bool}:∀ {m:Nat},(∀ i,i<m->mem i=true->s i=s' i)->cur mem s m=cur mem s' m
 | 0,_=>rfl| m+1,h=>by
  unfold cur;rw [Gj (m:=m) λi hi=>h i (by omega)];grind
theorem Kq {mem s:Nat->Bool}:∀ m:Nat,cur mem s m<=m
 | 0=>Nat.le_refl _| m+1=>by
  unfold cur;split;.exact Nat.le_refl _
  .exact Nat.le_succ_of_le (Kq m)
theorem Dh {α:Type} {mem s:Nat->Bool} {f:Nat->α} {n j:Nat} (hc:∀ i,i<n->mem i=false->f (i+1)=f i)(hs:∀ i,i<n->mem i=true->s i=decide (i<j)):∀ m,m<=n->f (cur mem s m)=f (min m j)
 | 0,_=>by simp [cur]| m+1,h=>by
  have ih:=Dh hc hs m au;grind[cur]
theorem Zb {mem s:Nat->Bool} {f:Nat->Nat} {n j:Nat} (hc:∀ i,i<n->mem i=false->f (i+1)=f i)(hmono:∀ i,i<n->f i<=f (i+1))(hs:∀ i,i<n->i<j->mem i=true->s i=true):∀ m,m<=n->f (min m j)<=f (cur mem s m)
 | 0,_=>by simp [cur]| m+1,h=>by
  have ih:=Zb hc hmono hs m au;unfold cur;by_cases e:mem m=true/\s m=true
  .rw [if_pos e];by_cases hm:m<j;.grind
   .rw [show min (m+1) j=j by omega];have:∀ b a,a<=b->b<=n->f a<=f b:=by
     intro b;induction b<;>grind
    grind
  grind
theorem WA.drawM {l:List Oper} (mem:List Bool) (Mc:List (Nat×AO)) (hB:Region.lexB .any l.toArray=true) (hch:chainB l.toArray mem=true) (SG:bD Mc σ.M) (h:DM P C l.toArray mem Mc σ.nk 0 l σ σ') (k:Q .normal σ'):WA P C l.toArray σ Q:=by
 intro G a w ok;obtain ⟨aW,ms,jm,m0,n0,e1,e2⟩:=h.data;simp only [oC] at e2;simp only [Region.lexB,gG] at hB;obtain ⟨FA,FB⟩:=uh (ops:=l.toArray) l.toArray.size 0 (Array.replicate l.toArray.size false) (by simp) (by simp) (λi hi=>by simp [dU,hi] at hi ⊢;simp [hi]) hB.2;have sz:l.toArray.size=l.length:=by simp
 have wM:∀ i,i < l.length->mem.getD i false=false->ms (i+1)=ms i/\jm (i+1)=jm i:=λi hi hf=>by
  obtain ⟨d,_,q⟩:=e2 i l[i] (aO hi);exact ak8
 have Le:∀ i,i < l.length->jm i<=jm (i+1):=λi hi=>by
  obtain ⟨d,_,q⟩:=e2 i l[i] (aO hi);exact ak9
 have VU:C.np<=jm 0:=by rw [n0];exact ok.df.2.1
 have ah2:∀ i,i<=l.length->C.np<=jm i:=λi=>by induction i with
  | zero=>exact λ_=>VU| succ i ih=>exact λh=>gX (ih au) (Le i au)
 have aiA:∀ i,i<=l.length->bD Mc (ms i):=λi=>by induction i with
  | zero=>intro _;rw [m0];exact SG| succ i ih =>
   intro hi;obtain ⟨d,_,q⟩:=e2 i l[i] (aO (by omega));exact ak6
 have aoF:∀ j,j < l.length->mem.getD j false=true->iV l.toArray mem j=true:=λj hj hmj=>by exact anG
 have ahU:∀ i j,i < j->iV l.toArray mem j=true->mem.getD i false=true->needs l.toArray i l.toArray.size j=true:=λi j hij hb Ep=>by exact anF
 let cu:Array Bool->Nat:=λlisted=>cur (λi=>mem.getD i false) (λi=>listed.getD i false) l.length;let KS:Array Bool->St:=λlisted=>⟨ents l.toArray aW (λi=>listed.getD i false) l.length++σ.t,ms (cu listed),jm (cu listed)⟩;have key:∀ (fuel:Nat) (listed:Array Bool) (G:Gh) (a:Act) (w:World),listed.size=l.length->(∀ j oj,l.toArray[j]?=some oj->listed.getD j false=true->∀ e∈oj.after,Region.binds .any e=true->listed.getD e.on false=true) ->(List.range l.length).countP (λi=>!listed.getD i false)<=fuel->Ok C (KS listed) G a w->wpAny P .any l.toArray (Post C Q) fuel listed a w:=by
  intro fuel;have done:∀ (listed:Array Bool) (G:Gh) (a:Act) (w:World),listed.size=l.length->Region.ready .any l.toArray listed=[]->Ok C (KS listed) G a w->Post C Q .normal a w:=by
   intro listed G a w hsz hr ok;exact avA
  induction fuel with
  | zero =>
   intro listed G a w hsz hcl hf ok;exact aqp| succ fuel ih =>
   intro listed G a w hsz hcl hf ok;refine ⟨λhr=>done listed G a w hsz hr ok,λj hj=>?_⟩;obtain ⟨h1,oj,h2,h4⟩:=mem_ready.1 hj;have hlt:j < l.length:=by have:=(Array.getElem?_eq_some_iff.1 h2).1;omega
   have h3:listed.getD j false=false:=by exact U1
   have hlj:l[j]?=some oj:=by simpa using h2
   obtain ⟨d,hd,KI⟩:=e2 j oj hlj;have hlook:∀ t∈oj.looksAt l.toArray,∀ i,i < l.length->(l.toArray[i]?).bind (·.dst)=some t->listed.getD i false=decide (i < j):=by
    intro t ht i hi hdi;exact avD
   have VR:∀ t,look t (ents l.toArray aW (λ_=>true) j)=look t (ents l.toArray aW (λi=>decide (i < j)) l.length):=by
    intro t;exact aqr
   have hlooks:∀ t∈oj.looksAt l.toArray,look t (KS listed).t=look t (ents l.toArray aW (λ_=>true) j++σ.t):=λt ht=>by exact anI
   have KL:∀ t,look t (ents l.toArray aW (λi=>(listed.setIfInBounds j true).getD i false) l.length++σ.t)=look t ((d,aW j)::(KS listed).t):=by
    intro t;by_cases et:t=d
    ·subst et;rw [aB,dh,Em (j:=j) hlt (by rw [h2];exact hd) adW λi hij hi hdi=>?_];·rfl
     ·have hoi:l.toArray[i]?=some l[i]:=by simp [hi]
      rw [hoi] at hdi;have hdi:l[i].dst=some t:=hdi;have hne:j≠i:=by omega
      cases zJ:listed.getD i false with
      | false=>simpa [dU,sO hne] using zJ| true =>
       by_cases hno:∃ e,e∈(l[i]).after/\Region.binds .any e=true/\e.on=j
       ·obtain ⟨e,he,hb,he2⟩:=hno;have:=hcl i _ hoi zJ e he hb;rw [he2,h3] at this;cases this
       exact alr
    ·rw [ah et];show _=look t (_++_);rw [dh,dh];exact asu
   have hset:∀ i,j≠i->(listed.setIfInBounds j true).getD i false=listed.getD i false:=λi e=>by simp [dU,sO e]
   have VY:(listed.setIfInBounds j true).getD j false=true:=by simp [dU,hsz,hlt]
   have hclose:∀ i oi,l.toArray[i]?=some oi->(listed.setIfInBounds j true).getD i false=true->∀ e∈oi.after,Region.binds .any e=true->(listed.setIfInBounds j true).getD e.on false=true:=by
    intro i oi hi zJ e he hb;exact am3
   have hcount:(List.range l.length).countP (λi=>!(listed.setIfInBounds j true).getD i false)<=fuel:=by exact anA
   unfold wpOp;simp only [h2];rcases KI with ⟨hmf,hdN,hmc,hnc,nk,hnk,Ep,hti,hdo⟩|⟨hmt,aw7,hsub,hgd,hdo⟩;·-- memory stays
    have hot:dR (KS listed).t (oj.looksAt l.toArray)=dR (ents l.toArray aW (λ_=>true) j++σ.t) (oj.looksAt l.toArray):=qZ hlooks;have acM:nk<=jm (cu listed):=by exact alI
    have okO:Ok C ⟨dR (ents l.toArray aW (λ_=>true) j++σ.t) (oj.looksAt l.toArray),Mc,nk⟩ G a w :=ok.few (hnp:=by rcases hnk with h|⟨h,_⟩<;>rw [h]<;>first|exact ah2 j (by omega)|(rw [← n0];exact VU)) (ht:=λi av hx=>⟨by rw [← hot] at hx;exact qx hx,FD hti i av hx⟩) (hM:=λq o hx=>⟨xH (aiA _ (Kq _)) q o hx,(uK Ep q o hx).1,(uK Ep q o hx).2⟩);have next:∀ (v:Value) (G':Gh) (w':World),Ok C (KS listed) G' a w'->R G' (aW j) v->Bd nk (aW j)->wpAny P .any l.toArray (Post C Q) fuel (listed.setIfInBounds j true) (a.put oj.dst v) w':=by
     intro v G' w' ok' hr hb;have ok2:=ok'.set (d:=some d) hr (hb.mono acM) λx hx=>by cases hx;exact hdN
     rw [hd];have hcu:cu (listed.setIfInBounds j true)=cu listed:=Gj λi hi Ep=>by
      by_cases e:j=i;·subst e;rw [hmf] at Ep;cases Ep
      ·exact hset i e
     exact ih (listed.setIfInBounds j true) G' _ w' Ru hclose hcount (ok2.uD KL (by show ms _=ms _;rw [hcu]) (by show jm _=jm _;rw [hcu]))
    exact amM
   exact avz
 exact alA
theorem W.drawM {id:Nat} {l:List Oper} (mem:List Bool)(Mc:List (Nat×AO))(hm:P.follows .mixedOrders=true)(hB:Region.lexB .any l.toArray=true)(hch:chainB l.toArray mem=true)(SG:bD Mc σ.M)(h:DM P C l.toArray mem Mc σ.nk 0 l σ σ')(k:Q .normal σ'):W P C (.region id l.toArray true) σ Q:=W.pK hm (WA.drawM mem Mc hB hch SG h k)
end
theorem VK:∀ (v:List Value)(off:Nat)(cells:Array Value),off+v.length<=cells.size->(v.zipIdx.foldl (λcs (c,j)=>cs.setIfInBounds (off+j) c) cells).toList=jL off v cells.toList:=by
 have key:∀ (v:List Value)(off s:Nat)(cells:Array Value),off+s+v.length<=cells.size->(v.zipIdx s|>.foldl (λcs (x:Value×Nat)=>cs.setIfInBounds (off+x.2) x.1) cells).toList=jL (off+s) v cells.toList:=by
  intro v;induction v with
  | nil =>simp_all[qN]| cons x r ih =>
   intro off s cells h;rw [List.zipIdx_cons,AU,ih off (s+1) _ (by simp at h ⊢;omega)];have hlen:off+s+(r.length+1)<=cells.size:=by omega
   have hl:off+s<cells.toList.length:=by simp;omega
   exact abY
 simp_all
theorem afL {α:Type} (l m rest:List α)(off:Nat)(h:off=l.length)(done:List α)(hl:m.length<=rest.length):jL off m (l++rest)=l++m++rest.drop m.length:=by simp_all[qN]
theorem PI {size:Nat}:∀ (vs:List Value) (q:Nat) (done rest:List Value),done.length=q*size->rest.length=vs.length*size->(∀ v∈vs,v.cells.size=size) ->Instr.fill (λi=>some (i*size,size)) (done++rest).toArray (number q vs)=some (done++(vs.map λv=>v.cells.toList).flatten).toArray
 | [],q,done,rest,hd,hr,_=>by simp_all[number,Instr.fill]| v::vs,q,done,rest,hd,hr,hv=>by
  have h1:v.cells.size=size:=hv v (by simp);have hle:size<=rest.length:=by simp_all[Rf]
  have hb:(v.cells.size≠size|| q*size+v.cells.size > (done++rest).toArray.size)=false:=by simp_all
  have hf:=VK v.cells.toList (q*size) (done++rest).toArray (by simp [h1,hd];omega);have e:(v.cells.zipIdx.foldl (λcs (c,j)=>cs.setIfInBounds (q*size+j) c) (done++rest).toArray)=((done++v.cells.toList)++rest.drop size).toArray:=by
   apply AQ;rw [← Array.foldl_toList,Array.toList_zipIdx,hf];have:=afL done v.cells.toList rest (q*size) hd.symm done (by simpa [h1] using hle);simp_all
  have ih:=PI vs (q+1) (done++v.cells.toList) (rest.drop size) (by grind) (by grind[Rf]) λx hx=>hv x (by simp [hx]);simp_all[Instr.fill,number]
section
variable {P:Program} {C:Cx} {σ σ':St} {G G':Gh} {a:Act} {w w':World} {o:Oper} {d:Tmp}
theorem MW {T e n m:Nat} {z:Value} {vs:List Value} {parts:Array (Nat×Value)} (hT:P.underlying T=some (.slice e)) (hn:fZ P e=some n) (hz:(P.info? e).bind (·.zero)=some z) (hp:parts.toList=number 0 vs) (hm:vs.length=m) (hv:∀ v∈vs,v.cells.size=n) (hb:m*n<=16777216) (w:World) :(Instr.buildSlice T m parts).run P w=.ok (.slice (some ⟨w.heap.size,0,none⟩) m m) (w.alloc (.cells (vs.map λv=>v.cells.toList).flatten.toArray e)):=by cases hi:P.info? e with
 | none=>simp [hi] at hz| some i =>
  simp [hi] at hz;have aqE:∀ zero:Array Value,Instr.fill (λi=>some (i*n,n)) ((Array.range (m*n)).map (zero[· % zero.size]!)) parts.toList=some (vs.map λv=>v.cells.toList).flatten.toArray:=λzero=>by
   have:=PI (size:=n) vs 0 [] ((Array.range (m*n)).map (zero[· % zero.size]!)).toList (by simp) (by simp [hm]) hv;simp_all[Array.range]
  have h2:¬ (m*n > 2 ^ 24):=by simp;omega
  unfold Instr.buildSlice;by_cases h0:m*n=0
  ·simp only [Sem.run_bind,run_underlying hT,Result.andThen_ok,kL hn,if_neg h2,if_pos h0,Sem.run_pure,aqE,newRow,run_newObj];rfl
  ·simp only [Sem.run_bind,run_underlying hT,Result.andThen_ok,kL hn,if_neg h2,if_neg h0,Sem.run_pure,zeroValue,typeInfo,run_program,hi,hz,aqE,newRow,run_newObj];rfl
def ML(n:Nat)(l:List AV):Bool:=l.all λav=>av.l7 && Nat.beq av.cells.length n && av.cells.all AV.xO && av.cells.all AV.TL
theorem DC {α β:Type} (f:α->β):∀ (n:Nat)(l:List α),(number n l).map (λx=>(x.1,f x.2))=number n (l.map f)
 | _,[]=>rfl| n,x::r=>by simp [number,DC f (n+1) r]
def TB {α:Type}:Nat->List (Nat×α)->Bool
 | _,[]=>true| n,x::r=>Nat.beq x.1 n && TB (n+1) r
theorem adb {α:Type}:∀ (n:Nat)(l:List (Nat×α)),TB n l=true->l=number n (l.map (·.2))
 | _,[],_=>rfl| n,x::r,h=>by
  simp only [TB,gG] at h;rw [AB,number,← adb (n+1) r h.2,← dG h.1]
theorem WO.ata {T e n m q:Nat} {z:Value} {parts:Array (Nat×Operand)} {xs:List Operand} {aW:List AV} {rows:List (List AV)} (ho:o.op=.buildSlice T m parts) (hT:P.underlying T=some (.slice e)) (hn:fZ P e=some n) (hz:(P.info? e).bind (·.zero)=some z)(hp:parts.toList=number 0 xs) (hm:xs.length=m) (hb:Nat.ble (m*n) 16777216=true) (hb1:Nat.ble m 16777216=true) (hds:o.dst=some d) (hd:Nat.blt d C.N=true) (hx:σ.evs xs=some aW) (hck:ML n aW=true) (hr:aW.map AV.cells=rows) (hq:σ.nk=q) :WO P C o σ ((σ.new (.row e n rows)).put d (.sl q)):=by
 intro G a w ok N Q' hN;obtain ⟨e1,e2⟩:=ok.evl hx;have aoG:∀ av∈aW,av.l7=true/\av.cells.length=n/\av.cells.all AV.xO=true/\av.cells.all AV.TL=true:=λav hav=>by
  have:=List.all_eq_true.1 hck av hav;simp_all
 have hv:∀ v∈xs.map a.eval,v.cells.size=n:=λv hv=>by
  obtain ⟨i,hi,rfl⟩:=oz hv;have hi2:i<aW.length:=by omega
  obtain ⟨c1,c2,_⟩:=aoG _ (gB hi2);rw [(uy (e2 i _ _ (aO hi2) (aO hi)) c1).1,c2]
 have hlm:(xs.map a.eval).length=m:=by simpa using hm
 have hrun:=MW (P:=P) (T:=T) (e:=e) (n:=n) (m:=m) (vs:=xs.map a.eval) (parts:=parts.map λ(i,x)=>(i,a.eval x)) hT hn hz (by simp_all[DC]) hlm hv (bG hb) w;have hvs:((xs.map a.eval).map λv=>v.cells.toList).length=rows.length:=by grind
 have hown:=Qs w e n m ((xs.map a.eval).map λv=>v.cells.toList).flatten.toArray (by unfold maxLen;have:=bG hb1;omega) (by grind[nS]);have ah5:∀ r∈(xs.map a.eval).map λv=>v.cells.toList,∀ u∈r,u.oneCell'=true :=(λr hr' u hu=>by
   obtain ⟨v,hv',rfl⟩:=List.mem_map.1 hr';obtain ⟨i,hi,rfl⟩:=oz hv';have hi2:i<aW.length:=by omega
   obtain ⟨c1,c2,c3,_⟩:=aoG _ (gB hi2);obtain ⟨d1,d2⟩:=uy (e2 i _ _ (aO hi2) (aO hi)) c1;obtain ⟨j,hj,rfl⟩:=oz hu;have hj2:j<(aW[i]).cells.length:=by rw [← d1];simpa using hj
   exact TD (d2 j _ _ (aO hj2) (by simp at hj;simp [hj])) (List.all_eq_true.1 c3 _ (gB hj2)));have hrel:∀ (i:Nat) r r',rows[i]?=some r->((xs.map a.eval).map λv=>v.cells.toList)[i]?=some r'->RL G.F r r' :=(λi r r' h1 h2=>by
   rw [← hr,dw] at h1;rw [dw] at h2;cases q1:aW[i]? with
   | none=>simp [q1] at h1| some av =>cases q2:(xs.map a.eval)[i]? with
    | none=>simp [q2] at h2| some v =>
     simp [q1] at h1;simp only [q2,oG,Option.some.injEq] at h2;subst h1 h2;obtain ⟨c1,c2,_,c4⟩:=aoG av (cZ q1);obtain ⟨d1,d2⟩:=uy (e2 i av v q1 q2) c1;exact ⟨by simpa using d1,λj x u hx hu=>(Ad (List.all_eq_true.1 c4 x (cZ hx)) 0).rp (d2 j x u hx Rw)⟩);have hsl:(.slice (some ⟨w.heap.size,0,none⟩) m m:Value).ownBlock=some w.heap.size:=rfl;have ok':=ok.newObj (w':=w.alloc (.cells ((xs.map a.eval).map λv=>v.cells.toList).flatten.toArray e)) (S:=λ_=>False) (b:=w.heap.size) (n:=n) (h:=.slice (some ⟨w.heap.size,0,none⟩) m m) (φ:=λx=>x=w.heap.size) (ob:=.row e n rows) (Kept.below ((Below.refl _ _).alloc (Nat.le_refl _) _)) (λ_ h=>h.elim) (λ_ _ _ _ _ h=>h) (λ_ _ _ h=>h) ⟨uZ,(λg hg=>by rw [fB,hsl] at hg;rw [su];exact (Option.some.inj hg).symm),by
   rw [fB,qH];refine ⟨λr hr'=>by rw [← hr] at hr';obtain ⟨av,hav,rfl⟩:=List.mem_map.1 hr';exact (aoG av hav).2.1,(xs.map a.eval).map λv=>v.cells.toList,λ_ _ _=>False,?_,hvs,?_,λg hg=>by rw [hsl] at hg;exact (Option.some.inj hg).symm,λ_ _ _ h=>h.elim,λ_ _ _ _ _ h=>h.elim,λi r r' h1 h2=>(hrel i r r' h1 h2).1,λi r r' j av u h1 h2 h3 h4=>(hrel i r r' h1 h2).2 j av u h3 h4⟩
   ·have:((xs.map a.eval).map λv=>v.cells.toList).length=m:=by simpa using hlm
    rw [this];exact yI (by simpa using hown) (iT _)
   ·exact ah5⟩ trivial (λx hx=>by
   obtain rfl:x=w.heap.size:=hx;refine ⟨.inl ok.bel.size,by simp,λk o h1 h2=>?_,λp u h1 h2=>?_⟩;·have:=(ok.my k o _ h1 h2).2;omega
   ·have:=aQ (ok.fw p u h1);omega);refine lN ?_;simp only [ho,Sem.run_bind,hrun,Result.andThen_ok,Sem.run_pure,Oper.upon];rw [hds];subst hq;exact hN _ _ _ (ok'.set (d:=some d) (av:=.sl σ.nk) (v:=.slice (some ⟨w.heap.size,0,none⟩) m m) (tY rfl) (.sl _ (vw _)) λx hx=>by cases hx;exact dn hd)
theorem WO.build {T e n m q:Nat} {z:Value} {parts:Array (Nat×Operand)} {aW:List AV} {rows:List (List AV)} (ho:o.op=.buildSlice T m parts) (hT:P.underlying T=some (.slice e)) (hn:fZ P e=some n) (hz:(P.info? e).bind (·.zero)=some z)(hp:TB 0 parts.toList=true) (hm:parts.toList.length=m) (hb:Nat.ble (m*n) 16777216=true) (hb1:Nat.ble m 16777216=true) (hds:o.dst=some d) (hd:Nat.blt d C.N=true) (hx:σ.evs (parts.toList.map (·.2))=some aW) (hck:ML n aW=true) (hr:aW.map AV.cells=rows) (hq:σ.nk=q) :WO P C o σ ((σ.new (.row e n rows)).put d (.sl q)) :=WO.ata ho hT hn hz (adb 0 _ hp) (by simpa using hm) hb hb1 hds hd hx hck hr hq
end
def TK (P:Program)(T:TypeId):Option (List (Nat×Nat)) :=match P.underlying T with
 | some (.struct fields)=>fields.toList.mapM λf=>(P.info? f.type).map λi=>(f.offset,i.size)| _=>none
def Ky (places:List (Nat×Nat)):List AV->List (Nat×AV)->Option (List AV)
 | cells,[]=>some cells| cells,(i,av)::r =>match places[i]? with
  | some (off,sz)=>bif av.l7 && Nat.beq av.cells.length sz && Nat.ble (off+sz) cells.length then Ky places (jL off av.cells cells) r else none| none=>none
def pairUp:List (Nat×Operand)->List AV->List (Nat×AV)
 | (i,_)::r,av::s=>(i,av)::pairUp r s| _,_=>[]
section
variable {P:Program} {C:Cx} {σ σ':St} {G G':Gh} {a:Act} {w w':World} {o:Oper} {d:Tmp} {ops:Array Oper} {Q:Exit→St→Prop}
theorem VG {places:List (Nat×Nat)}:∀ (parts:List (Nat×AV)) (vals:List (Nat×Value)) (cells:List AV) (cs:Array Value) (l:List AV),Ky places cells parts=some l->vals.length=parts.length ->(∀ (q:Nat) x y,parts[q]?=some x->vals[q]?=some y->y.1=x.1/\R G x.2 y.2)->cs.size=cells.length->(∀ (i:Nat) x u,cells[i]?=some x->cs[i]?=some u->R G x u) ->∃ cs',Instr.fill (places.toArray[.]?) cs vals=some cs'/\cs'.size=l.length/\∀ (i:Nat) x u,l[i]?=some x->cs'[i]?=some u->R G x u
 | [],vals,cells,cs,l,h,hl,_,hs,hc=>by
  cases h;have:vals=[]:=sN hl;subst this;exact ⟨cs,rfl,hs,hc⟩| (i,av)::r,[],cells,cs,l,h,hl,_,hs,hc=>by cases hl| (i,av)::r,(j,v)::vr,cells,cs,l,h,hl,hp,hs,hc=>by
  obtain ⟨e1,e2⟩:=hp 0 _ _ rfl rfl;simp only at e1 e2;subst e1;unfold Ky at h;cases hpl:places[j]? with
  | none=>simp [hpl] at h| some x =>
   obtain ⟨off,sz⟩:=x;simp only [hpl] at h;cases hb:av.l7 && Nat.beq av.cells.length sz && Nat.ble (off+sz) cells.length with
   | false=>rw [hb] at h;cases h| true =>
    rw [hb] at h;simp only [cond_true] at h;simp only [gG] at hb;obtain ⟨⟨b1,b2⟩,b3⟩:=hb;have b2:=dG b2;have b3:=bG b3;obtain ⟨c1,c2⟩:=uy e2 b1;have hfit:off+v.cells.toList.length<=cs.size:=by rw [hs];simp [c1,b2];omega
    have aqF:off+av.cells.length<=cells.length:=by omega
    obtain ⟨cs',f1,f2,f3⟩:=VG r vr (jL off av.cells cells) (jL off v.cells.toList cs.toList).toArray l h (by simpa using hl) (λq x y a b=>hp (q+1) x y (by simpa using a) (by simpa using b)) (by rw [QY,oP (by simpa using hfit),oP aqF];simpa using hs) (λq x u a b=>ajs (R G) aqF (by rw [Ut];exact c1) (by rw [Ut];exact hs) (λq x y a b=>c2 q x y a (by simpa using b)) (λq x y a b=>hc q x y a (by simpa using b)) q x u a (by simpa using b));refine ⟨cs',?_,f2,f3⟩;have hf:=VK v.cells.toList off cs hfit;have e:(v.cells.zipIdx.foldl (λcs (c,j)=>cs.setIfInBounds (off+j) c) cs)=(jL off v.cells.toList cs.toList).toArray:=by
     apply AQ;rw [← Array.foldl_toList,Array.toList_zipIdx,hf]
    grind[Instr.fill]
theorem WV.build {T:TypeId} {parts:Array (Nat×Operand)} {z:Value} {places:List (Nat×Nat)} {aW l:List AV} (ho:o.op=.build T parts) (hz:(P.info? T).bind (·.zero)=some z) (hpl:TK P T=some places)(hx:σ.evs (parts.toList.map (·.2))=some aW) (hf:Ky places (z.cells.toList.map .sc) (pairUp parts.toList aW)=some l):WV P C o σ (.ag l):=by
 have main:∀ G a w,Ok C σ G a w->∃ cs,(Instr.build T (parts.map λ(i,x)=>(i,a.eval x))).run P w=.ok (.agg cs) w/\cs.size=l.length/\∀ (i:Nat) x u,l[i]?=some x->cs[i]?=some u->R G x u:=by
  intro G a w ok;obtain ⟨e1,e2⟩:=ok.evl hx;have hlen:aW.length=parts.toList.length:=by simpa using e1.symm
  have hpu:∀ (ps:List (Nat×Operand)) (ys:List AV),ys.length=ps.length->(pairUp ps ys).length=ps.length/\∀ (q:Nat) x,(pairUp ps ys)[q]?=some x->∃ p av,ps[q]?=some p/\ys[q]?=some av/\x=(p.1,av):=by
   intro ps;induction ps with
   | nil=>intro ys h;exact ⟨by cases ys<;>rfl,λq x hx=>by cases ys<;>simp [pairUp] at hx⟩| cons p r ih =>
    intro ys h;cases ys with
    | nil=>simp at h| cons av s =>
     obtain ⟨h1,h2⟩:=ih s yj;refine ⟨by simp [pairUp,h1],λq x hx=>?_⟩;cases q with
     | zero=>cases hx;exact ⟨p,av,rfl,rfl,rfl⟩| succ q=>exact h2 q x (by simpa [pairUp] using hx)
  obtain ⟨p1,p2⟩:=hpu parts.toList aW hlen;obtain ⟨cs',f1,f2,f3⟩:=VG (G:=G) (pairUp parts.toList aW) (parts.toList.map λ(i,x)=>(i,a.eval x)) _ z.cells l hf (by simp [p1]) (λq x y hxq hy=>by
   obtain ⟨p,av,q1,q2,rfl⟩:=p2 q x hxq;rw [dw,q1] at hy;simp at hy;subst hy;exact ⟨rfl,e2 q av _ q2 (by rw [Jf,dw,q1];rfl)⟩) (by simp) (λi x u hxi hu=>by
   rw [dw,show z.cells.toList[i]?=z.cells[i]? by simp,hu] at hxi;cases hxi;exact .pu _ _ (.sc _));refine ⟨cs',?_,f2,f3⟩;apply run_build;unfold Program.built;cases hi:P.info? T with
  | none=>simp [hi] at hz| some it =>
   simp [hi] at hz;unfold TK at hpl;cases hu:P.underlying T with
   | none=>simp [hu] at hpl| some u =>cases u with
    | struct fields =>
     simp only [hu] at hpl;simp only [hz,hpl];simpa using f1| _=>simp [hu] at hpl
 refine WV.val (λG a w ok=>?_) λG a w ok=>?_
 ·obtain ⟨_,b2⟩:True/\∀ av∈aW,Bd σ.nk av:=⟨trivial,by
   have:∀ (xs:List Operand) (ys:List AV),σ.evs xs=some ys->∀ av∈ys,Bd σ.nk av:=by
    intro xs;induction xs with
    | nil=>intro ys h av hav;cases h;cases hav| cons x r ih =>
     intro ys h av hav;unfold St.evs at h;cases h1:σ.ev x with
     | none=>simp [h1] at h| some y =>cases h2:σ.evs r with
      | none=>simp [h1,h2] at h| some l' =>
       simp [h1,h2] at h;subst h;rcases List.mem_cons.1 hav with rfl|hav;·exact (ok.l9 h1).1
       ·exact ih l' h2 av hav
   exact this _ _ hx⟩;have hfb:∀ (parts:List (Nat×AV)) (cells l:List AV),Ky places cells parts=some l->(∀ x∈parts,Bd σ.nk x.2)->(∀ (i:Nat) x,cells[i]?=some x->Bd σ.nk x)->∀ (i:Nat) x,l[i]?=some x->Bd σ.nk x:=by
   intro parts;induction parts with
   | nil=>intro cells l h _ hc;cases h;exact hc| cons p r ih =>
    intro cells l h hp hc;obtain ⟨i,av⟩:=p;unfold Ky at h;cases hpl:places[i]? with
    | none=>simp [hpl] at h| some x =>
     obtain ⟨off,sz⟩:=x;simp only [hpl] at h;cases hb:av.l7 && Nat.beq av.cells.length sz && Nat.ble (off+sz) cells.length with
     | false=>rw [hb] at h;cases h| true =>
      rw [hb] at h;simp only [gG] at hb;have b2:=dG hb.1.2;have b3:=bG hb.2;refine ih _ _ h (λx hx=>hp x (by simp [hx])) λq x hx=>?_;rw [tH (by omega)] at hx;split at hx;·exact Ef (hp (i,av) (by simp)) _ x hx
      ·exact hc q x hx
  refine .ag _ (hfb _ _ _ hf (λx hx=>?_) λi x hx=>?_)
  ·have:∀ (ps:List (Nat×Operand)) (ys:List AV),x∈pairUp ps ys->x.2∈ys:=by
    intro ps;induction ps with
    | nil=>intro ys h;cases ys<;>simp [pairUp] at h| cons p r ih =>
     intro ys h;cases ys with
     | nil=>simp [pairUp] at h| cons av s =>
      rcases List.mem_cons.1 (by simpa [pairUp] using h) with rfl|h;·simp
      ·exact QX _ (ih s h)
   exact b2 _ (this _ _ hx)
  ·rw [dw] at hx;cases hq:z.cells.toList[i]? with
   | none=>simp [hq] at hx| some u=>simp [hq] at hx;rw [← hx];exact .sc _
 ·obtain ⟨cs,h1,h2,h3⟩:=main G a w ok;exact ⟨.agg cs,by unfold execOp;simp only [ho,Sem.run_bind,h1,Result.andThen_ok,Sem.run_pure],.ag l cs h2 h3⟩
end
def gdn(v:Value)(b:Bool):Bool :=match vb v with
 | some c=>!(c == b)| none=>true
section
variable {P:Program} {C:Cx} {σ σ':St} {G G':Gh} {a:Act} {w w':World} {o oj:Oper} {d d0:Tmp} {ops:Array Oper} {rest:List Oper} {Q:Exit→St→Prop} {j:Nat} {b c:Bool}
theorem WL.auG {v:Value} (hg:o.guard=some (j,b))(hj:ops[j]?=some oj)(hd0:oj.dst=some d0)(hv:look d0 σ.t=some (.sc v))(hb:gdn v b=true)(hds:o.dst=some d)(hd:Nat.blt d C.N=true)(k:WL P C ops rest (σ.put d (.sc undef)) Q):WL P C ops (o::rest) σ Q :=WL.opn hg hj hd0 hv (by
  unfold gdn at hb;cases h:vb v with
  | none=>simp| some c=>rw [h] at hb;cases c<;>cases b<;>first|(intro h2;cases h2;done)|cases hb) hds hd k
theorem WL.aP (hg:o.guard=some (j,b)) (hj:ops[j]?=some oj) (hd0:oj.dst=some d0) (hv:look d0 σ.t=some (.sc (.bool c))) (h1:c=true->WL P C ops (o::rest) (σ.put d0 (.sc (.bool true))) Q) (h2:c=false->WL P C ops (o::rest) (σ.put d0 (.sc (.bool false))) Q):WL P C ops (o::rest) σ Q :=WL.part hv h1 h2
theorem W.yY {x:Operand} {p q:Code} (hc:σ.ev x=some (.sc (.bool true))) (h:W P C p σ Q):W P C (.cond x p q) σ Q:=W.cond hc (λ_=>h) (λh=>by cases h)
theorem W.uz {x:Operand} {p q:Code} (hc:σ.ev x=some (.sc (.bool false))) (h:W P C q σ Q):W P C (.cond x p q) σ Q:=W.cond hc (λh=>by cases h) (λ_=>h)
theorem WV.cast {av Vf:AV} (h:WV P C o σ av)(e:av=Vf):WV P C o σ Vf:=e ▸ h
theorem kC {t:List (Nat×AV)} {M:List (Nat×AO)} {nk:Nat} (H:∀ q∈o.looksAt ops,look q t=look q σ.t) {x:Operand} (hx:x∈o.op.operands.toList):(⟨t,M,nk⟩:St).ev x=σ.ev x:=by cases x with
 | tmp q=>exact H q (Ny _ (List.mem_filterMap.2 ⟨.tmp q,hx,rfl⟩))| const v=>rfl| func f=>rfl| global g=>rfl
theorem aj9 {t:List (Nat×AV)} {nk:Nat} (n:Nat)(av:AV):(⟨t,σ.M,nk⟩:St).src n av=σ.src n av:=by cases av<;>rfl
theorem Gp {t:List (Nat×AV)} {M:List (Nat×AO)} {nk:Nat} (H:∀ q∈o.looksAt ops,look q t=look q σ.t):∀ {xs:List Operand},(∀ x∈xs,x∈o.op.operands.toList)->(⟨t,M,nk⟩:St).evs xs=σ.evs xs
 | [],_=>rfl| x::r,h=>by
  unfold St.evs;rw [kC H (h x (by simp)),Gp H λy hy=>h y CY]
theorem DoesM.append {T e n RY k m:Nat} {z:Value} {i:TypeInfo} {x y:Operand} {rows fQ rows':List (List AV)} {av2:AV} {M':List (Nat×AO)} {bP:Nat} (hg:o.guard=none) (ho:o.op=.call { callee:=.builtin .append,args:=#[x,y],argTypes:=#[T,T] }) (hT:P.underlying T=some (.slice e))(hi:P.info? e=some i) (hz:i.zero=some z) (hn:i.size=n) (hby:i.bytes=RY) (hzs:z.cells.size=n) (h0:Nat.blt 0 n=true) (hds:o.dst=some d) (hd:Nat.blt d C.N=true)(hx:σ.ev x=some (.sl k)) (hk:look k σ.M=some (.row e n rows)) (hy:σ.ev y=some av2) (hs:σ.src n av2=some fQ) (hm:σ.nk=m) (hb1:rows.length+fQ.length<=1000000000) (hb2:Nat.ble RY 100000=true) (hrr:rows++fQ=rows') (hM:(m,.row e n rows')::rem k σ.M=M') (hnk:m+1=bP) :DoesM P C ops o σ d (.sl m) M' bP:=by
 subst hM hnk;refine ⟨hg,λt H=>?_⟩;have hmem:∀ q∈[x,y],q∈o.op.operands.toList:=λq hq=>by rw [ho];simp [Op.operands,Call.operands] at hq ⊢;exact hq
 have:=WO.append (P:=P) (C:=C) (σ:=⟨t,σ.M,σ.nk⟩) ho hT hi hz hn hby hzs h0 hds hd ((kC H (hmem x (by simp))).trans hx) hk ((kC H (hmem y (by simp))).trans hy) ((aj9 n av2).trans hs) hm hb1 hb2 hrr;subst hm;exact this
theorem DoesM.build {T e n m q:Nat} {z:Value} {parts:Array (Nat×Operand)} {aW:List AV} {rows:List (List AV)} {M':List (Nat×AO)} {bP:Nat} (hg:o.guard=none) (ho:o.op=.buildSlice T m parts) (hT:P.underlying T=some (.slice e)) (hn:fZ P e=some n) (hz:(P.info? e).bind (·.zero)=some z)(hp:TB 0 parts.toList=true) (hm:parts.toList.length=m) (hb:Nat.ble (m*n) 16777216=true) (hb1:Nat.ble m 16777216=true) (hds:o.dst=some d) (hd:Nat.blt d C.N=true) (hx:σ.evs (parts.toList.map (·.2))=some aW) (hck:ML n aW=true) (hr:aW.map AV.cells=rows) (hq:σ.nk=q) (hM:(q,.row e n rows)::σ.M=M') (hnk:q+1=bP) :DoesM P C ops o σ d (.sl q) M' bP:=by
 subst hM hnk;refine ⟨hg,λt H=>?_⟩;have hmem:∀ x∈parts.toList.map (·.2),x∈o.op.operands.toList:=λx hx'=>by
  rw [ho];simp only [Op.operands];exact hx'
 have:=WO.build (P:=P) (C:=C) (σ:=⟨t,σ.M,σ.nk⟩) ho hT hn hz hp hm hb hb1 hds hd ((Gp H hmem).trans hx) hck hr hq;subst hq;exact this
end
theorem Tr.oJ {C:Cx} {σ:St} {k j m:Nat} {T':TypeId} {cells cells':List AV} (T:TypeId) (n:Nat) (hk:look k σ.M=some (.box T' cells)) (hj:cells[j]?=some (.sc (.slice none 0 0))) (hm:σ.nk=m) (hc:cells.set j (.sl m)=cells') :Tr C σ ((σ.new (.row T n [])).upd k (.box T' cells')):=λG a w ok=>by
 obtain ⟨G',ok',hsl⟩:=ok.nilRow T n;subst hm hc;have hkn:k≠σ.nk:=Nat.ne_of_lt (ok.ob k _ hk).1;have hk':look k (σ.new (.row T n [])).M=some (.box T' cells):=by rw [show look k (σ.new (.row T n [])).M=look k σ.M from ah hkn];exact hk
 obtain ⟨g1,g2,g3,cs,Φ,g4,g5,g6,g7,g8⟩:=ok'.ob k _ hk';refine ⟨G',ok'.aaM hk' ⟨g1,λi av x=>?_,g3,cs,Φ,g4,by simpa using g5,g6,g7,λi av u x y=>?_⟩⟩
 .rw [Uw]at x;exact alF
 .by_cases e:j=i
  .subst e;have hlt:j<cells.length:=(List.getElem?_eq_some_iff.1 hj).1;rw [sK hlt]at x;cases x;have:=((g8 j _ u hj y).r rfl).fM;rw [this];exact .inl hsl
  .rw [pV e]at x;exact g8 i av u x y
theorem aj {P:Program} {f:FuncId} {fn:Func} (h:P.funcs[f]?=some fn)(hn:(fn.name == "runtime.NumGoroutine")=false)(hb:fn.body.isNone=false):∀ vs w,(callFunc f vs).run P w=.ok (.enter f vs) w:=fun vs w=>by
 unfold callFunc
 simp only [Sem.run_bind,run_program,Result.andThen_ok,h,hn,hb,Nz,if_false]
 rfl
theorem aS {P:Program} {C:Cx} {o:Oper} {σ:St} {f:FuncId} {fn:Func} {xs:Array Operand} {ts:Array TypeId} {args:List AV} {res:AV} (hf:P.funcs[f]? = some fn) (h:bC P f args res) (ho:o.op = .call { callee:=.value (.func f),args:=xs,argTypes:=ts }:=by rfl) (hx:σ.evs xs.toList = some args:=by rfl) (hp:args.all AV.pu2 = true:=by rfl) (hn:(fn.name == "runtime.NumGoroutine") = false:=by rfl) (hb:fn.body.isNone = false:=by rfl):WV P C o σ res:=WV.call ho (aj hf hn hb) hx hp h
theorem EC {Q Q':Exit->Act->World->Prop} (h:∀ e a w,Q e a w->Q' e a w)(k:LetsOut Q):LetsOut Q':=let⟨a,w,q⟩:=k;⟨a,w,h _ a w q⟩
theorem akA {P:Program} {o:Oper} {a:Act} {w:World} {K K':Act->World->Prop} {Q Q':Exit->Act->World->Prop} (hk:∀ a w,K a w->K' a w)(hq:∀ e a w,Q e a w->Q' e a w)(h:o.wp P a w K Q):o.wp P a w K' Q':=by
 unfold Oper.wp at *;generalize(execOp a.eval o).run P w=r at *;cases r with
 | ok n w' =>
  cases n<;>simp only [Oper.upon]at h ⊢;case value v=>exact hk _ _ h
  case skip=>exact hk _ _ h
  case defer d=>exact hk _ _ h
  case enter f args =>
   refine h.mono λe w'' x=>?_;cases e with
   | returned v=>exact hk _ _ x| panicked c=>exact hq _ _ _ x| outgrown=>exact EC hq x
  case row r args=>exact h.mono λv w'' x=>hk _ _ x| halt x w' =>
  cases x<;>simp only [Oper.upon]at h ⊢;exact hq _ _ _ h
theorem tZ {P:Program} {ops:Array Oper} {Q Q':Exit->Act->World->Prop}:∀ {l:List Oper} {a:Act} {w:World},wpList P ops Q l a w->(∀ e a w,Q e a w->Q' e a w)->wpList P ops Q' l a w
 | [],a,w,h,hq=>hq _ _ _ h| o::rest,a,w,h,hq=>by
  unfold wpList at *;split at h
  .rename_i hw;rw [if_pos hw];rcases h with h|⟨h1,h2⟩;.exact .inl (akA (λa w x=>tZ x hq) hq h)
   .exact .inr ⟨h1,EC hq h2⟩
  .rename_i hw;rw [if_neg hw];exact tZ h hq
theorem W.meet {P:Program} {C:Cx} {σ:St} {Q Q2:Exit->St->Prop} {x y:Code} (Pm:St)(h:W P C x σ (gU (λs=>Tr C s Pm) Q))(k:W P C y Pm Q2):W P C x σ (gU (λs=>W P C y s Q2) Q) :=W.mono h λe s q=>by cases e with
  | normal=>exact W.tr q k| _=>exact q
theorem WL.ac5 {P:Program} {C:Cx} {σ:St} {ops:Array Oper} {l:List Oper} {Q Q1 Q2:Exit->St->Prop} {x y:Code} (Pm:St)(h:WL P C ops l σ (gU (λs=>W P C x s (gU (λs=>Tr C s Pm) Q)) Q1))(k:W P C y Pm Q2) :WL P C ops l σ (gU (λs=>W P C x s (gU (λs=>W P C y s Q2) Q)) Q1):=λG a w ok =>tZ (h G a w ok) λe a w⟨s,g,q,o⟩=>⟨s,g,by cases e with
  | normal=>exact W.meet Pm q k| _=>exact q,o⟩
def DK(P:Program)(C:Cx)(ops:Array Oper)(l:List Oper)(σ:St)(Q:Exit->St->Prop):Prop:=∃ σ',DL P C ops l σ σ'/\Q .normal σ'
def nD (P:Program)(C:Cx)(ops:Array Oper)(mem:List Bool)(Mc:List (Nat×AO))(dB k:Nat)(l:List Oper)(σ:St)(Q:Exit->St->Prop):Prop:=∃ σ',DM P C ops mem Mc dB k l σ σ'/\Q .normal σ'
section
variable {P:Program} {C:Cx} {σ:St} {ops:Array Oper} {l rest:List Oper} {o:Oper} {d:Tmp} {av:AV} {Q:Exit→St→Prop}
theorem W.Vz {id:Nat} (hm:P.follows .mixedOrders=true)(hB:Region.lexB .any l.toArray=true)(h:DK P C l.toArray l σ Q):W P C (.region id l.toArray true) σ Q :=let⟨_,a,b⟩:=h;W.draw hm hB a b
theorem DK.nil(k:Q .normal σ):DK P C ops [] σ Q:=⟨σ,.nil σ,k⟩
theorem DK.op (hd:o.dst=some d)(hN:Nat.blt d C.N=true)(h:Does P C ops o σ av)(k:DK P C ops rest (σ.put d av) Q):DK P C ops (o::rest) σ Q :=let⟨s,a,b⟩:=k;⟨s,.op o rest d av σ s hd hN h a,b⟩
theorem DK.val (hd:o.dst=some d) (hN:Nat.blt d C.N=true) (hg:qm ops o (σ.only (o.looksAt ops))=some true) (h:WV P C o (σ.only (o.looksAt ops)) av) (k:DK P C ops rest (σ.put d av) Q):DK P C ops (o::rest) σ Q:=DK.op hd hN (.inl ⟨hg,h⟩) k
theorem DK.no (hd:o.dst=some d) (hN:Nat.blt d C.N=true) (hg:qm ops o (σ.only (o.looksAt ops))=some false) (k:DK P C ops rest (σ.put d (.sc undef)) Q):DK P C ops (o::rest) σ Q:=DK.op hd hN (.inr ⟨hg,rfl⟩) k
theorem W.ahu {id:Nat} (mem:List Bool)(Mc:List (Nat×AO))(hm:P.follows .mixedOrders=true)(hB:Region.lexB .any l.toArray=true)(hch:chainB l.toArray mem=true)(SG:bD Mc σ.M)(h:nD P C l.toArray mem Mc σ.nk 0 l σ Q):W P C (.region id l.toArray true) σ Q :=let⟨_,a,b⟩:=h;W.drawM mem Mc hm hB hch SG a b
variable {mem:List Bool} {Mc:List (Nat×AO)} {dB k:Nat}
theorem nD.nil(h:Q .normal σ):nD P C ops mem Mc dB k [] σ Q:=⟨σ,.nil k σ,h⟩
theorem nD.val (hm:mem.getD k false=false)(hd:o.dst=some d)(hN:Nat.blt d C.N=true) {nk:Nat} (hk:nk=dB\/(nk=σ.nk/\iV ops mem k=true))(h:J5 P C ops o σ.t Mc nk av)(r:nD P C ops mem Mc dB (k+1) rest (σ.put d av) Q):nD P C ops mem Mc dB k (o::rest) σ Q :=let⟨s,a,b⟩:=r;⟨s,.val k o rest d av nk σ s hm hd hN hk h a,b⟩
theorem nD.wr {M':List (Nat×AO)} {bP:Nat} (hm:mem.getD k false=true) (hd:o.dst=some d) (hn:Nat.ble σ.nk bP=true) (hs:bD Mc M') (h:DoesM P C ops o σ d av M' bP) (r:nD P C ops mem Mc dB (k+1) rest ⟨(d,av)::σ.t,M',bP⟩ Q):nD P C ops mem Mc dB k (o::rest) σ Q :=let ⟨s,a,b⟩:=r;⟨s,.mem k o rest d av M' bP σ s hm hd hn hs h a,b⟩
end
theorem ahE(z:Value):∀ k:Nat,(List.replicate k [z]).flatten=List.replicate k z
 | 0=>rfl| k+1=>by simp
section
variable {P:Program} {C:Cx} {σ:St} {o:Oper} {d:Tmp}
theorem WO.axr {T e q k:Nat} {z:Value} {i:TypeInfo} {x y:Operand} (ho:o.op=.makeSlice T x y) (hT:P.underlying T=some (.slice e)) (hi:P.info? e=some i) (hz:i.zero=some z) (hn:i.size=1) (hby:Nat.ble i.bytes 1000=true)(hc:∀ k,(madeCells z.cells (k*1)).toList=List.replicate k z) (hz1:z.oneCell'=true) (hds:o.dst=some d) (hd:Nat.blt d C.N=true) (hx:σ.ev x=some (.sc (.int .i64 (k:Nat)))) (hy:σ.ev y=some (.sc (.int .i64 (k:Nat)))) (hk:k<=1000000) (hq:σ.nk=q) :WO P C o σ ((σ.new (.row e 1 (List.replicate k [.sc z]))).put d (.sl q)):=by
 intro G a w ok N Q' hN;have hb:=bG hby;have hbk:i.bytes*k<=281474976710656:=gX (Uu hb hk) (by decide);obtain ⟨w',hrun,hown,hgr⟩:=run_makeSlice_full (P:=P) w C.w0.heap.size T e i z 1 hT hi hz hn .i64 .i64 k au hbk Oh ok.bel.size;have hl:(List.replicate k [z]).length=k:=by simp
 have hsl:(.slice (some ⟨w.heap.size,0,none⟩) k k:Value).ownBlock=some w.heap.size:=rfl;have hlt:w.heap.size<w'.heap.size:=by
  rcases hown.2 with⟨e,_⟩|⟨g,cap,cur,e,_,hh,_⟩;all_goals grind
 have ok':=ok.newObj (w':=w') (S:=λ_=>False) (b:=w.heap.size) (n:=1) (h:=.slice (some ⟨w.heap.size,0,none⟩) k k) (φ:=λx=>x=w.heap.size) (ob:=.row e 1 (List.replicate k [.sc z])) ⟨hgr.os,hgr.tape,hgr.output,hgr.size,λx h1 _=>hgr.block x h1 (by simp)⟩ (λ_ h=>h.elim) (λ_ _ _ _ _ h=>h) (λ_ _ _ h=>h) ⟨uZ,(λg hg=>by grind[fB,su]),by
   rw [fB,qH];refine ⟨λr hr=>by rw [vF hr];rfl,List.replicate k [z],λ_ _ _=>False,by rw [hl,ahE,← hc k];exact yI hown (iT _),by simp,?_,λg hg=>by rw [hsl] at hg;exact (Option.some.inj hg).symm,λ_ _ _ h=>h.elim,λ_ _ _ _ _ h=>h.elim,λj r r' h1 h2=>?_,λj r r' q av u h1 h2 h3 h4=>?_⟩
   .intro r hr u hu;rw [vF hr] at hu;obtain rfl:u=z:=by simpa using hu
    exact hz1
   .exact alD
   .rw [vF (cZ h1)] at h3;rw [vF (cZ h2)] at h4;match q with
    | 0=>cases h3;cases h4;exact .sc _| q+1=>simp at h3⟩ trivial (λx hx=>by
   obtain rfl:x=w.heap.size:=hx;refine ⟨.inl ok.bel.size,hlt,λk o h1 h2=>?_,λp u h1 h2=>?_⟩;.have:=(ok.my k o _ h1 h2).2;omega
   .have:=aQ (ok.fw p u h1);omega);refine lN ?_;simp only [ho,ok.evs hx,ok.evs hy,Sem.run_bind,hrun,Result.andThen_ok,Sem.run_pure,Oper.upon];rw [hds];subst hq;exact hN _ _ _ (ok'.set (d:=some d) (av:=.sl σ.nk) (v:=.slice (some ⟨w.heap.size,0,none⟩) k k) (tY rfl) (.sl _ (vw _)) λx hx=>by cases hx;exact dn hd)
end
end
end Go.Proofs.YthohlofpphjofaaGreatDoor
