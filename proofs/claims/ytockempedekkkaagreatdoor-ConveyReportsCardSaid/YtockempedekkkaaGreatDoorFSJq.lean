/- A walk that knows values as trees: whether a slice is nil; a nil piece's parts read as no rows. -/
import Derived.Test.YtockempedekkkaaGreatDoorFMJq
set_option maxHeartbeats 8000000
set_option maxRecDepth 100000
set_option linter.unusedVariables false
set_option linter.unusedSimpArgs false
namespace Go.Proofs.YtockempedekkkaaGreatDoor
section
open Go.RowKit Go.WideShapes Go.ChangeShapes Go.Joins Go.Deep
section
variable {H:Type} {enc:TypeId×Value→H} {P:Program} {w w':World} {base:Nat} {spare:Nat→Bool} {held:Bool}
theorem trodAll_carry:∀ {ts:List TypeId} {vs:List Value} {ds:List (DataW H)} {ps:List MemPlace},DataW.TrodAll enc P w base spare held ts vs ds ps→(∀ p∈ps,w.sameAt w' p)→DataW.TrodAll enc P w' base spare held ts vs ds ps
 | [],[],[],_,h,_=>h
 | _::_,_::_,_::_,_,⟨p,q,⟨n,h1⟩,h2,e⟩,hs=>⟨p,q,⟨n,DataW.trod_carry n _ _ _ h1 (fun x hx=>hs x (by rw [e];exact List.mem_append_left _ hx))⟩,trodAll_carry h2 (fun x hx=>hs x (by rw [e];exact List.mem_append_right _ hx)),e⟩
theorem args_keep {W W':World} {T:TypeId→Prop} {sp:Nat→Bool} (K:Kids P T)(hz:∀ t e,T t→P.underlying t=some (.slice e)→0<P.cellsOf e) {ts:List TypeId} {vs:List Value} {ds:List (DataW H)} {ps:List MemPlace} (hT:∀ t∈ts,T t)
  (h:DataW.TrodAll enc P W 0 (fun _=>true) true ts vs ds ps)(hb:Below W.heap.size W W')(hlt:∀ p∈ps,p.block<W.heap.size)(hs:∀ p∈ps,sp p.block=true):DataW.TrodAll enc P W' 0 sp true ts vs ds ps :=
 DataW.TrodAll.respare K hz hT (trodAll_carry h fun p hp=>hb.same (hlt p hp)) hs
end
theorem typesKids:Kids Tryz.prog (·<Tryz.prog.types.size):=kids_rows (by kernel_rfl) (by kernel_rfl)
theorem slicesFull:∀ t e,t<Tryz.prog.types.size→Tryz.prog.underlying t=some (.slice e)→0<Tryz.prog.cellsOf e:=slices_full_of Tryz.prog (by kernel_rfl)
end
section
open Go.RowKit
section
variable {P:Program} {C:Cx} {σ σ':St} {G G':Gh} {a:Act} {w w':World} {ops:Array Oper} {Q:Exit→St→Prop}
def DoesS (P:Program) (C:Cx) (ops:Array Oper) (o:Oper) (σ:St) (av:AV) (M':List (Nat×AO)) (nk':Nat):Prop :=
 o.guard=none∧∀ t,(∀ q∈o.looksAt ops,look q t=look q σ.t)→WO P C o ⟨t,σ.M,σ.nk⟩ ⟨ent1 o.dst true av++t,M',nk'⟩
inductive DS (P:Program) (C:Cx) (ops:Array Oper) (mem:List Bool) (Mc:List (Nat×AO)) (nk0:Nat):Nat→List Oper→St→St→Prop
 | nil (k:Nat) (σ:St):DS P C ops mem Mc nk0 k [] σ σ
 | val (k:Nat) (o:Oper) (rest:List Oper) (d:Tmp) (av:AV) (nk:Nat) (σ σ':St):mem.getD k false=false→o.dst=some d→Nat.blt d C.N=true→(nk=nk0∨(nk=σ.nk∧behindB ops mem k=true))→DoesV P C ops o σ.t Mc nk av →
   DS P C ops mem Mc nk0 (k+1) rest (σ.put d av) σ'→DS P C ops mem Mc nk0 k (o::rest) σ σ'
 | mem (k:Nat) (o:Oper) (rest:List Oper) (av:AV) (M':List (Nat×AO)) (nk':Nat) (σ σ':St):mem.getD k false=true→Nat.ble σ.nk nk'=true→msSub Mc M'→DoesS P C ops o σ av M' nk' →
   DS P C ops mem Mc nk0 (k+1) rest ⟨ent1 o.dst true av++σ.t,M',nk'⟩ σ'→DS P C ops mem Mc nk0 k (o::rest) σ σ'
theorem DS.data {mem:List Bool} {Mc:List (Nat×AO)} {nk0 k:Nat} {l:List Oper} {σ σ':St} (h:DS P C ops mem Mc nk0 k l σ σ'):∃ (avs:Nat→AV) (ms:Nat→List (Nat×AO)) (nks:Nat→Nat),ms 0=σ.M∧nks 0=σ.nk ∧
  σ'=⟨ents l.toArray avs (fun _=>true) l.length++σ.t,ms l.length,nks l.length⟩ ∧
  ∀ (j:Nat) (oj:Oper),l[j]?=some oj →
   ((mem.getD (k+j) false=false∧(∃ d,oj.dst=some d∧d<C.N)∧ms (j+1)=ms j∧nks (j+1)=nks j∧∃ nk,(nk=nk0∨(nk=nks j∧behindB ops mem (k+j)=true))∧DoesV P C ops oj (ents l.toArray avs (fun _=>true) j++σ.t) Mc nk (avs j)) ∨
    (mem.getD (k+j) false=true∧nks j≤nks (j+1)∧msSub Mc (ms (j+1))∧DoesS P C ops oj ⟨ents l.toArray avs (fun _=>true) j++σ.t,ms j,nks j⟩ (avs j) (ms (j+1)) (nks (j+1)))):=by
 have key:∀ (o:Oper) (rest:List Oper) (av:AV) (avs:Nat→AV),∀ m,m≤rest.length→ents (o::rest).toArray (fun j=>if j=0 then av else avs (j-1)) (fun _=>true) (m+1)=ents rest.toArray avs (fun _=>true) m++ent1 o.dst true av:=by
  intro o rest av avs m
  induction m with
  | zero=>intro _;simp [ents]
  | succ m ihm =>
   intro hm
   rw [ents,ihm (by omega),ents]
   simp
 induction h with
 | nil k σ=>exact ⟨fun _=>.sc undef,fun _=>σ.M,fun _=>σ.nk,rfl,rfl,rfl,fun j oj h=>by simp at h⟩
 | val k o rest d av nk σ σ' hm hd hN hq hdo _ ih =>
  obtain ⟨avs,ms,nks,m0,n0,e1,e2⟩:=ih
  have hent:ent1 o.dst true av=[(d,av)]:=by rw [hd];rfl
  refine ⟨fun j=>if j=0 then av else avs (j-1),fun j=>if j=0 then σ.M else ms (j-1),fun j=>if j=0 then σ.nk else nks (j-1),rfl,rfl,?_,fun j oj hj=>?_⟩
  ·rw [e1,List.length_cons,key o rest av avs _ (Nat.le_refl _),hent]
   simp [St.put]
  ·cases j with
   | zero =>
    cases hj
    exact .inl ⟨hm,⟨d,hd,of_blt hN⟩,m0,n0,nk,hq,by simpa [ents] using hdo⟩
   | succ j =>
    have hj':rest[j]?=some oj:=by simpa using hj
    have q2:=e2 j oj hj'
    rw [key o rest av avs j (by have:=(List.getElem?_eq_some_iff.1 hj').1;omega),hent]
    simpa [St.put,Nat.add_assoc,Nat.add_comm 1 j] using q2
 | mem k o rest av M' nk' σ σ' hm hn hsub hdo _ ih =>
  obtain ⟨avs,ms,nks,m0,n0,e1,e2⟩:=ih
  refine ⟨fun j=>if j=0 then av else avs (j-1),fun j=>if j=0 then σ.M else ms (j-1),fun j=>if j=0 then σ.nk else nks (j-1),rfl,rfl,?_,fun j oj hj=>?_⟩
  ·rw [e1,List.length_cons,key o rest av avs _ (Nat.le_refl _)]
   simp
  ·cases j with
   | zero =>
    cases hj
    refine .inr ⟨hm,?_,?_,?_⟩
    ·show σ.nk≤nks 0
     rw [n0];exact Nat.le_of_ble_eq_true hn
    ·show msSub Mc (ms 0)
     rw [m0];exact hsub
    ·show DoesS P C ops o _ av (ms 0) (nks 0)
     rw [m0,n0];simpa [ents] using hdo
   | succ j =>
    have hj':rest[j]?=some oj:=by simpa using hj
    have q2:=e2 j oj hj'
    rw [key o rest av avs j (by have:=(List.getElem?_eq_some_iff.1 hj').1;omega)]
    simpa [Nat.add_assoc,Nat.add_comm 1 j] using q2
theorem WA.drawS {l:List Oper} (mem:List Bool) (Mc:List (Nat×AO)) (hB:Region.lexB .any l.toArray=true) (hch:chainB l.toArray mem=true) (hMc:msSub Mc σ.M) (h:DS P C l.toArray mem Mc σ.nk 0 l σ σ') (k:Q .normal σ'):WA P C l.toArray σ Q:=by
 intro G a w ok
 obtain ⟨avs,ms,nks,m0,n0,e1,e2⟩:=h.data
 simp only [Nat.zero_add] at e2
 simp only [Region.lexB,Bool.and_eq_true] at hB
 obtain ⟨FA,FB⟩:=lex_facts (ops:=l.toArray) l.toArray.size 0 (Array.replicate l.toArray.size false) (by simp) (by simp) (fun i hi=>by simp [Array.getD_eq_getD_getElem?,hi] at hi ⊢;simp [hi]) hB.2
 have sz:l.toArray.size=l.length:=by simp
 have mconst:∀ i,i < l.length→mem.getD i false=false→ms (i+1)=ms i∧nks (i+1)=nks i:=fun i hi hf=>by
  have q:=e2 i l[i] (List.getElem?_eq_getElem hi)
  rcases q with ⟨_,_,a,b,_⟩|⟨a,_⟩
  ·exact ⟨a,b⟩
  ·rw [hf] at a;cases a
 have mmono:∀ i,i < l.length→nks i≤nks (i+1):=fun i hi=>by
  have q:=e2 i l[i] (List.getElem?_eq_getElem hi)
  rcases q with ⟨_,_,_,b,_⟩|⟨_,b,_⟩
  ·rw [b];exact Nat.le_refl _
  ·exact b
 have hnp0:C.np≤nks 0:=by rw [n0];exact ok.df.2.1
 have hnpj:∀ i,i≤l.length→C.np≤nks i:=fun i=>by
  induction i with
  | zero=>exact fun _=>hnp0
  | succ i ih=>exact fun h=>Nat.le_trans (ih zqo) (mmono i zqo)
 have msub:∀ i,i≤l.length→msSub Mc (ms i):=fun i=>by
  induction i with
  | zero=>intro _;rw [m0];exact hMc
  | succ i ih =>
   intro hi
   have q:=e2 i l[i] (List.getElem?_eq_getElem (by omega))
   rcases q with ⟨_,_,a,_⟩|⟨_,_,a,_⟩
   ·rw [a];exact ih (by omega)
   ·exact a
 have hchj:∀ j,j < l.length→mem.getD j false=true→behindB l.toArray mem j=true:=fun j hj hmj=>by
  have h1:(!(mem.getD j false)|| behindB l.toArray mem j)=true:=List.all_eq_true.1 hch j (by simpa using hj)
  rw [hmj] at h1;exact h1
 have hbeh:∀ i j,i < j→behindB l.toArray mem j=true→mem.getD i false=true→needs l.toArray i l.toArray.size j=true:=fun i j hij hb hmi=>by
  have h1:(!(mem.getD i false)|| needs l.toArray i l.toArray.size j)=true:=List.all_eq_true.1 hb i (List.mem_range.2 hij)
  rw [hmi] at h1;exact h1
 let cu:Array Bool→Nat:=fun listed=>cur (fun i=>mem.getD i false) (fun i=>listed.getD i false) l.length
 let KS:Array Bool→St:=fun listed=>⟨ents l.toArray avs (fun i=>listed.getD i false) l.length++σ.t,ms (cu listed),nks (cu listed)⟩
 have key:∀ (fuel:Nat) (listed:Array Bool) (G:Gh) (a:Act) (w:World),listed.size=l.length→(∀ j oj,l.toArray[j]?=some oj→listed.getD j false=true→∀ e∈oj.after,Region.binds .any e=true→listed.getD e.on false=true) →
   (List.range l.length).countP (fun i=>!listed.getD i false)≤fuel→Ok C (KS listed) G a w→wpAny P .any l.toArray (Post C Q) fuel listed a w:=by
  intro fuel
  have done:∀ (listed:Array Bool) (G:Gh) (a:Act) (w:World),listed.size=l.length→Region.ready .any l.toArray listed=[]→Ok C (KS listed) G a w→Post C Q .normal a w:=by
   intro listed G a w hsz hr ok
   have hall:∀ n i,i < n→i < l.length→listed.getD i false=true:=by
    intro n
    induction n with
    | zero=>intro i h;omega
    | succ n ih =>
     intro i hi hlt
     by_cases e:i < n
     ·exact ih i e hlt
     ·have hin:i=n:=by omega
      subst hin
      cases hli:listed.getD i false with
      | true=>rfl
      | false =>
       have hoi:l.toArray[i]?=some l[i]:=by simp [hlt]
       have:i∈Region.ready .any l.toArray listed:=mem_ready.2 ⟨by
        have:listed.getD i true=listed.getD i false:=by simp [Array.getD_eq_getD_getElem?,hsz,hlt]
        rw [this];exact hli,l[i],hoi,fun e he hb=>ih e.on (FA i l[i] (Nat.zero_le _) hoi e he hb) (by have:=FA i l[i] (Nat.zero_le _) hoi e he hb;omega)⟩
       rw [hr] at this;cases this
   have hcu:ms (cu listed)=ms l.length∧nks (cu listed)=nks l.length:=by
    have hs:∀ i,i < l.length→(fun i=>mem.getD i false) i=true→(fun i=>listed.getD i false) i=decide (i < l.length):=fun i hi _=>by
     show listed.getD i false=_
     rw [hall (i+1) i (by omega) hi,decide_eq_true hi]
    have h1:=cur_at (f:=ms) (fun i hi hf=>(mconst i hi hf).1) hs l.length (Nat.le_refl _)
    have h2:=cur_at (f:=nks) (fun i hi hf=>(mconst i hi hf).2) hs l.length (Nat.le_refl _)
    rw [Nat.min_self] at h1 h2
    exact ⟨h1,h2⟩
   refine ⟨σ',G,k,ok.congr_ (fun t=>?_) (by rw [e1];exact hcu.1.symm) (by rw [e1];exact hcu.2.symm)⟩
   rw [e1]
   show look t (_++_)=look t (_++_)
   rw [look_app,look_app,ents_agree (s':=fun i=>listed.getD i false) fun i hi _=>(hall (i+1) i (by omega) hi).symm]
  induction fuel with
  | zero =>
   intro listed G a w hsz hcl hf ok
   have hr:Region.ready .any l.toArray listed=[]:=by
    apply List.eq_nil_iff_forall_not_mem.2
    intro j hj
    obtain ⟨h1,oj,h2,_⟩:=mem_ready.1 hj
    have hlt:j < l.length:=by have:=(Array.getElem?_eq_some_iff.1 h2).1;omega
    have h3:listed.getD j false=false:=by
     have:listed.getD j false=listed.getD j true:=by simp [Array.getD_eq_getD_getElem?,hsz,hlt]
     rw [this];exact h1
    have:=List.countP_eq_zero.1 (Nat.le_zero.1 hf) j (List.mem_range.2 hlt)
    simp [h3] at this
   exact ⟨hr,done listed G a w hsz hr ok⟩
  | succ fuel ih =>
   intro listed G a w hsz hcl hf ok
   refine ⟨fun hr=>done listed G a w hsz hr ok,fun j hj=>?_⟩
   obtain ⟨h1,oj,h2,h4⟩:=mem_ready.1 hj
   have hlt:j < l.length:=by have:=(Array.getElem?_eq_some_iff.1 h2).1;omega
   have h3:listed.getD j false=false:=by
    have:listed.getD j false=listed.getD j true:=by simp [Array.getD_eq_getD_getElem?,hsz,hlt]
    rw [this];exact h1
   have hlj:l[j]?=some oj:=by simpa using h2
   have hdoes:=e2 j oj hlj
   have hlook:∀ t∈oj.looksAt l.toArray,∀ i,i < l.length→(l.toArray[i]?).bind (·.dst)=some t→listed.getD i false=decide (i < j):=by
    intro t ht i hi hdi
    have hoi:l.toArray[i]?=some l[i]:=by simp [hi]
    rw [hoi] at hdi
    have hdi:l[i].dst=some t:=hdi
    rcases Nat.lt_trichotomy i j with hij|hij|hij
    ·rw [decide_eq_true hij]
     by_cases hno:∃ e,e∈oj.after∧Region.binds .any e=true∧e.on=i
     ·obtain ⟨e,he,hb,rfl⟩:=hno
      exact h4 e he hb
     ·exact absurd ht ((Oper.apart_spec (FB i j _ _ (Nat.zero_le _) hij hoi h2 fun e he hb h=>hno ⟨e,he,hb,h⟩)).1 t hdi)
    ·subst hij;rw [h3];simp
    ·rw [decide_eq_false (by omega)]
     cases hli:listed.getD i false with
     | false=>rfl
     | true =>
      by_cases hno:∃ e,e∈(l[i]).after∧Region.binds .any e=true∧e.on=j
      ·obtain ⟨e,he,hb,he2⟩:=hno
       have:=hcl i _ hoi hli e he hb
       rw [he2,h3] at this;cases this
      ·exact absurd ht ((Oper.apart_spec (FB j i _ _ (Nat.zero_le _) hij h2 hoi fun e he hb h=>hno ⟨e,he,hb,h⟩)).2.2 t hdi)
   have hents:∀ t,look t (ents l.toArray avs (fun _=>true) j)=look t (ents l.toArray avs (fun i=>decide (i < j)) l.length):=by
    intro t
    have:∀ m,j≤m→look t (ents l.toArray avs (fun i=>decide (i < j)) m)=look t (ents l.toArray avs (fun i=>decide (i < j)) j):=by
     intro m
     induction m with
     | zero=>intro h;rw [Nat.le_zero.1 h]
     | succ m ihm =>
      intro h
      by_cases e:j=m+1
      ·rw [e]
      ·rw [ents,look_app,look_ent1,if_neg (fun x=>by have:=of_decide_eq_true x.1;omega),ihm (by omega)];rfl
    rw [this l.length (by omega)]
    exact ents_agree fun i hi _=>(decide_eq_true hi).symm
   have hlooks:∀ t∈oj.looksAt l.toArray,look t (KS listed).t=look t (ents l.toArray avs (fun _=>true) j++σ.t):=fun t ht=>by
    show look t (_++_)=look t (_++_)
    rw [look_app,look_app,hents t,ents_agree fun i hi hdi=>(hlook t ht i hi hdi)]
   have hslots:∀ t,look t (ents l.toArray avs (fun i=>(listed.setIfInBounds j true).getD i false) l.length++σ.t)=look t (ent1 oj.dst true (avs j)++(KS listed).t):=by
    intro t
    by_cases et:oj.dst=some t
    ·have hR:look t (ent1 oj.dst true (avs j)++(KS listed).t)=some (avs j):=by
      rw [look_app,look_ent1,if_pos ⟨rfl,et⟩];rfl
     rw [hR,look_app,ents_top (j:=j) hlt (by rw [h2];exact et) (by simp [Array.getD_eq_getD_getElem?,hsz,hlt]) fun i hij hi hdi=>?_]
     ·rfl
     ·have hoi:l.toArray[i]?=some l[i]:=by simp [hi]
      rw [hoi] at hdi
      have hdi:l[i].dst=some t:=hdi
      have hne:j≠i:=by omega
      cases hli:listed.getD i false with
      | false=>simpa [Array.getD_eq_getD_getElem?,Array.getElem?_setIfInBounds_ne hne] using hli
      | true =>
       by_cases hno:∃ e,e∈(l[i]).after∧Region.binds .any e=true∧e.on=j
       ·obtain ⟨e,he,hb,he2⟩:=hno
        have:=hcl i _ hoi hli e he hb
        rw [he2,h3] at this;cases this
       ·exact absurd hdi ((Oper.apart_spec (FB j i _ _ (Nat.zero_le _) hij h2 hoi fun e he hb h=>hno ⟨e,he,hb,h⟩)).2.1 t et)
    ·have hR:look t (ent1 oj.dst true (avs j)++(KS listed).t)=look t (KS listed).t:=by
      rw [look_app,look_ent1,if_neg (fun x=>et x.2)];rfl
     rw [hR]
     show _=look t (_++_)
     rw [look_app,look_app]
     congr 1
     refine ents_agree fun i hi hdi=>?_
     by_cases e2:j=i
     ·subst e2
      rw [h2] at hdi
      exact absurd hdi et
     ·simp [Array.getD_eq_getD_getElem?,Array.getElem?_setIfInBounds_ne e2]
   have hset:∀ i,j≠i→(listed.setIfInBounds j true).getD i false=listed.getD i false:=fun i e=>by simp [Array.getD_eq_getD_getElem?,Array.getElem?_setIfInBounds_ne e]
   have hsetj:(listed.setIfInBounds j true).getD j false=true:=by simp [Array.getD_eq_getD_getElem?,hsz,hlt]
   have hclose:∀ i oi,l.toArray[i]?=some oi→(listed.setIfInBounds j true).getD i false=true→∀ e∈oi.after,Region.binds .any e=true→(listed.setIfInBounds j true).getD e.on false=true:=by
    intro i oi hi hli e he hb
    have mono:∀ q,listed.getD q false=true→(listed.setIfInBounds j true).getD q false=true:=fun q hq=>by
     by_cases e:j=q
     ·subst e;rw [hq] at h3;cases h3
     ·rw [hset q e];exact hq
    by_cases e2:j=i
    ·subst e2
     rw [h2] at hi;cases hi
     exact mono _ (h4 e he hb)
    ·refine mono _ (hcl i oi hi ?_ e he hb)
     rw [← hset i e2];exact hli
   have hcount:(List.range l.length).countP (fun i=>!(listed.setIfInBounds j true).getD i false)≤fuel:=by
    have:=countP_lt (p:=fun i=>!listed.getD i false) (q:=fun i=>!(listed.setIfInBounds j true).getD i false) (fun i hi=>by
       by_cases e:j=i
       ·subst e;rw [hsetj] at hi;cases hi
       ·rw [hset i e] at hi;exact hi) hlt (by simp only [h3];rfl) (by simp only [hsetj];rfl)
    omega
   unfold wpOp
   simp only [h2]
   rcases hdoes with ⟨hmf,⟨d,hd,hdN⟩,hmc,hnc,nk,hnk,hmi,hti,hdo⟩|⟨hmt,hnle,hsub,hgd,hdo⟩
   ·-- memory stays
    have hot:onlyT (KS listed).t (oj.looksAt l.toArray)=onlyT (ents l.toArray avs (fun _=>true) j++σ.t) (oj.looksAt l.toArray):=onlyT_congr hlooks
    have hnkle:nk≤nks (cu listed):=by
     rcases hnk with rfl|⟨rfl,hbj⟩
     ·have:=cur_ge (f:=nks) (j:=0) (s:=fun i=>listed.getD i false) (mem:=fun i=>mem.getD i false) (fun i hi hf=>(mconst i hi hf).2) mmono (fun i _ h=>by omega) l.length (Nat.le_refl _)
      rw [Nat.min_zero,n0] at this
      exact this
     ·have:=cur_ge (f:=nks) (j:=j) (s:=fun i=>listed.getD i false) (mem:=fun i=>mem.getD i false) (fun i hi hf=>(mconst i hi hf).2) mmono (fun i hi hij hmi=>needs_ready hcl h2 h4 _ (hbeh i j hij hbj hmi)) l.length (Nat.le_refl _)
      rw [show min l.length j=j by omega] at this
      exact this
    have okO:Ok C ⟨onlyT (ents l.toArray avs (fun _=>true) j++σ.t) (oj.looksAt l.toArray),Mc,nk⟩ G a w :=
     ok.few (hnp:=by rcases hnk with h|⟨h,_⟩<;>rw [h]<;>first|exact hnpj j (by omega)|(rw [← n0];exact hnp0)) (ht:=fun i av hx=>⟨by rw [← hot] at hx;exact look_onlyT hx,tsInn_at hti i av hx⟩) (hM:=fun q o hx=>⟨msSub_at (msub _ (cur_le _)) q o hx,(msInn_at hmi q o hx).1,(msInn_at hmi q o hx).2⟩)
    have next:∀ (v:Value) (G':Gh) (w':World),Ok C (KS listed) G' a w'→R G' (avs j) v→Bd nk (avs j)→wpAny P .any l.toArray (Post C Q) fuel (listed.setIfInBounds j true) (a.put oj.dst v) w':=by
     intro v G' w' ok' hr hb
     have ok2:=ok'.set (d:=some d) hr (hb.mono hnkle) fun x hx=>by cases hx;exact hdN
     rw [hd]
     have hcu:cu (listed.setIfInBounds j true)=cu listed:=cur_congr fun i hi hmi=>by
      by_cases e:j=i
      ·subst e;rw [hmf] at hmi;cases hmi
      ·exact hset i e
     exact ih (listed.setIfInBounds j true) G' _ w' (by simpa using hsz) hclose hcount (ok2.congr_ (fun t=>by rw [hslots t,hd];rfl) (by show ms _=ms _;rw [hcu]) (by show nks _=nks _;rw [hcu]))
    rcases hdo with ⟨hg,hv⟩|⟨hg,hv⟩
    ·rw [if_pos (guardK_wanted okO hg)]
     exact .inl (hv G a w okO _ _ fun v G' w' hk hr hb=>next v G' w' (hk _ _ ok) hr hb)
    ·rw [if_neg (by rw [guardK_wanted okO hg];simp)]
     exact next undef G w ok (by rw [hv];exact .pu _ _ (.sc _)) (by rw [hv];exact .sc _)
   ·-- memory is written
    have hbj:=hchj j hlt hmt
    have hst:∀ i,i < l.length→mem.getD i false=true→listed.getD i false=decide (i < j):=fun i hi hmi=>by
     rcases Nat.lt_trichotomy i j with hij|hij|hij
     ·rw [decide_eq_true hij]
      exact needs_ready hcl h2 h4 _ (hbeh i j hij hbj hmi)
     ·subst hij;rw [h3];simp
     ·rw [decide_eq_false (by omega)]
      cases hli:listed.getD i false with
      | false=>rfl
      | true =>
       have:=needs_listed hcl _ _ (hbeh j i hij (hchj i hi hmi) hmt) hli
       rw [h3] at this;cases this
    have hM:ms (cu listed)=ms j∧nks (cu listed)=nks j:=by
     have h1:=cur_at (f:=ms) (fun i hi hf=>(mconst i hi hf).1) hst l.length (Nat.le_refl _)
     have h2:=cur_at (f:=nks) (fun i hi hf=>(mconst i hi hf).2) hst l.length (Nat.le_refl _)
     rw [show min l.length j=j by omega] at h1 h2
     exact ⟨h1,h2⟩
    have hst':∀ i,i < l.length→mem.getD i false=true→(listed.setIfInBounds j true).getD i false=decide (i < j+1):=fun i hi hmi=>by
     by_cases e:j=i
     ·subst e;rw [hsetj];simp
     ·rw [hset i e,hst i hi hmi]
      have:(i < j)↔(i < j+1):=by omega
      simp [this]
    have hM':ms (cu (listed.setIfInBounds j true))=ms (j+1)∧nks (cu (listed.setIfInBounds j true))=nks (j+1):=by
     have h1:=cur_at (f:=ms) (fun i hi hf=>(mconst i hi hf).1) hst' l.length (Nat.le_refl _)
     have h2:=cur_at (f:=nks) (fun i hi hf=>(mconst i hi hf).2) hst' l.length (Nat.le_refl _)
     rw [show min l.length (j+1)=j+1 by omega] at h1 h2
     exact ⟨h1,h2⟩
    rw [if_pos (by simp [Region.wanted,hgd])]
    have ok1:Ok C ⟨(KS listed).t,ms j,nks j⟩ G a w:=ok.congr_ (fun _=>rfl) (by exact hM.1.symm) (by exact hM.2.symm)
    refine .inl (hdo (KS listed).t hlooks G a w ok1 _ _ fun G' a' w' ok'=>?_)
    exact ih (listed.setIfInBounds j true) G' a' w' (by simpa using hsz) hclose hcount (ok'.congr_ hslots (by exact hM'.1) (by exact hM'.2))
 have hcu0:cu (Array.replicate l.toArray.size false)=0:=by
  have:∀ m,cur (fun i=>mem.getD i false) (fun i=>(Array.replicate l.toArray.size false).getD i false) m=0:=by
   intro m
   induction m with
   | zero=>rfl
   | succ m ih=>unfold cur;rw [if_neg (fun x=>by have:=x.2;rw [rep_getD] at this;cases this),ih]
  exact this _
 refine key _ (Array.replicate l.toArray.size false) G a _ (by simp) (fun j oj _ h=>?_) ?_ (ok.drew.congr_ (fun t=>?_) (by show ms _=_;rw [hcu0,m0]) (by show nks _=_;rw [hcu0,n0]))
 ·rw [rep_getD] at h;cases h
 ·rw [sz]
  exact Nat.le_trans List.countP_le_length (by simp)
 ·show look t (_++_)=_
  rw [look_app,ents_none fun i hi _=>?_]
  ·rfl
  ·exact rep_getD _ _
end
end
section
open Go.RowKit
section
variable {P:Program} {C:Cx} {σ:St} {o:Oper} {d:Tmp} {av:AV} {ops:Array Oper} {rest l:List Oper} {Q:Exit→St→Prop} {mem:List Bool} {Mc:List (Nat×AO)} {nk0 k:Nat}
def DSK (P:Program)(C:Cx)(ops:Array Oper)(mem:List Bool)(Mc:List (Nat×AO))(nk0 k:Nat)(l:List Oper)(σ:St)(Q:Exit→St→Prop):Prop:=∃ σ',DS P C ops mem Mc nk0 k l σ σ'∧Q .normal σ'
theorem DSK.nil(h:Q .normal σ):DSK P C ops mem Mc nk0 k [] σ Q:=⟨σ,.nil k σ,h⟩
theorem DSK.v0 (hd:memB C.N ops mem Mc k nk0 σ.t o=some (d,true)) (h:WV P C o ⟨onlyT σ.t (o.looksAt ops),Mc,nk0⟩ av) (r:DSK P C ops mem Mc nk0 (k+1) rest (σ.put d av) Q):DSK P C ops mem Mc nk0 k (o::rest) σ Q:=by
 obtain ⟨a,b,c,e,f,g⟩:=memB_of hd
 obtain ⟨s,x,y⟩:=r
 exact ⟨s,.val k o rest d av nk0 σ s a b c (.inl rfl) ⟨e,f,.inl ⟨g,h⟩⟩ x,y⟩
theorem DSK.wr {M':List (Nat×AO)} {nk':Nat} (av:AV) (hm:mem.getD k false=true) (hn:Nat.ble σ.nk nk'=true) (hs:msSub Mc M') (h:DoesS P C ops o σ av M' nk') (r:DSK P C ops mem Mc nk0 (k+1) rest ⟨ent1 o.dst true av++σ.t,M',nk'⟩ Q):DSK P C ops mem Mc nk0 k (o::rest) σ Q:=by
 obtain ⟨s,x,y⟩:=r
 exact ⟨s,.mem k o rest av M' nk' σ s hm hn hs h x,y⟩
theorem DSK.st (hd:memB C.N ops mem Mc k nk0 σ.t o=some (d,true)) (h:stepV P ⟨onlyT σ.t (o.looksAt ops),Mc,nk0⟩ o.op=some av) (r:DSK P C ops mem Mc nk0 (k+1) rest (σ.put d av) Q):DSK P C ops mem Mc nk0 k (o::rest) σ Q:=DSK.v0 hd (stepV_of rfl h) r
theorem DSK.idx {rows:List (List AV)} {z:Int} {x:List AV} (hd:memB C.N ops mem Mc k nk0 σ.t o=some (d,true)) (h:idxV P ⟨onlyT σ.t (o.looksAt ops),Mc,nk0⟩ o.op=some (rows,z)) (h0:0≤z) (hr:rows[z.toNat]?=some x) (r:DSK P C ops mem Mc nk0 (k+1) rest (σ.put d (.pr x)) Q):DSK P C ops mem Mc nk0 k (o::rest) σ Q:=DSK.v0 hd (idxV_of h h0 hr) r
theorem DSK.al {T:TypeId} {z:Value} {l:List AV} (hd:wrB mem C.N k o=some d) (ho:o.op=.alloc T) (hz:(P.info? T).bind (·.zero)=some z) (hl:z.cells.toList.map .sc=l) (hs:msSub Mc ((σ.nk,.box T l)::σ.M))
  (r:DSK P C ops mem Mc nk0 (k+1) rest ⟨(d,.pt σ.nk 0 0)::σ.t,(σ.nk,.box T l)::σ.M,σ.nk+1⟩ Q):DSK P C ops mem Mc nk0 k (o::rest) σ Q:=by
 obtain ⟨a,b,c,e⟩:=wrB_of hd
 have he:ent1 o.dst true (.pt σ.nk 0 0)=[(d,.pt σ.nk 0 0)]:=by rw [b];rfl
 refine DSK.wr (.pt σ.nk 0 0) a (Nat.ble_eq_true_of_le (Nat.le_succ _)) hs ⟨c,fun t _=>?_⟩ (by rw [he];exact r)
 rw [he]
 exact WO.alloc (σ:=⟨t,σ.M,σ.nk⟩) ho hz b e hl rfl
theorem DSK.sto {T m:Nat} {x y:Operand} {q i j:Nat} {ob ob':AO} {l:List AV} {M2:List (Nat×AO)} (hm:mem.getD k false=true) (hg:o.guard=none) (hds:o.dst=none) (ho:o.op=.store T x y) (hn:sizeB P T=some m) (hx:σ.ev x=some (.pt q i j)) (hk:look q σ.M=some ob) (hy:σ.ev y=some av)
  (hB:av.cellB=true) (hl:av.cells=l) (hlm:l.length=m) (h1:l.all AV.oneB=true) (hp:ob.put i j l=some ob') (hM:remS q σ.M=some M2) (hs:msSub Mc ((q,ob')::M2)) (r:DSK P C ops mem Mc nk0 (k+1) rest ⟨σ.t,(q,ob')::M2,σ.nk⟩ Q):DSK P C ops mem Mc nk0 k (o::rest) σ Q:=by
 have he:∀ av,ent1 o.dst true av=[]:=fun av=>by rw [hds];rfl
 refine DSK.wr (.sc undef) hm (Nat.ble_eq_true_of_le (Nat.le_refl _)) hs ⟨hg,fun t H=>?_⟩ (by rw [he];exact r)
 rw [he]
 have hmem:∀ z∈[x,y],z∈o.op.operands.toList:=fun z hz=>by rw [ho];simp [Op.operands] at hz ⊢;exact hz
 rw [remS_eq hM]
 exact wo_rem (WO.store (σ:=⟨t,σ.M,σ.nk⟩) ho hds hn ((ev_agree H (hmem x (by simp))).trans hx) hk ((ev_agree H (hmem y (by simp))).trans hy) hB hl hlm h1 hp)
theorem WA.ds (mem:List Bool)(ms:List Nat)(hB:Region.lexB .any l.toArray=true)(hch:chainB l.toArray mem=true)(hMc:msSub (onlyM σ.M ms) σ.M)
  (h:DSK P C l.toArray mem (onlyM σ.M ms) σ.nk 0 l σ Q):WA P C l.toArray σ Q:=let⟨_,a,b⟩:=h;WA.drawS mem (onlyM σ.M ms) hB hch hMc a b
end
end
section
open Go.RowKit
def sgF(evs:List Ev):Nat→Int×Bool×Bool
 | 0=>(0,false,false)
 | k+1=>match evs[k]? with
  | some e=>if e.val=0 then sgF evs k else(e.val,e.dot,e.three)
  | none=>sgF evs k
def eSig (x:Int×Bool×Bool):List AV:=[.sc (.int .i64 x.1),.sc (.bool x.2.1),.sc (.bool x.2.2)]
end
section
open Go.RowKit
structure Va where
 kd:Int
 pl:Int
 ev:Ev
def sgW(e:Ev)(s:Int×Bool×Bool):Ev:={ e with val:=s.1,dot:=s.2.1,three:=s.2.2 }
def plN (evs:List Ev):Nat→List Ev
 | 0=>[]
 | k+1=>plN evs k++match evs[k]? with
  | some e=>[sgW e (sgF evs (k+1))]
  | none=>[]
theorem plN_at {evs:List Ev} {k:Nat} (h:k<evs.length):plN evs (k+1)=plN evs k++[sgW evs[k] (sgF evs (k+1))]:=by
 show plN evs k++(match evs[k]? with|some e=>_|none=>_)=_
 rw [List.getElem?_eq_getElem h]
theorem plN_length {evs:List Ev}:∀ {k:Nat},k≤evs.length→(plN evs k).length=k
 | 0,_=>rfl
 | k+1,h=>by rw [plN_at (by omega),List.length_append,plN_length (by omega)];rfl
def plE(p:Pce):List Ev:=plN p.evs p.evs.length
theorem plE_length (p:Pce):(plE p).length=p.evs.length:=plN_length (Nat.le_refl _)
def noP:Pce:=⟨[],[],[]⟩
def plP(p:Pce):Pce:=if pceE p=0 then⟨p.cs,p.st,plE p⟩else noP
theorem sgF_at {evs:List Ev} {k:Nat} (h:k<evs.length):sgF evs (k+1)=if evs[k].val=0 then sgF evs k else (evs[k].val,evs[k].dot,evs[k].three):=by
 show (match evs[k]? with|some e=>_|none=>_)=_
 rw [List.getElem?_eq_getElem h]
theorem plN_stops {evs:List Ev}:∀ {k:Nat},k≤evs.length→∀ e∈plN evs k,∃ f∈evs,e.stops=f.stops
 | 0,_,e,h=>by cases h
 | k+1,hk,e,h=>by
  rw [plN_at (by omega)] at h
  rcases List.mem_append.1 h with h|h
  ·exact plN_stops zqo e h
  ·rw [List.mem_singleton] at h
   exact⟨evs[k],List.getElem_mem _,by rw [h];rfl⟩
end
section
open Go.RowKit
def stripE(e:Ev):List Stp×Bool:=(e.stops,e.tie)
theorem runL_strip {c:Int}:∀ (k:Nat) {l m:List Ev},l.map stripE=m.map stripE→runL c k l=runL c k m
 | 0,l,m,_=>by simp [runL]
 | k+1,[],[],_=>rfl
 | k+1,[],y::m,h=>by simp at h
 | k+1,x::l,[],h=>by simp at h
 | k+1,x::l,y::m,h=>by
  rw [List.map_cons,List.map_cons] at h
  obtain⟨h1,h2⟩:=List.cons.inj h
  unfold stripE at h1
  obtain⟨h3,h4⟩:=Prod.mk.inj h1
  have ih:=runL_strip (c:=c) k h2
  unfold runL restB
  rw [h3,h4,ih]
theorem longestN_strip {l m:List Ev} (h:l.map stripE=m.map stripE) (i c:Int):longestN l i c=longestN m i c:=by
 have hl:l.length=m.length:=by have:=congrArg List.length h;simpa using this
 unfold longestN
 rw [hl,runL_strip 15 (l:=l.drop (i.toNat+1)) (m:=m.drop (i.toNat+1)) (by rw [List.map_drop,List.map_drop,h])]
theorem stopE_strip {p q:Pce} (hc:p.cs=q.cs)(h:p.evs.map stripE=q.evs.map stripE)(i:Int)(s:Stp)(last:Int):stopE p i s last=stopE q i s last:=by
 unfold stopE
 rw [hc,longestN_strip h]
theorem stopsE_strip {p q:Pce} (hc:p.cs=q.cs)(h:p.evs.map stripE=q.evs.map stripE)(i:Int):∀ (l:List Stp)(last:Int),stopsE p i last l=stopsE q i last l
 | [],_=>rfl
 | s::r,last=>by
  show(if stopE p i s last≠0 then _ else _)=(if stopE q i s last≠0 then _ else _)
  rw [stopE_strip hc h,stopsE_strip hc h i r]
theorem plN_get {evs:List Ev}:∀ {n k:Nat} (h:k<n) (hn:n≤evs.length),(plN evs n)[k]'(by rw [plN_length hn];exact h)=sgW (evs[k]'(by omega)) (sgF evs (k+1))
 | 0,k,h,_=>absurd h (Nat.not_lt_zero k)
 | n+1,k,h,hn=>by
  have e:=plN_at (evs:=evs) (k:=n) zqo
  have hl:(plN evs n).length=n:=plN_length zqo
  have key:(plN evs (n+1))[k]?=some (sgW (evs[k]' zqo) (sgF evs (k+1))):=by
   rw [e]
   by_cases hk:k<n
   ·rw [List.getElem?_append_left (by omega),List.getElem?_eq_getElem (by omega),plN_get hk (by omega)]
   ·obtain rfl:k=n:=by omega
    rw [List.getElem?_append_right (by omega),hl,Nat.sub_self];rfl
  rw [List.getElem?_eq_getElem (by rw [plN_length hn];exact h)]at key
  exact Option.some.inj key
theorem plE_strip (p:Pce):(plE p).map stripE=p.evs.map stripE:=by
 apply List.ext_getElem (by rw [List.length_map,List.length_map,plE_length])
 intro k h1 h2
 have hk:k<p.evs.length:=by simpa using h2
 rw [List.getElem_map,List.getElem_map]
 have:=plN_get (evs:=p.evs) hk (Nat.le_refl _)
 unfold plE
 rw [this];rfl
theorem sgF_val {p:Pce} (h0:pceE p=0):∀ k,k<p.evs.length→(sgF p.evs (k+1)).1≠0∧sgOk (sgF p.evs (k+1)).1 (sgF p.evs (k+1)).2.1 (sgF p.evs (k+1)).2.2=true
 | 0,h=>by
  obtain ⟨a,b,_,_⟩:=evE_zero ((pceE_zero h0).2.2 0 h)
  rw [sgF_at h]
  have hv:p.evs[0].val≠0:=fun hv=>b ⟨rfl,hv⟩
  rw [if_neg hv]
  exact ⟨hv,a⟩
 | k+1,h=>by
  obtain ⟨a,b,_,_⟩:=evE_zero ((pceE_zero h0).2.2 (k+1) h)
  rw [sgF_at h]
  by_cases hv:p.evs[k+1].val=0
  ·rw [if_pos hv]
   exact sgF_val h0 k zqo
  ·rw [if_neg hv]
   exact ⟨hv,a⟩
theorem evsE_all {p:Pce}:∀ {l:List Ev} {n:Nat},(∀ k (h:k<l.length),evE p ((n+k:Nat):Int) l[k]=0)→evsE p n l=0
 | [],n,_=>rfl
 | e::r,n,h=>by
  have h0:=h 0 (by simp)
  simp only [Nat.add_zero,List.getElem_cons_zero] at h0
  have e1:evsE p n (e::r)=evsE p (n+1) r:=if_neg (by rw [h0];simp)
  rw [e1]
  refine evsE_all fun k hk=>?_
  have:=h (k+1) (by simpa using hk)
  rw [show n+1+k=n+(k+1) by omega]
  simpa using this
theorem pceE_pl {p:Pce} (h0:pceE p=0):pceE ⟨p.cs,p.st,plE p⟩=0:=by
 obtain ⟨h1,h2,h3⟩:=pceE_zero h0
 have hl:=plE_length p
 unfold pceE
 rw [if_neg (by simpa using h1),if_neg (by show ¬ 400<(plE p).length;omega)]
 refine evsE_all fun k hk=>?_
 have hk':k<p.evs.length:=by rw [← hl];exact hk
 obtain ⟨a,b,c,d⟩:=evE_zero (h3 k hk')
 obtain ⟨s1,s2⟩:=sgF_val h0 k hk'
 have he:(plE p)[k]'hk=sgW p.evs[k] (sgF p.evs (k+1)):=plN_get hk' (Nat.le_refl _)
 have hst:=stopsE_strip (p:=⟨p.cs,p.st,plE p⟩) (q:=p) rfl (plE_strip p) (k:Int) p.evs[k].stops 0
 show evE ⟨p.cs,p.st,plE p⟩ ((0+k:Nat):Int) ((plE p)[k]'hk)=0
 rw [Nat.zero_add,he]
 unfold evE
 rw [if_neg (by
  rintro (h|h)
  ·have h:sgOk (sgF p.evs (k+1)).1 (sgF p.evs (k+1)).2.1 (sgF p.evs (k+1)).2.2=false:=h
   rw [s2] at h;cases h
  ·exact s1 h.2),if_neg (show ¬ ((sgW p.evs[k] (sgF p.evs (k+1))).tie=true∧(0<(sgW p.evs[k] (sgF p.evs (k+1))).stops.length∨(k:Int)=0)) from c)]
 show stopsE ⟨p.cs,p.st,plE p⟩ k 0 p.evs[k].stops=0
 rw [hst];exact d
end
section
open Go.RowKit
section
variable {B:World→View→Prop} {gl:Nat} {P:Program} {C:Cx} {σ:St} {o:Oper} {d:Tmp} {ops:Array Oper} {rest:List Oper} {Q:Exit→St→Prop} {mem:List Bool} {Mc:List (Nat×AO)} {nk0 k:Nat}
def nlqV (P:Program)(σ:St):Op→Option (List (List AV))
 | .binOp .eql T x y _ =>
  match P.underlying T,σ.ev x,σ.ev y with
  | some (.slice _),some (.ls _ rows),some (.sc (.slice none _ _))=>some rows
  | _,_,_=>none
 | _=>none
theorem WL.nlq {rows:List (List AV)} (hd:dstB C.N o=some d) (h:nlqV P σ o.op=some rows) (hk:∀ b:Bool,(b=true→rows=[])→WL P C ops rest (σ.put d (.sc (.bool b))) Q):WL P C ops (o::rest) σ Q:=by
 intro G a w ok
 unfold nlqV at h
 split at h
 ·rename_i T x y Ty ho
  split at h
  ·rename_i e n rows' m c hT hx hy
   cases h
   obtain ⟨A,cap,ad,u,e1,h1,h2,h3,h4,h5⟩:=(ok.evr hx).2.pu_of.ls_of
   have ey:=ok.evs hy
   obtain ⟨q1,q2,q3⟩:=dstB_of hd
   refine wpList_plain q1 fun K hK=>?_
   unfold Oper.wp execOp
   have hrun:=Lib.run_eql_slice_nil (P:=P) w T e A rows.length cap m c hT
   simp only [ho,e1,ey,eqGuard,Sem.run_bind,Sem.run_pure,Result.andThen_ok,hrun]
   simp only [Bool.not_true,Bool.false_eq_true,if_false,Sem.run_bind,Sem.run_pure,Result.andThen_ok,hrun,Oper.upon]
   refine hK _ _ (hk A.isNone (fun hn=>?_) G _ w ?_)
   ·cases A with
    | some z=>cases hn
    | none =>
     rcases Nat.eq_zero_or_pos rows.length with h0|h0
     ·exact List.eq_nil_of_length_eq_zero h0
     ·exact absurd (h2 h0) (by simp)
   ·rw [q2]
    exact ok.set (d:=some d) (.pu _ _ (.sc _)) (.sc _) fun x hx=>by cases hx;exact of_blt q3
  ·cases h
 ·cases h
theorem Tr.nilC (k j n:Nat) {T:TypeId} {cells cells':List AV} (hk:look k σ.M=some (.box T cells)) (hj:cells[j]?=some (.sc (.slice none 0 0))) (he:cells.set j (.ls n [])=cells'):Tr C σ (σ.upd k (.box T cells')):=fun G a w ok=>by
 subst he
 obtain ⟨g1,g2,g3,cs,Φ,g4,g5,g6,g7,g8⟩:=ok.ob k _ hk
 have hjl:=(List.getElem?_eq_some_iff.1 hj).1
 refine ⟨G,ok.reob hk ⟨g1,fun i av hx=>?_,g3,cs,Φ,g4,by simpa using g5,g6,g7,fun i av u hx hu=>?_⟩⟩
 ·by_cases e:j=i
  ·subst e
   rw [List.getElem?_set_self hjl] at hx
   cases hx;exact .ls _ _
  ·rw [List.getElem?_set_ne e] at hx;exact g2 i av hx
 ·by_cases e:j=i
  ·subst e
   rw [List.getElem?_set_self hjl] at hx
   cases hx
   have:=(g8 j _ u hj hu).r rfl
   rw [this.sc_eq]
   exact .inl (.pu _ _ (.ls n [] none 0 ⟨0,0,none⟩ (fun _ _=>undef) (by simp) (by simp) (by simp) (by simp) (by simp)))
  ·rw [List.getElem?_set_ne e] at hx;exact g8 i av u hx hu
theorem DSK.ct (hB:Holds B gl C) {f:FuncId} {args args':List AV} {res res':AV} {M M' M2:List (Nat×AO)} {nk nk' n2:Nat} (ks:List Nat) (hd:wrB mem C.N k o=some d) (he:calE σ o.op=some (f,args')) (hc:∀ vs w,(callFunc f vs).run P w=.ok (.enter f vs) w)
  (h:Cto B gl P f args M nk res M' nk') (hks:ksB ks nk σ.nk=true) (ha:args.map (AV.ren (rhoC ks nk σ.nk))=args') (hp:args.all (AV.inn nk)=true) (hM:TrM σ (rhoC ks nk σ.nk) nk M)
  (hq:(Nat.ble nk nk' && M'.all (fun x=>x.2.inn nk') && M'.all (fun x=>Nat.blt x.1 nk') && res.inn nk')=true) (hr:res.ren (rhoC ks nk σ.nk)=res') (hM2:renM (rhoC ks nk σ.nk) M'++remL ks σ.M=M2) (hn2:σ.nk+(nk'-nk)=n2) (hs:msSub Mc M2)
  (r:DSK P C ops mem Mc nk0 (k+1) rest ⟨(d,res')::σ.t,M2,n2⟩ Q):DSK P C ops mem Mc nk0 k (o::rest) σ Q:=by
 subst hM2 hn2
 obtain ⟨a,b,c,e⟩:=wrB_of hd
 have hent:ent1 o.dst true res'=[(d,res')]:=by rw [b];rfl
 simp only [Bool.and_eq_true] at hq
 unfold calE at he
 split at he
 ·rename_i y xs ts ho
  split at he
  ·rename_i fv args0 hy hx
   split at he
   ·rename_i f' caps hf
    cases he
    refine DSK.wr res' a (Nat.ble_eq_true_of_le (Nat.le_add_right _ _)) hs ⟨c,fun t H=>?_⟩ (by rw [hent];exact r)
    rw [hent]
    have hmem:∀ q∈y::xs,q∈o.op.operands.toList:=fun q hq=>by rw [ho];simp [Op.operands,Call.operands] at hq ⊢;exact hq
    have:=WO.cto (P:=P) (C:=C) (σ:=⟨t,σ.M,σ.nk⟩) (xs:=⟨xs⟩) hB ks ho hc ((ev_agree H (hmem y (by simp))).trans hy) hf ((evs_agree H fun q hq=>hmem q (List.mem_cons_of_mem _ hq)).trans hx) rfl h hks ha hp (trM_same (σ:=σ) (σ':=⟨t,σ.M,σ.nk⟩) (ρ:=rhoC ks nk σ.nk) rfl hM) hq.1.1.1 hq.1.1.2 hq.1.2 hq.2 hr (by rw [b];exact e)
    rw [b] at this
    exact this
   ·cases he
  ·cases he
 ·cases he
end
end
end Go.Proofs.YtockempedekkkaaGreatDoor
