/- A walk that knows values as trees: a drawn region in which a call and an operation that makes memory do not wait for each other; a value that only what was written so far knows. -/
import Derived.Test.YthehkchjdkdbiaaGreatDoorEH0Hq
import Derived.Test.YthehkchjdkdbiaaGreatDoorInjHq
import Derived.Shelf.Strings.OnBuilder
set_option maxHeartbeats 8000000
set_option maxRecDepth 100000
set_option linter.unusedVariables false
set_option linter.unusedSimpArgs false
namespace Go.Proofs.YthehkchjdkdbiaaGreatDoor
section
open Go.RowKit
def nr_rvK {α:Type} (l:List α)(k:Nat):List α:=l.mapIdx fun i x=>if i<k∨l.length≤i+k then(l.reverse[i]?).getD x else x
section
variable {α:Type} {l:List α} {k:Nat}
theorem nr_rvK_len:(nr_rvK l k).length=l.length:=List.length_mapIdx
theorem nr_rvK_0 (l:List α):nr_rvK l 0=l:=by
 apply List.ext_getElem nr_rvK_len
 intro i h1 h2
 simp only [nr_rvK,List.getElem_mapIdx]
 rw [if_neg (by omega)]
theorem nr_rvK_end (h:l.length≤2*k+1):nr_rvK l k=l.reverse:=by
 apply List.ext_getElem (by rw [nr_rvK_len,List.length_reverse])
 intro i h1 h2
 have hi:i<l.length:=by rw [nr_rvK_len]at h1;exact h1
 simp only [nr_rvK,List.getElem_mapIdx]
 by_cases e:i<k∨l.length≤i+k
 ·rw [if_pos e,List.getElem?_eq_getElem (by rw [List.length_reverse];exact hi)];rfl
 ·rw [if_neg e,List.getElem_reverse]
  congr 1;omega
theorem nr_rvK_lo (h:2*k+1<l.length):(nr_rvK l k)[k]?=some (l[k]'(by omega)):=by
 rw [List.getElem?_eq_getElem (by rw [nr_rvK_len];omega)]
 simp only [nr_rvK,List.getElem_mapIdx]
 rw [if_neg (by omega)]
theorem nr_rvK_hi (h:2*k+1<l.length):(nr_rvK l k)[l.length-1-k]?=some (l[l.length-1-k]'(by omega)):=by
 rw [List.getElem?_eq_getElem (by rw [nr_rvK_len];omega)]
 simp only [nr_rvK,List.getElem_mapIdx]
 rw [if_neg (by omega)]
theorem nr_rvK_s (h:2*k+1<l.length):((nr_rvK l k).set k (l[l.length-1-k]'(by omega))).set (l.length-1-k) (l[k]'(by omega))=nr_rvK l (k+1):=by
 apply List.ext_getElem (by rw [List.length_set,List.length_set,nr_rvK_len,nr_rvK_len])
 intro i h1 h2
 have hi:i<l.length:=by rw [nr_rvK_len]at h2;exact h2
 rw [List.getElem_set,List.getElem_set]
 simp only [nr_rvK,List.getElem_mapIdx]
 have hr:∀ x,(l.reverse[i]?).getD x=l[l.length-1-i]' zqo:=fun x=>by
  rw [List.getElem?_eq_getElem (by rw [List.length_reverse];exact hi),List.getElem_reverse];rfl
 rw [hr]
 by_cases e1:l.length-1-k=i
 ·rw [if_pos e1,if_pos (by omega)]
  congr 1;omega
 ·rw [if_neg e1]
  by_cases e2:k=i
  ·rw [if_pos e2,if_pos (by omega)]
   congr 1;omega
  ·rw [if_neg e2]
   by_cases e3:i<k∨l.length≤i+k
   ·rw [if_pos e3,if_pos (by omega)]
   ·rw [if_neg e3,if_neg (by omega)]
end
end
section
open Go.RowKit
theorem cur_le_e {mem s:Nat→Bool} {e:Nat} (h:∀ i,e≤i→mem i=true→s i=false):∀ {m:Nat},cur mem s m≤e
 | 0=>Nat.zero_le _
 | m+1=>by
  unfold cur
  split
  ·rename_i x
   rcases Nat.lt_or_ge m e with h5|h5
   ·omega
   ·have:=h m h5 x.1
    rw [x.2]at this;cases this
  ·exact cur_le_e h
section
variable {P:Program} {C:Cx} {σ σ':St} {G G':Gh} {a:Act} {w w':World} {ops:Array Oper} {Q:Exit→St→Prop}
inductive DT (P:Program) (C:Cx) (ops:Array Oper) (mem:List Bool) (Mc McB:List (Nat×AO)) (e0 nk0:Nat):Nat→List Oper→St→St→Prop
 | nil (k:Nat) (σ:St):DT P C ops mem Mc McB e0 nk0 k [] σ σ
 | val (k:Nat) (o:Oper) (rest:List Oper) (d:Tmp) (av:AV) (nk:Nat) (mc:List (Nat×AO)) (σ σ':St):(mc=Mc∨(mc=McB∧needs ops k ops.size e0=true))→mem.getD k false=false→o.dst=some d→Nat.blt d C.N=true→(nk=nk0∨(nk=σ.nk∧behindB ops mem k=true))→DoesV P C ops o σ.t mc nk av →
   DT P C ops mem Mc McB e0 nk0 (k+1) rest (σ.put d av) σ'→DT P C ops mem Mc McB e0 nk0 k (o::rest) σ σ'
 | mem (k:Nat) (o:Oper) (rest:List Oper) (av:AV) (M':List (Nat×AO)) (nk':Nat) (σ σ':St):mem.getD k false=true→Nat.ble σ.nk nk'=true→msSub Mc M'→(Nat.blt k e0=true→msSub McB M')→DoesS P C ops o σ av M' nk' →
   DT P C ops mem Mc McB e0 nk0 (k+1) rest ⟨ent1 o.dst true av++σ.t,M',nk'⟩ σ'→DT P C ops mem Mc McB e0 nk0 k (o::rest) σ σ'
theorem DT.data {mem:List Bool} {Mc McB:List (Nat×AO)} {e0 nk0 k:Nat} {l:List Oper} {σ σ':St} (h:DT P C ops mem Mc McB e0 nk0 k l σ σ'):∃ (avs:Nat→AV) (ms:Nat→List (Nat×AO)) (nks:Nat→Nat),ms 0=σ.M∧nks 0=σ.nk ∧
  σ'=⟨ents l.toArray avs (fun _=>true) l.length++σ.t,ms l.length,nks l.length⟩ ∧
  ∀ (j:Nat) (oj:Oper),l[j]?=some oj →
   ((mem.getD (k+j) false=false∧(∃ d,oj.dst=some d∧d<C.N)∧ms (j+1)=ms j∧nks (j+1)=nks j∧∃ nk mc,(mc=Mc∨(mc=McB∧needs ops (k+j) ops.size e0=true))∧(nk=nk0∨(nk=nks j∧behindB ops mem (k+j)=true))∧DoesV P C ops oj (ents l.toArray avs (fun _=>true) j++σ.t) mc nk (avs j)) ∨
    (mem.getD (k+j) false=true∧nks j≤nks (j+1)∧msSub Mc (ms (j+1))∧(Nat.blt (k+j) e0=true→msSub McB (ms (j+1)))∧DoesS P C ops oj ⟨ents l.toArray avs (fun _=>true) j++σ.t,ms j,nks j⟩ (avs j) (ms (j+1)) (nks (j+1)))):=by
 have key:∀ (o:Oper) (rest:List Oper) (av:AV) (avs:Nat→AV),∀ m,m≤rest.length→ents (o::rest).toArray (fun j=>if j=0 then av else avs (j-1)) (fun _=>true) (m+1)=ents rest.toArray avs (fun _=>true) m++ent1 o.dst true av:=by
  intro o rest av avs m
  induction m with
  | zero=>intro _;simp [ents]
  | succ m ihm =>
   intro hm
   rw [ents,ihm (by omega),ents]
   simp
 induction h with
 | nil k σ=>exact ⟨fun _=>.sc undef,fun _=>σ.M,fun _=>σ.nk,rfl,rfl,rfl,fun j oj h=>by simp at h⟩
 | val k o rest d av nk mc σ σ' hmc0 hm hd hN hq hdo _ ih =>
  obtain ⟨avs,ms,nks,m0,n0,e1,e2⟩:=ih
  have hent:ent1 o.dst true av=[(d,av)]:=by rw [hd];rfl
  refine ⟨fun j=>if j=0 then av else avs (j-1),fun j=>if j=0 then σ.M else ms (j-1),fun j=>if j=0 then σ.nk else nks (j-1),rfl,rfl,?_,fun j oj hj=>?_⟩
  ·rw [e1,List.length_cons,key o rest av avs _ (Nat.le_refl _),hent]
   simp [St.put]
  ·cases j with
   | zero =>
    cases hj
    exact .inl ⟨hm,⟨d,hd,of_blt hN⟩,m0,n0,nk,mc,hmc0,hq,by simpa [ents] using hdo⟩
   | succ j =>
    have hj':rest[j]?=some oj:=by simpa using hj
    have q2:=e2 j oj hj'
    rw [key o rest av avs j (by have:=(List.getElem?_eq_some_iff.1 hj').1;omega),hent]
    simpa [St.put,Nat.add_assoc,Nat.add_comm 1 j] using q2
 | mem k o rest av M' nk' σ σ' hm hn hsub hsubB hdo _ ih =>
  obtain ⟨avs,ms,nks,m0,n0,e1,e2⟩:=ih
  refine ⟨fun j=>if j=0 then av else avs (j-1),fun j=>if j=0 then σ.M else ms (j-1),fun j=>if j=0 then σ.nk else nks (j-1),rfl,rfl,?_,fun j oj hj=>?_⟩
  ·rw [e1,List.length_cons,key o rest av avs _ (Nat.le_refl _)]
   simp
  ·cases j with
   | zero =>
    cases hj
    refine .inr ⟨hm,?_,?_,?_,?_⟩
    ·show σ.nk≤nks 0
     rw [n0];exact Nat.le_of_ble_eq_true hn
    ·show msSub Mc (ms 0)
     rw [m0];exact hsub
    ·show _→msSub McB (ms 0)
     rw [m0];exact hsubB
    ·show DoesS P C ops o _ av (ms 0) (nks 0)
     rw [m0,n0];simpa [ents] using hdo
   | succ j =>
    have hj':rest[j]?=some oj:=by simpa using hj
    have q2:=e2 j oj hj'
    rw [key o rest av avs j (by have:=(List.getElem?_eq_some_iff.1 hj').1;omega)]
    simpa [Nat.add_assoc,Nat.add_comm 1 j] using q2
theorem WA.drawT2 {l:List Oper} (mem:List Bool) (Mc McB:List (Nat×AO)) (e0:Nat) (hlast:∀ i,e0 < i→i < l.length→mem.getD i false=false) (hB:Region.lexB .any l.toArray=true) (hch:chainB l.toArray mem=true) (hMc:msSub Mc σ.M) (hMcB:msSub McB σ.M) (h:DT P C l.toArray mem Mc McB e0 σ.nk 0 l σ σ') (k:Q .normal σ'):WA P C l.toArray σ Q:=by
 intro G a w ok
 obtain ⟨avs,ms,nks,m0,n0,e1,e2⟩:=h.data
 simp only [Nat.zero_add] at e2
 simp only [Region.lexB,Bool.and_eq_true] at hB
 obtain ⟨FA,FB⟩:=lex_facts (ops:=l.toArray) l.toArray.size 0 (Array.replicate l.toArray.size false) (by simp) (by simp) (fun i hi=>by simp [Array.getD_eq_getD_getElem?,hi] at hi ⊢;simp [hi]) hB.2
 have sz:l.toArray.size=l.length:=by simp
 have mconst:∀ i,i < l.length→mem.getD i false=false→ms (i+1)=ms i∧nks (i+1)=nks i:=fun i hi hf=>by
  have q:=e2 i l[i] (List.getElem?_eq_getElem hi)
  rcases q with ⟨_,_,a,b,_⟩|⟨a,_⟩
  ·exact ⟨a,b⟩
  ·rw [hf] at a;cases a
 have mmono:∀ i,i < l.length→nks i≤nks (i+1):=fun i hi=>by
  have q:=e2 i l[i] (List.getElem?_eq_getElem hi)
  rcases q with ⟨_,_,_,b,_⟩|⟨_,b,_⟩
  ·rw [b];exact Nat.le_refl _
  ·exact b
 have hnp0:C.np≤nks 0:=by rw [n0];exact ok.df.2.1
 have hnpj:∀ i,i≤l.length→C.np≤nks i:=fun i=>by
  induction i with
  | zero=>exact fun _=>hnp0
  | succ i ih=>exact fun h=>Nat.le_trans (ih zqo) (mmono i zqo)
 have msub:∀ i,i≤l.length→msSub Mc (ms i):=fun i=>by
  induction i with
  | zero=>intro _;rw [m0];exact hMc
  | succ i ih =>
   intro hi
   have q:=e2 i l[i] (List.getElem?_eq_getElem (by omega))
   rcases q with ⟨_,_,a,_⟩|⟨_,_,a,_⟩
   ·rw [a];exact ih (by omega)
   ·exact a
 have msubB:∀ i,i≤l.length→i≤e0→msSub McB (ms i):=fun i=>by
  induction i with
  | zero=>intro _ _;rw [m0];exact hMcB
  | succ i ih =>
   intro hi hie
   have q:=e2 i l[i] (List.getElem?_eq_getElem (by omega))
   rcases q with ⟨_,_,a,_⟩|⟨_,_,_,a,_⟩
   ·rw [a];exact ih (by omega) (by omega)
   ·exact a (Nat.ble_eq_true_of_le hie)
 have hchj:∀ j,j < l.length→mem.getD j false=true→behindB l.toArray mem j=true:=fun j hj hmj=>by
  have h1:(!(mem.getD j false)|| behindB l.toArray mem j)=true:=List.all_eq_true.1 hch j (by simpa using hj)
  rw [hmj] at h1;exact h1
 have hbeh:∀ i j,i < j→behindB l.toArray mem j=true→mem.getD i false=true→needs l.toArray i l.toArray.size j=true:=fun i j hij hb hmi=>by
  have h1:(!(mem.getD i false)|| needs l.toArray i l.toArray.size j)=true:=List.all_eq_true.1 hb i (List.mem_range.2 hij)
  rw [hmi] at h1;exact h1
 let cu:Array Bool→Nat:=fun listed=>cur (fun i=>mem.getD i false) (fun i=>listed.getD i false) l.length
 let KS:Array Bool→St:=fun listed=>⟨ents l.toArray avs (fun i=>listed.getD i false) l.length++σ.t,ms (cu listed),nks (cu listed)⟩
 have key:∀ (fuel:Nat) (listed:Array Bool) (G:Gh) (a:Act) (w:World),listed.size=l.length→(∀ j oj,l.toArray[j]?=some oj→listed.getD j false=true→∀ e∈oj.after,Region.binds .any e=true→listed.getD e.on false=true) →
   (List.range l.length).countP (fun i=>!listed.getD i false)≤fuel→Ok C (KS listed) G a w→wpAny P .any l.toArray (Post C Q) fuel listed a w:=by
  intro fuel
  have done:∀ (listed:Array Bool) (G:Gh) (a:Act) (w:World),listed.size=l.length→Region.ready .any l.toArray listed=[]→Ok C (KS listed) G a w→Post C Q .normal a w:=by
   intro listed G a w hsz hr ok
   have hall:∀ n i,i < n→i < l.length→listed.getD i false=true:=by
    intro n
    induction n with
    | zero=>intro i h;omega
    | succ n ih =>
     intro i hi hlt
     by_cases e:i < n
     ·exact ih i e hlt
     ·have hin:i=n:=by omega
      subst hin
      cases hli:listed.getD i false with
      | true=>rfl
      | false =>
       have hoi:l.toArray[i]?=some l[i]:=by simp [hlt]
       have:i∈Region.ready .any l.toArray listed:=mem_ready.2 ⟨by
        have:listed.getD i true=listed.getD i false:=by simp [Array.getD_eq_getD_getElem?,hsz,hlt]
        rw [this];exact hli,l[i],hoi,fun e he hb=>ih e.on (FA i l[i] (Nat.zero_le _) hoi e he hb) (by have:=FA i l[i] (Nat.zero_le _) hoi e he hb;omega)⟩
       rw [hr] at this;cases this
   have hcu:ms (cu listed)=ms l.length∧nks (cu listed)=nks l.length:=by
    have hs:∀ i,i < l.length→(fun i=>mem.getD i false) i=true→(fun i=>listed.getD i false) i=decide (i < l.length):=fun i hi _=>by
     show listed.getD i false=_
     rw [hall (i+1) i (by omega) hi,decide_eq_true hi]
    have h1:=cur_at (f:=ms) (fun i hi hf=>(mconst i hi hf).1) hs l.length (Nat.le_refl _)
    have h2:=cur_at (f:=nks) (fun i hi hf=>(mconst i hi hf).2) hs l.length (Nat.le_refl _)
    rw [Nat.min_self] at h1 h2
    exact ⟨h1,h2⟩
   refine ⟨σ',G,k,ok.congr_ (fun t=>?_) (by rw [e1];exact hcu.1.symm) (by rw [e1];exact hcu.2.symm)⟩
   rw [e1]
   show look t (_++_)=look t (_++_)
   rw [look_app,look_app,ents_agree (s':=fun i=>listed.getD i false) fun i hi _=>(hall (i+1) i (by omega) hi).symm]
  induction fuel with
  | zero =>
   intro listed G a w hsz hcl hf ok
   have hr:Region.ready .any l.toArray listed=[]:=by
    apply List.eq_nil_iff_forall_not_mem.2
    intro j hj
    obtain ⟨h1,oj,h2,_⟩:=mem_ready.1 hj
    have hlt:j < l.length:=by have:=(Array.getElem?_eq_some_iff.1 h2).1;omega
    have h3:listed.getD j false=false:=by
     have:listed.getD j false=listed.getD j true:=by simp [Array.getD_eq_getD_getElem?,hsz,hlt]
     rw [this];exact h1
    have:=List.countP_eq_zero.1 (Nat.le_zero.1 hf) j (List.mem_range.2 hlt)
    simp [h3] at this
   exact ⟨hr,done listed G a w hsz hr ok⟩
  | succ fuel ih =>
   intro listed G a w hsz hcl hf ok
   refine ⟨fun hr=>done listed G a w hsz hr ok,fun j hj=>?_⟩
   obtain ⟨h1,oj,h2,h4⟩:=mem_ready.1 hj
   have hlt:j < l.length:=by have:=(Array.getElem?_eq_some_iff.1 h2).1;omega
   have h3:listed.getD j false=false:=by
    have:listed.getD j false=listed.getD j true:=by simp [Array.getD_eq_getD_getElem?,hsz,hlt]
    rw [this];exact h1
   have hlj:l[j]?=some oj:=by simpa using h2
   have hdoes:=e2 j oj hlj
   have hlook:∀ t∈oj.looksAt l.toArray,∀ i,i < l.length→(l.toArray[i]?).bind (·.dst)=some t→listed.getD i false=decide (i < j):=by
    intro t ht i hi hdi
    have hoi:l.toArray[i]?=some l[i]:=by simp [hi]
    rw [hoi] at hdi
    have hdi:l[i].dst=some t:=hdi
    rcases Nat.lt_trichotomy i j with hij|hij|hij
    ·rw [decide_eq_true hij]
     by_cases hno:∃ e,e∈oj.after∧Region.binds .any e=true∧e.on=i
     ·obtain ⟨e,he,hb,rfl⟩:=hno
      exact h4 e he hb
     ·exact absurd ht ((Oper.apart_spec (FB i j _ _ (Nat.zero_le _) hij hoi h2 fun e he hb h=>hno ⟨e,he,hb,h⟩)).1 t hdi)
    ·subst hij;rw [h3];simp
    ·rw [decide_eq_false (by omega)]
     cases hli:listed.getD i false with
     | false=>rfl
     | true =>
      by_cases hno:∃ e,e∈(l[i]).after∧Region.binds .any e=true∧e.on=j
      ·obtain ⟨e,he,hb,he2⟩:=hno
       have:=hcl i _ hoi hli e he hb
       rw [he2,h3] at this;cases this
      ·exact absurd ht ((Oper.apart_spec (FB j i _ _ (Nat.zero_le _) hij h2 hoi fun e he hb h=>hno ⟨e,he,hb,h⟩)).2.2 t hdi)
   have hents:∀ t,look t (ents l.toArray avs (fun _=>true) j)=look t (ents l.toArray avs (fun i=>decide (i < j)) l.length):=by
    intro t
    have:∀ m,j≤m→look t (ents l.toArray avs (fun i=>decide (i < j)) m)=look t (ents l.toArray avs (fun i=>decide (i < j)) j):=by
     intro m
     induction m with
     | zero=>intro h;rw [Nat.le_zero.1 h]
     | succ m ihm =>
      intro h
      by_cases e:j=m+1
      ·rw [e]
      ·rw [ents,look_app,look_ent1,if_neg (fun x=>by have:=of_decide_eq_true x.1;omega),ihm (by omega)];rfl
    rw [this l.length (by omega)]
    exact ents_agree fun i hi _=>(decide_eq_true hi).symm
   have hlooks:∀ t∈oj.looksAt l.toArray,look t (KS listed).t=look t (ents l.toArray avs (fun _=>true) j++σ.t):=fun t ht=>by
    show look t (_++_)=look t (_++_)
    rw [look_app,look_app,hents t,ents_agree fun i hi hdi=>(hlook t ht i hi hdi)]
   have hslots:∀ t,look t (ents l.toArray avs (fun i=>(listed.setIfInBounds j true).getD i false) l.length++σ.t)=look t (ent1 oj.dst true (avs j)++(KS listed).t):=by
    intro t
    by_cases et:oj.dst=some t
    ·have hR:look t (ent1 oj.dst true (avs j)++(KS listed).t)=some (avs j):=by
      rw [look_app,look_ent1,if_pos ⟨rfl,et⟩];rfl
     rw [hR,look_app,ents_top (j:=j) hlt (by rw [h2];exact et) (by simp [Array.getD_eq_getD_getElem?,hsz,hlt]) fun i hij hi hdi=>?_]
     ·rfl
     ·have hoi:l.toArray[i]?=some l[i]:=by simp [hi]
      rw [hoi] at hdi
      have hdi:l[i].dst=some t:=hdi
      have hne:j≠i:=by omega
      cases hli:listed.getD i false with
      | false=>simpa [Array.getD_eq_getD_getElem?,Array.getElem?_setIfInBounds_ne hne] using hli
      | true =>
       by_cases hno:∃ e,e∈(l[i]).after∧Region.binds .any e=true∧e.on=j
       ·obtain ⟨e,he,hb,he2⟩:=hno
        have:=hcl i _ hoi hli e he hb
        rw [he2,h3] at this;cases this
       ·exact absurd hdi ((Oper.apart_spec (FB j i _ _ (Nat.zero_le _) hij h2 hoi fun e he hb h=>hno ⟨e,he,hb,h⟩)).2.1 t et)
    ·have hR:look t (ent1 oj.dst true (avs j)++(KS listed).t)=look t (KS listed).t:=by
      rw [look_app,look_ent1,if_neg (fun x=>et x.2)];rfl
     rw [hR]
     show _=look t (_++_)
     rw [look_app,look_app]
     congr 1
     refine ents_agree fun i hi hdi=>?_
     by_cases e2:j=i
     ·subst e2
      rw [h2] at hdi
      exact absurd hdi et
     ·simp [Array.getD_eq_getD_getElem?,Array.getElem?_setIfInBounds_ne e2]
   have hset:∀ i,j≠i→(listed.setIfInBounds j true).getD i false=listed.getD i false:=fun i e=>by simp [Array.getD_eq_getD_getElem?,Array.getElem?_setIfInBounds_ne e]
   have hsetj:(listed.setIfInBounds j true).getD j false=true:=by simp [Array.getD_eq_getD_getElem?,hsz,hlt]
   have hclose:∀ i oi,l.toArray[i]?=some oi→(listed.setIfInBounds j true).getD i false=true→∀ e∈oi.after,Region.binds .any e=true→(listed.setIfInBounds j true).getD e.on false=true:=by
    intro i oi hi hli e he hb
    have mono:∀ q,listed.getD q false=true→(listed.setIfInBounds j true).getD q false=true:=fun q hq=>by
     by_cases e:j=q
     ·subst e;rw [hq] at h3;cases h3
     ·rw [hset q e];exact hq
    by_cases e2:j=i
    ·subst e2
     rw [h2] at hi;cases hi
     exact mono _ (h4 e he hb)
    ·refine mono _ (hcl i oi hi ?_ e he hb)
     rw [← hset i e2];exact hli
   have hcount:(List.range l.length).countP (fun i=>!(listed.setIfInBounds j true).getD i false)≤fuel:=by
    have:=countP_lt (p:=fun i=>!listed.getD i false) (q:=fun i=>!(listed.setIfInBounds j true).getD i false) (fun i hi=>by
       by_cases e:j=i
       ·subst e;rw [hsetj] at hi;cases hi
       ·rw [hset i e] at hi;exact hi) hlt (by simp only [h3];rfl) (by simp only [hsetj];rfl)
    omega
   unfold wpOp
   simp only [h2]
   rcases hdoes with ⟨hmf,⟨d,hd,hdN⟩,hmc,hnc,nk,mc,hmcs,hnk,hmi,hti,hdo⟩|⟨hmt,hnle,hsub,_,hgd,hdo⟩
   ·-- memory stays
    have hot:onlyT (KS listed).t (oj.looksAt l.toArray)=onlyT (ents l.toArray avs (fun _=>true) j++σ.t) (oj.looksAt l.toArray):=onlyT_congr hlooks
    have hnkle:nk≤nks (cu listed):=by
     rcases hnk with rfl|⟨rfl,hbj⟩
     ·have:=cur_ge (f:=nks) (j:=0) (s:=fun i=>listed.getD i false) (mem:=fun i=>mem.getD i false) (fun i hi hf=>(mconst i hi hf).2) mmono (fun i _ h=>by omega) l.length (Nat.le_refl _)
      rw [Nat.min_zero,n0] at this
      exact this
     ·have:=cur_ge (f:=nks) (j:=j) (s:=fun i=>listed.getD i false) (mem:=fun i=>mem.getD i false) (fun i hi hf=>(mconst i hi hf).2) mmono (fun i hi hij hmi=>needs_ready hcl h2 h4 _ (hbeh i j hij hbj hmi)) l.length (Nat.le_refl _)
      rw [show min l.length j=j by omega] at this
      exact this
    have hsubc:msSub mc (ms (cu listed)):=by
     rcases hmcs with rfl|⟨rfl,hne⟩
     ·exact msub _ (cur_le _)
     ·refine msubB _ (cur_le _) (cur_le_e fun i hi hmi=>?_)
      by_cases e:i < l.length
      ·rcases Nat.lt_or_ge e0 i with h5|h5
       ·rw [hlast i h5 e] at hmi;cases hmi
       ·obtain rfl:i=e0:=by omega
        cases hli:listed.getD i false with
        | false=>rfl
        | true =>
         have:=needs_listed hcl _ _ hne hli
         rw [h3] at this;cases this
      ·have:mem.getD i false=true:=hmi
       cases hli:listed.getD i false with
       | false=>rfl
       | true=>simp [Array.getD_eq_getD_getElem?,hsz,e] at hli
    have okO:Ok C ⟨onlyT (ents l.toArray avs (fun _=>true) j++σ.t) (oj.looksAt l.toArray),mc,nk⟩ G a w :=
     ok.few (hnp:=by rcases hnk with h|⟨h,_⟩<;>rw [h]<;>first|exact hnpj j (by omega)|(rw [← n0];exact hnp0)) (ht:=fun i av hx=>⟨by rw [← hot] at hx;exact look_onlyT hx,tsInn_at hti i av hx⟩) (hM:=fun q o hx=>⟨msSub_at hsubc q o hx,(msInn_at hmi q o hx).1,(msInn_at hmi q o hx).2⟩)
    have next:∀ (v:Value) (G':Gh) (w':World),Ok C (KS listed) G' a w'→R G' (avs j) v→Bd nk (avs j)→wpAny P .any l.toArray (Post C Q) fuel (listed.setIfInBounds j true) (a.put oj.dst v) w':=by
     intro v G' w' ok' hr hb
     have ok2:=ok'.set (d:=some d) hr (hb.mono hnkle) fun x hx=>by cases hx;exact hdN
     rw [hd]
     have hcu:cu (listed.setIfInBounds j true)=cu listed:=cur_congr fun i hi hmi=>by
      by_cases e:j=i
      ·subst e;rw [hmf] at hmi;cases hmi
      ·exact hset i e
     exact ih (listed.setIfInBounds j true) G' _ w' (by simpa using hsz) hclose hcount (ok2.congr_ (fun t=>by rw [hslots t,hd];rfl) (by show ms _=ms _;rw [hcu]) (by show nks _=nks _;rw [hcu]))
    rcases hdo with ⟨hg,hv⟩|⟨hg,hv⟩
    ·rw [if_pos (guardK_wanted okO hg)]
     exact .inl (hv G a w okO _ _ fun v G' w' hk hr hb=>next v G' w' (hk _ _ ok) hr hb)
    ·rw [if_neg (by rw [guardK_wanted okO hg];simp)]
     exact next undef G w ok (by rw [hv];exact .pu _ _ (.sc _)) (by rw [hv];exact .sc _)
   ·-- memory is written
    have hbj:=hchj j hlt hmt
    have hst:∀ i,i < l.length→mem.getD i false=true→listed.getD i false=decide (i < j):=fun i hi hmi=>by
     rcases Nat.lt_trichotomy i j with hij|hij|hij
     ·rw [decide_eq_true hij]
      exact needs_ready hcl h2 h4 _ (hbeh i j hij hbj hmi)
     ·subst hij;rw [h3];simp
     ·rw [decide_eq_false (by omega)]
      cases hli:listed.getD i false with
      | false=>rfl
      | true =>
       have:=needs_listed hcl _ _ (hbeh j i hij (hchj i hi hmi) hmt) hli
       rw [h3] at this;cases this
    have hM:ms (cu listed)=ms j∧nks (cu listed)=nks j:=by
     have h1:=cur_at (f:=ms) (fun i hi hf=>(mconst i hi hf).1) hst l.length (Nat.le_refl _)
     have h2:=cur_at (f:=nks) (fun i hi hf=>(mconst i hi hf).2) hst l.length (Nat.le_refl _)
     rw [show min l.length j=j by omega] at h1 h2
     exact ⟨h1,h2⟩
    have hst':∀ i,i < l.length→mem.getD i false=true→(listed.setIfInBounds j true).getD i false=decide (i < j+1):=fun i hi hmi=>by
     by_cases e:j=i
     ·subst e;rw [hsetj];simp
     ·rw [hset i e,hst i hi hmi]
      have:(i < j)↔(i < j+1):=by omega
      simp [this]
    have hM':ms (cu (listed.setIfInBounds j true))=ms (j+1)∧nks (cu (listed.setIfInBounds j true))=nks (j+1):=by
     have h1:=cur_at (f:=ms) (fun i hi hf=>(mconst i hi hf).1) hst' l.length (Nat.le_refl _)
     have h2:=cur_at (f:=nks) (fun i hi hf=>(mconst i hi hf).2) hst' l.length (Nat.le_refl _)
     rw [show min l.length (j+1)=j+1 by omega] at h1 h2
     exact ⟨h1,h2⟩
    rw [if_pos (by simp [Region.wanted,hgd])]
    have ok1:Ok C ⟨(KS listed).t,ms j,nks j⟩ G a w:=ok.congr_ (fun _=>rfl) (by exact hM.1.symm) (by exact hM.2.symm)
    refine .inl (hdo (KS listed).t hlooks G a w ok1 _ _ fun G' a' w' ok'=>?_)
    exact ih (listed.setIfInBounds j true) G' a' w' (by simpa using hsz) hclose hcount (ok'.congr_ hslots (by exact hM'.1) (by exact hM'.2))
 have hcu0:cu (Array.replicate l.toArray.size false)=0:=by
  have:∀ m,cur (fun i=>mem.getD i false) (fun i=>(Array.replicate l.toArray.size false).getD i false) m=0:=by
   intro m
   induction m with
   | zero=>rfl
   | succ m ih=>unfold cur;rw [if_neg (fun x=>by have:=x.2;rw [rep_getD] at this;cases this),ih]
  exact this _
 refine key _ (Array.replicate l.toArray.size false) G a _ (by simp) (fun j oj _ h=>?_) ?_ (ok.drew.congr_ (fun t=>?_) (by show ms _=_;rw [hcu0,m0]) (by show nks _=_;rw [hcu0,n0]))
 ·rw [rep_getD] at h;cases h
 ·rw [sz]
  exact Nat.le_trans List.countP_le_length (by simp)
 ·show look t (_++_)=_
  rw [look_app,ents_none fun i hi _=>?_]
  ·rfl
  ·exact rep_getD _ _
end
section
variable {B:World→View→Prop} {gl:Nat} {P:Program} {C:Cx} {σ:St} {o:Oper} {d:Tmp} {av:AV} {ops:Array Oper} {rest l:List Oper} {Q:Exit→St→Prop} {mem:List Bool} {Mc McB:List (Nat×AO)} {e0 nk0 k:Nat}
def DTK (P:Program)(C:Cx)(ops:Array Oper)(mem:List Bool)(Mc McB:List (Nat×AO))(e0 nk0 k:Nat)(l:List Oper)(σ:St)(Q:Exit→St→Prop):Prop:=∃ σ',DT P C ops mem Mc McB e0 nk0 k l σ σ'∧Q .normal σ'
theorem DTK.nil(h:Q .normal σ):DTK P C ops mem Mc McB e0 nk0 k [] σ Q:=⟨σ,.nil k σ,h⟩
theorem DTK.vl (hd:memB C.N ops mem McB k nk0 σ.t o=some (d,true)) (hn:needs ops k ops.size e0=true) (h:WV P C o ⟨onlyT σ.t (o.looksAt ops),McB,nk0⟩ av) (r:DTK P C ops mem Mc McB e0 nk0 (k+1) rest (σ.put d av) Q):DTK P C ops mem Mc McB e0 nk0 k (o::rest) σ Q:=by
 obtain ⟨a,b,c,e,f,g⟩:=memB_of hd
 obtain ⟨s,x,y⟩:=r
 exact ⟨s,.val k o rest d av nk0 McB σ s (.inr ⟨rfl,hn⟩) a b c (.inl rfl) ⟨e,f,.inl ⟨g,h⟩⟩ x,y⟩
theorem DTK.v0 (hd:memB C.N ops mem Mc k nk0 σ.t o=some (d,true)) (h:WV P C o ⟨onlyT σ.t (o.looksAt ops),Mc,nk0⟩ av) (r:DTK P C ops mem Mc McB e0 nk0 (k+1) rest (σ.put d av) Q):DTK P C ops mem Mc McB e0 nk0 k (o::rest) σ Q:=by
 obtain ⟨a,b,c,e,f,g⟩:=memB_of hd
 obtain ⟨s,x,y⟩:=r
 exact ⟨s,.val k o rest d av nk0 Mc σ s (.inl rfl) a b c (.inl rfl) ⟨e,f,.inl ⟨g,h⟩⟩ x,y⟩
theorem DTK.wr {M':List (Nat×AO)} {nk':Nat} (av:AV) (hm:mem.getD k false=true) (hn:Nat.ble σ.nk nk'=true) (hs:msSub Mc M') (hsB:Nat.blt k e0=true→msSub McB M') (h:DoesS P C ops o σ av M' nk') (r:DTK P C ops mem Mc McB e0 nk0 (k+1) rest ⟨ent1 o.dst true av++σ.t,M',nk'⟩ Q):DTK P C ops mem Mc McB e0 nk0 k (o::rest) σ Q:=by
 obtain ⟨s,x,y⟩:=r
 exact ⟨s,.mem k o rest av M' nk' σ s hm hn hs hsB h x,y⟩
theorem DTK.st (hd:memB C.N ops mem McB k nk0 σ.t o=some (d,true)) (hn:needs ops k ops.size e0=true) (h:stepV P ⟨onlyT σ.t (o.looksAt ops),McB,nk0⟩ o.op=some av) (r:DTK P C ops mem Mc McB e0 nk0 (k+1) rest (σ.put d av) Q):DTK P C ops mem Mc McB e0 nk0 k (o::rest) σ Q:=DTK.vl hd hn (stepV_of rfl h) r
theorem DTK.ixs {q:Nat} {rows:List (List AV)} {z:Int} (hd:memB C.N ops mem McB k nk0 σ.t o=some (d,true)) (hn:needs ops k ops.size e0=true) (h:ixsV P ⟨onlyT σ.t (o.looksAt ops),McB,nk0⟩ o.op=some (q,rows,z)) (h0:0≤z∧z<rows.length)
  (r:DTK P C ops mem Mc McB e0 nk0 (k+1) rest (σ.put d (.pt q z.toNat 0)) Q):DTK P C ops mem Mc McB e0 nk0 k (o::rest) σ Q:=DTK.vl hd hn (ixsV_of h h0.1 h0.2) r
theorem DTK.ldr {rows:List (List AV)} {i j:Nat} {r:List AV} {av:AV} (hd:memB C.N ops mem McB k nk0 σ.t o=some (d,true)) (hn:needs ops k ops.size e0=true) (h:ldrV P ⟨onlyT σ.t (o.looksAt ops),McB,nk0⟩ o.op=some (rows,i,j)) (hi:rows[i]?=some r) (hj:r[j]?=some av) (ho2:av.own=false)
  (K:DTK P C ops mem Mc McB e0 nk0 (k+1) rest (σ.put d av) Q):DTK P C ops mem Mc McB e0 nk0 k (o::rest) σ Q:=DTK.vl hd hn (ldrV_of h hi hj ho2) K
theorem DTK.ldQ {rows:List (List AV)} {i j hi hj:Nat} {r:List AV} {av:AV} (hd:memB C.N ops mem McB k nk0 σ.t o=some (d,true)) (hn:needs ops k ops.size e0=true) (h:ldqV P ⟨onlyT σ.t (o.looksAt ops),McB,nk0⟩ o.op=some (rows,i,j,hi,hj,av)) (e1:i=hi) (e2:j=hj) (hr:rows[i]?=some r) (hjr:j<r.length)
  (K:DTK P C ops mem Mc McB e0 nk0 (k+1) rest (σ.put d av) Q):DTK P C ops mem Mc McB e0 nk0 k (o::rest) σ Q:=DTK.vl hd hn (ldqV_O h e1 e2 hr hjr) K
theorem DTK.al {T:TypeId} {z:Value} {l:List AV} (hd:wrB mem C.N k o=some d) (ho:o.op=.alloc T) (hz:(P.info? T).bind (·.zero)=some z) (hl:z.cells.toList.map .sc=l) (hs:msSub Mc ((σ.nk,.box T l)::σ.M)) (hsB:Nat.blt k e0=true→msSub McB ((σ.nk,.box T l)::σ.M))
  (r:DTK P C ops mem Mc McB e0 nk0 (k+1) rest ⟨(d,.pt σ.nk 0 0)::σ.t,(σ.nk,.box T l)::σ.M,σ.nk+1⟩ Q):DTK P C ops mem Mc McB e0 nk0 k (o::rest) σ Q:=by
 obtain ⟨a,b,c,e⟩:=wrB_of hd
 have he:ent1 o.dst true (.pt σ.nk 0 0)=[(d,.pt σ.nk 0 0)]:=by rw [b];rfl
 refine DTK.wr (.pt σ.nk 0 0) a (Nat.ble_eq_true_of_le (Nat.le_succ _)) hs hsB ⟨c,fun t _=>?_⟩ (by rw [he];exact r)
 rw [he]
 exact WO.alloc (σ:=⟨t,σ.M,σ.nk⟩) ho hz b e hl rfl
theorem DTK.sto {T m:Nat} {x y:Operand} {q i j:Nat} {ob ob':AO} {l:List AV} {M2:List (Nat×AO)} (hm:mem.getD k false=true) (hg:o.guard=none) (hds:o.dst=none) (ho:o.op=.store T x y) (hn:sizeB P T=some m) (hx:σ.ev x=some (.pt q i j)) (hk:look q σ.M=some ob) (hy:σ.ev y=some av)
  (hB:av.cellB=true) (hl:av.cells=l) (hlm:l.length=m) (h1:l.all AV.oneB=true) (hp:ob.put i j l=some ob') (hM:remS q σ.M=some M2) (hs:msSub Mc ((q,ob')::M2)) (hsB:Nat.blt k e0=true→msSub McB ((q,ob')::M2)) (r:DTK P C ops mem Mc McB e0 nk0 (k+1) rest ⟨σ.t,(q,ob')::M2,σ.nk⟩ Q):DTK P C ops mem Mc McB e0 nk0 k (o::rest) σ Q:=by
 have he:∀ av,ent1 o.dst true av=[]:=fun av=>by rw [hds];rfl
 refine DTK.wr (.sc undef) hm (Nat.ble_eq_true_of_le (Nat.le_refl _)) hs hsB ⟨hg,fun t H=>?_⟩ (by rw [he];exact r)
 rw [he]
 have hmem:∀ z∈[x,y],z∈o.op.operands.toList:=fun z hz=>by rw [ho];simp [Op.operands] at hz ⊢;exact hz
 rw [remS_eq hM]
 exact wo_rem (WO.store (σ:=⟨t,σ.M,σ.nk⟩) ho hds hn ((ev_agree H (hmem x (by simp))).trans hx) hk ((ev_agree H (hmem y (by simp))).trans hy) hB hl hlm h1 hp)
theorem DTK.ct (hB:Holds B gl C) {f:FuncId} {args args':List AV} {res res':AV} {M M' M2:List (Nat×AO)} {nk nk' n2:Nat} (ks:List Nat) (hd:wrB mem C.N k o=some d) (he:calE σ o.op=some (f,args')) (hc:∀ vs w,(callFunc f vs).run P w=.ok (.enter f vs) w)
  (h:Cto B gl P f args M nk res M' nk') (hks:ksB ks nk σ.nk=true) (ha:args.map (AV.ren (rhoC ks nk σ.nk))=args') (hp:args.all (AV.inn nk)=true) (hM:TrM σ (rhoC ks nk σ.nk) nk M)
  (hq:(Nat.ble nk nk' && M'.all (fun x=>x.2.inn nk') && M'.all (fun x=>Nat.blt x.1 nk') && res.inn nk')=true) (hr:res.ren (rhoC ks nk σ.nk)=res') (hM2:renM (rhoC ks nk σ.nk) M'++remL ks σ.M=M2) (hn2:σ.nk+(nk'-nk)=n2) (hs:msSub Mc M2) (hsB:Nat.blt k e0=true→msSub McB M2)
  (r:DTK P C ops mem Mc McB e0 nk0 (k+1) rest ⟨(d,res')::σ.t,M2,n2⟩ Q):DTK P C ops mem Mc McB e0 nk0 k (o::rest) σ Q:=by
 subst hM2 hn2
 obtain ⟨a,b,c,e⟩:=wrB_of hd
 have hent:ent1 o.dst true res'=[(d,res')]:=by rw [b];rfl
 simp only [Bool.and_eq_true] at hq
 unfold calE at he
 split at he
 ·rename_i y xs ts ho
  split at he
  ·rename_i fv args0 hy hx
   split at he
   ·rename_i f' caps hf
    cases he
    refine DTK.wr res' a (Nat.ble_eq_true_of_le (Nat.le_add_right _ _)) hs hsB ⟨c,fun t H=>?_⟩ (by rw [hent];exact r)
    rw [hent]
    have hmem:∀ q∈y::xs,q∈o.op.operands.toList:=fun q hq=>by rw [ho];simp [Op.operands,Call.operands] at hq ⊢;exact hq
    have:=WO.cto (P:=P) (C:=C) (σ:=⟨t,σ.M,σ.nk⟩) (xs:=⟨xs⟩) hB ks ho hc ((ev_agree H (hmem y (by simp))).trans hy) hf ((evs_agree H fun q hq=>hmem q (List.mem_cons_of_mem _ hq)).trans hx) rfl h hks ha hp (trM_same (σ:=σ) (σ':=⟨t,σ.M,σ.nk⟩) (ρ:=rhoC ks nk σ.nk) rfl hM) hq.1.1.1 hq.1.1.2 hq.1.2 hq.2 hr (by rw [b];exact e)
    rw [b] at this
    exact this
   ·cases he
  ·cases he
 ·cases he
theorem DTK.of_m {M':List (Nat×AO)} {nk':Nat} (hm:mem.getD k false=true) (hd:o.dst=some d) (hn:Nat.ble σ.nk nk'=true) (hs:msSub Mc M') (hsB:Nat.blt k e0=true→msSub McB M') (h:DoesM P C ops o σ d av M' nk') (r:DTK P C ops mem Mc McB e0 nk0 (k+1) rest ⟨(d,av)::σ.t,M',nk'⟩ Q):DTK P C ops mem Mc McB e0 nk0 k (o::rest) σ Q:=by
 have hent:ent1 o.dst true av=[(d,av)]:=by rw [hd];rfl
 exact DTK.wr av hm hn hs hsB ⟨h.1,fun t H=>by rw [hent];exact h.2 t H⟩ (by rw [hent];exact r)
theorem DTK.bd {T m:Nat} {parts:Array (Nat×Operand)} {ob:AO} (hd:wrB mem C.N k o=some d) (ho:o.op=.buildSlice T m parts) (h:buildE P σ T m parts.toList=some ob) (hs:msSub Mc ((σ.nk,ob)::σ.M)) (hsB:Nat.blt k e0=true→msSub McB ((σ.nk,ob)::σ.M)) (r:DTK P C ops mem Mc McB e0 nk0 (k+1) rest ⟨(d,.sl σ.nk)::σ.t,(σ.nk,ob)::σ.M,σ.nk+1⟩ Q):DTK P C ops mem Mc McB e0 nk0 k (o::rest) σ Q:=by
 obtain ⟨a,b,c,e⟩:=wrB_of hd
 unfold buildE at h
 split at h
 ·rename_i el hT
  split at h
  ·rename_i n z avs hn hz hx
   cases hb:numB 0 parts.toList && Nat.beq parts.toList.length m && Nat.ble (m*n) 16777216 && Nat.ble m 16777216 && rowsB n avs with
   | false=>rw [hb] at h;cases h
   | true =>
    rw [hb] at h
    simp only [Bool.and_eq_true] at hb
    cases h
    exact DTK.of_m a b (Nat.ble_eq_true_of_le (Nat.le_succ _)) hs hsB (DoesM.build c ho hT hn hz hb.1.1.1.1 (Nat.eq_of_beq_eq_true hb.1.1.1.2) hb.1.1.2 hb.1.2 b e hx hb.2 rfl rfl rfl rfl) r
  ·cases h
 ·cases h
theorem DTK.ap {x:AppD} (hd:wrB mem C.N k o=some d) (h:appV P σ o.op=some x) (hl:x.a.length+x.b.length≤1000000000) (hs:msSub Mc ((σ.nk,.row x.T x.n (x.a++x.b))::rem x.k σ.M)) (hsB:Nat.blt k e0=true→msSub McB ((σ.nk,.row x.T x.n (x.a++x.b))::rem x.k σ.M)) (r:DTK P C ops mem Mc McB e0 nk0 (k+1) rest ⟨(d,.sl σ.nk)::σ.t,(σ.nk,.row x.T x.n (x.a++x.b))::rem x.k σ.M,σ.nk+1⟩ Q):DTK P C ops mem Mc McB e0 nk0 k (o::rest) σ Q:=by
 obtain ⟨a,b,c,e⟩:=wrB_of hd
 unfold appV at h
 split at h
 ·rename_i x y T T' ho
  split at h
  ·rename_i el q av2 hT hx hy
   split at h
   ·rename_i i e' n rows hi hk
    split at h
    ·rename_i z rows2 hz hs2
     cases hb:Nat.beq T T' && Nat.beq el e' && Nat.beq i.size n && Nat.beq z.cells.size n && Nat.blt 0 n && Nat.ble i.bytes 100000 with
     | false=>rw [hb] at h;cases h
     | true =>
      rw [hb] at h
      simp only [Bool.and_eq_true] at hb
      cases h
      obtain ⟨⟨⟨⟨⟨b1,b2⟩,b3⟩,b4⟩,b5⟩,b6⟩:=hb
      obtain rfl:=Nat.eq_of_beq_eq_true b1
      obtain rfl:=Nat.eq_of_beq_eq_true b2
      exact DTK.of_m a b (Nat.ble_eq_true_of_le (Nat.le_succ _)) hs hsB (DoesM.append c ho hT hi hz (Nat.eq_of_beq_eq_true b3) rfl (Nat.eq_of_beq_eq_true b4) b5 b e hx hk hy hs2 rfl hl b6 rfl rfl rfl) r
    ·cases h
   ·cases h
  ·cases h
 ·cases h
def lastB(mem:List Bool)(n e0:Nat):Bool:=(List.range n).all fun i=>!Nat.blt e0 i|| !mem.getD i false
theorem WA.dt (mem:List Bool) (ms msB:List Nat) (e0:Nat) (hl:lastB mem l.length e0=true) (hB:Region.lexB .any l.toArray=true) (hch:chainB l.toArray mem=true) (hMc:msSub (onlyM σ.M ms) σ.M) (hMcB:msSub (onlyM σ.M msB) σ.M)
  (h:DTK P C l.toArray mem (onlyM σ.M ms) (onlyM σ.M msB) e0 σ.nk 0 l σ Q):WA P C l.toArray σ Q :=
 let ⟨_,a,b⟩:=h
 WA.drawT2 mem (onlyM σ.M ms) (onlyM σ.M msB) e0 (fun i h1 h2=>by
  have:=List.all_eq_true.1 hl i (List.mem_range.2 h2)
  simp only [Bool.or_eq_true,Bool.not_eq_true'] at this
  rcases this with h|h
  ·rw [show Nat.blt e0 i=true from Nat.ble_eq_true_of_le h1] at h;cases h
  ·exact h) hB hch hMc hMcB a b
end
end
section
open Go.RowKit
def pch(v:Value):List PanicEntry:=[{ v:=v,recovered:=false }]
def Ctp (B:World→View→Prop)(g:Nat)(P:Program)(f:FuncId)(args:List AV)(M:List (Nat×AO))(nk:Nat)(pv:Value):Prop :=
 ∀ (w:World)(G:Gh)(vs:List Value),B w G.F→(∀ x,fpM G M x→g≤x)→Obs G w M nk→vs.length=args.length→(∀ (i:Nat) av u,args[i]?=some av→vs[i]?=some u→R G av u) →
  Calls P f vs.toArray w fun e w'=>e=.panicked (pch pv)∧Kept (fpM G M) w w'∧∀ p u,G.F p=some u→w'.cell? p=some u
theorem Ctp.intro {B:World→View→Prop} {g:Nat} (hS:Stab B g) {P:Program} {f:FuncId} {fn:Func} {c:Code} {args:List AV} {M:List (Nat×AO)} {nk:Nat} {pv:Value} (hf:P.funcs[f]?=some fn) (hb:fn.body=some c) {N:Nat} (hN:fn.ntmps=N) (hn:args.length≤N)
  (hp:args.all (AV.inn nk)=true)
  (h:∀ w0 F0 fp pg,Holds B g ⟨w0,F0,N,fp,nk,pg,[]⟩→W P ⟨w0,F0,N,fp,nk,pg,[]⟩ c ⟨number 0 args,M,nk⟩ (fun e _=>e=.panic (pch pv))):Ctp B g P f args M nk pv:=by
 intro w G vs hB hlo hO hl hR
 subst hN
 refine calls_of_wp hf hb ?_
 have hH:Holds B g ⟨w,G.F,fn.ntmps,fpM G M,nk,G,[]⟩:=⟨fun w2 F2 k1 k2=>hS.2 w w2 G.F F2 (fun i hi=>k1.block i (Nat.lt_of_lt_of_le hi (hS.1 w G.F hB)) fun h=>by have:=hlo i h;omega) k2 hB,fun x hx=>hx.elim (fun h=>Nat.le_trans (hS.1 w G.F hB) h) (hlo x)⟩
 have h1:=h w G.F (fpM G M) G hH G { tmps:=vs.toArray++Array.replicate (fn.ntmps - vs.toArray.size) undef,defers:=[] } w
  ⟨by simp;omega,⟨rfl,Nat.le_refl _,fun k _=>⟨rfl,rfl,rfl⟩⟩,fun i av hx=>by
   obtain ⟨_,h2⟩:=look_number args 0 i av hx
   simp only [Nat.sub_zero] at h2
   have hi:i < args.length:=(List.getElem?_eq_some_iff.1 h2).1
   have hv:i < vs.length:=by omega
   refine ⟨by show i < fn.ntmps;omega,inn_bd (List.all_eq_true.1 hp av (List.mem_of_getElem? h2)),hR i av _ h2 ?_⟩
   simp [Array.getD_eq_getD_getElem?,Array.getElem?_append_left,hv],
   Kept.refl _ _,hO.fw,fun _ _ h=>h,fun _ _ h=>.inl h,hO.ob,(fun k o x h1 h2=>⟨.inr ⟨k,o,h1,h2⟩,hO.my k o x h1 h2⟩),hO.dj,hO.dF⟩
 refine wp_mono h1 fun e a w' ⟨σ,G1,he,ok⟩=>?_
 subst he
 exact ⟨ok.df.1,rfl,ok.bel,fun p u x=>ok.fw p u (ok.f0 p u x)⟩
section
variable {B:World→View→Prop} {gl:Nat} {P:Program} {C:Cx} {σ:St} {G:Gh} {a:Act} {w:World} {o:Oper} {ops:Array Oper} {rest:List Oper} {Q:Exit→St→Prop} {d:Tmp}
theorem WL.stop (hg:o.guard=none)(h:∀ G a w,Ok C σ G a w→∀ N,o.wp P a w N (Post C Q)):WL P C ops (o::rest) σ Q:=fun G a w ok=>wpList_plain hg fun K hK=>h G a w ok K
theorem WL.pan {x:Operand} {t:TypeId} {v:Value} (hg:o.guard=none)(ho:o.op=.panic x)(hx:σ.ev x=some (.sc (.iface t v)))(k:Q (.panic (pch (.iface t v))) σ):WL P C ops (o::rest) σ Q :=
 WL.stop hg fun G a w ok N=>by
  have e:=ok.evs hx
  unfold Oper.wp execOp
  simp only [ho,e,Sem.run_bind,run_panic_iface,Oper.upon]
  exact⟨σ,G,k,ok⟩
theorem WV.mki {x:Operand} {T:TypeId} {l:List AV} {ys:List Value} (ho:o.op=.makeInterface T x) (hi:∀ v w,(Instr.makeInterface T v).run P w=.ok (.iface T v) w) (hx:σ.ev x=some (.ag l)) (hs:scs l=some ys):WV P C o σ (.sc (.iface T (.agg ys.toArray))) :=
 WV.val (fun _ _ _ _=>.sc _) fun G a w ok=>by
  have r:=(ok.evr hx).2
  obtain ⟨cs,e,h1,h2⟩:∃ cs:Array Value,a.eval x=.agg cs∧cs.size=l.length∧∀ (i:Nat) av u,l[i]?=some av→cs[i]?=some u→R G av u:=R.ag_of r
  have ey:=scs_of hs (cs:=cs.toList) (by simpa using h1) fun i av u p q=>h2 i av u p (by simpa using q)
  refine ⟨.iface T (.agg ys.toArray),?_,.pu _ _ (.sc _)⟩
  unfold execOp
  simp only [ho,e,Sem.run_bind,hi]
  rw [← ey]
  rfl
theorem call_wpp {f:FuncId} {o:Oper} {y:Operand} {xs:Array Operand} {ts:Array TypeId} {cs:Array Value} {R':Ending→World→Prop} {N:Act→World→Prop} {Q':Exit→Act→World→Prop} (ho:o.op=.call { callee:=.value y,args:=xs,argTypes:=ts })(hc:∀ vs w,(callFunc f vs).run P w=.ok (.enter f vs) w)
  (ey:a.eval y=.func (.func f) #[] cs)(h:Calls P f (xs.toList.map a.eval++cs.toList).toArray w R')(hN:∀ e w1,R' e w1→∃ c,e=.panicked c∧Q' (.panic c) a w1):o.wp P a w N Q':=by
 unfold Oper.wp execOp
 have e3:(#[]++xs.map a.eval++cs:Array Value)=(xs.toList.map a.eval++cs.toList).toArray:=by apply Array.ext';simp
 simp only [ho,resolve,ey,Deferred.ofValue,invoke,Sem.run_bind,Sem.run_pure,Result.andThen_ok,hc,Oper.upon,e3]
 refine h.mono fun e w1 hr=>?_
 obtain⟨c,rfl,hn⟩:=hN e w1 hr
 exact hn
theorem Ok.ctpC (ok:Ok C σ G a w) (hB:Holds B gl C) {f:FuncId} {args args':List AV} {M:List (Nat×AO)} {nk:Nat} {pv:Value} (ks:List Nat) {vs:List Value} (hl:vs.length=args'.length) (hR:∀ (i:Nat) av u,args'[i]?=some av→vs[i]?=some u→R G av u)
  (h:Ctp B gl P f args M nk pv) (hks:ksB ks nk σ.nk=true) (ha:args.map (AV.ren (rhoC ks nk σ.nk))=args') (hp:args.all (AV.inn nk)=true) (hM:TrM σ (rhoC ks nk σ.nk) nk M) :
  Calls P f vs.toArray w fun e w1=>∃ G'',e=.panicked (pch pv)∧Ok C ⟨σ.t,remL ks σ.M,σ.nk⟩ G'' a w1:=by
 have hks2:=hks
 simp only [ksB,Bool.and_eq_true] at hks2
 obtain ⟨⟨⟨hk1,_⟩,hk3⟩,hk4⟩:=hks2
 have hlen:=Nat.eq_of_beq_eq_true hk1
 have hnod:=nod_of hk3
 have rlo:∀ i,i<nk→rhoC ks nk σ.nk i=ks.getD i 0:=fun i hi=>by
  show (bif Nat.blt i nk then _ else _)=_
  rw [show Nat.blt i nk=true from Nat.ble_eq_true_of_le hi];rfl
 have hat:∀ i,i<nk→ks[i]?=some (ks.getD i 0):=fun i hi=>by
  rw [List.getD_eq_getElem?_getD,List.getElem?_eq_getElem (by omega)];rfl
 have hMat:∀ k o,look k M=some o→look (ks.getD k 0) σ.M=some (o.ren (rhoC ks nk σ.nk))∧o.inn nk=true∧k<nk:=fun k o h=>by
  obtain ⟨h1,h2,h3⟩:=hM.at_ k o h
  rw [rlo k h3] at h1
  exact ⟨h1,h2,h3⟩
 have hMk:∀ x,fpM (G.ren (rhoC ks nk σ.nk)) M x→∃ k o,k<nk∧look (ks.getD k 0) σ.M=some o∧G.fp (ks.getD k 0) x:=fun x ⟨k,o,h1,h2⟩=>by
  obtain ⟨h3,_,h4⟩:=hMat k o h1
  have h2:G.fp (rhoC ks nk σ.nk k) x:=h2
  rw [rlo k h4] at h2
  exact ⟨k,_,h4,h3,h2⟩
 have hO:Obs (G.ren (rhoC ks nk σ.nk)) w M nk:=by
  refine ⟨ok.fw,fun k o h=>?_,fun k o x h1 h2=>?_,fun k o k' o' x h1 h2 h3 h4=>?_,fun k o x p u h1 h2 h3=>?_⟩
  ·obtain ⟨h1,h2,h3⟩:=hM.at_ k o h
   have g:=(ok.ob _ _ h1).2.2
   exact ⟨h3,(ObAt.ren h2 g).1,(ObAt.ren h2 g).2⟩
  ·obtain ⟨h3,_,_⟩:=hM.at_ k o h1
   exact (ok.my _ _ x h3 h2).2
  ·obtain ⟨f1,_,f2⟩:=hM.at_ k o h1
   obtain ⟨f3,_,f4⟩:=hM.at_ k' o' h2
   have:=ok.dj _ _ _ _ x f1 f3 h3 h4
   rw [rlo k f2,rlo k' f4] at this
   have g1:=idx_of hnod (hat k f2)
   have g2:=idx_of hnod (hat k' f4)
   rw [this,g2] at g1
   exact (Option.some.inj g1).symm
  ·obtain ⟨f1,_,_⟩:=hM.at_ k o h1
   exact ok.dF _ _ x p u f1 h2 h3
 have hcalls:=h w (G.ren (rhoC ks nk σ.nk)) vs (hB.1 w G.F ok.bel ok.f0) (fun x hx=>by
   obtain ⟨k,o,_,h1,h2⟩:=hMk x hx
   exact hB.2 x (ok.my _ o x h1 h2).1) hO (by rw [hl,← ha];simp) fun i av u p q=>by
  have:args'[i]?=some (av.ren (rhoC ks nk σ.nk)):=by rw [← ha,List.getElem?_map,p];rfl
  exact R.ren_ (List.all_eq_true.1 hp av (List.mem_of_getElem? p)) (hR i _ u this q)
 refine hcalls.mono fun e w1 ⟨he,q1,q2⟩=>?_
 obtain ⟨G'',ok',_⟩:=ok.cto (M:=M) (M':=[]) (nk':=nk) (G':=G.ren (rhoC ks nk σ.nk)) hks (fun k o h=>⟨(hMat k o h).2.2,_,(hMat k o h).1⟩) hMk q1 (fun _ _ h=>h) (fun p u x=>.inl x)
  ⟨q2,(fun k o h=>by cases h),(fun k o x h=>by cases h),(fun k o k' o' x h=>by cases h),(fun k o x p u h=>by cases h)⟩ (fun k o x h=>by cases h) (fun k _=>⟨rfl,rfl,rfl⟩) (Nat.le_refl _) rfl rfl
 refine ⟨G'',he,?_⟩
 have e0:σ.nk+(nk-nk)=σ.nk:=by omega
 rw [e0] at ok'
 exact ok'
theorem WL.ctp (hB:Holds B gl C) {f:FuncId} {args args':List AV} {M:List (Nat×AO)} {nk:Nat} {pv:Value} {t:List (Nat×AV)} {M0:List (Nat×AO)} {n0:Nat} (ks:List Nat) (hg:o.guard=none) (he:calE ⟨t,M0,n0⟩ o.op=some (f,args')) (hc:∀ vs w,(callFunc f vs).run P w=.ok (.enter f vs) w)
  (h:Ctp B gl P f args M nk pv) (hks:ksB ks nk n0=true) (ha:args.map (AV.ren (rhoC ks nk n0))=args') (hp:args.all (AV.inn nk)=true) (hM:TrM ⟨t,M0,n0⟩ (rhoC ks nk n0) nk M)
  (k:Q (.panic (pch pv)) ⟨t,remL ks M0,n0⟩):WL P C ops (o::rest) ⟨t,M0,n0⟩ Q:=by
 unfold calE at he
 split at he
 ·rename_i y xs ts ho
  split at he
  ·rename_i fv args0 hy hx
   split at he
   ·rename_i f' caps hf
    cases he
    refine WL.stop hg fun G a w ok N=>?_
    obtain ⟨cs,ey,h1,h2⟩:=fnOf_of hf (ok.evr hy).2
    obtain ⟨hl,hR⟩:=ok.evl2 (xs:=⟨xs⟩) hx h1 h2 rfl
    exact call_wpp ho hc ey (ok.ctpC hB ks hl hR h hks ha hp hM) fun e w1 ⟨G'',he,ok'⟩=>⟨_,he,_,G'',k,ok'⟩
   ·cases he
  ·cases he
 ·cases he
end
end
section
open Go.RowKit
inductive UR where
 | ok (res:AV)(M':List (Nat×AO))(nk':Nat)
 | er (pv:Value)
def Ctu (B:World→View→Prop)(g:Nat)(P:Program)(f:FuncId)(args:List AV)(M:List (Nat×AO))(nk:Nat):UR→Prop
 | .ok res M' nk'=>Cto B g P f args M nk res M' nk'
 | .er pv=>Ctp B g P f args M nk pv
def QFinU (P:Program)(fn:Func)(C:Cx):UR→Exit→St→Prop
 | .ok res M' nk'=>QFinM P fn C res M' nk'
 | .er pv=>fun e _=>e=.panic (pch pv)
theorem Ctu.intro {B:World→View→Prop} {g:Nat} (hS:Stab B g) {P:Program} {f:FuncId} {fn:Func} {c:Code} {args:List AV} {M:List (Nat×AO)} {nk:Nat} {r:UR} (hf:P.funcs[f]?=some fn) (hb:fn.body=some c) {N:Nat} (hN:fn.ntmps=N) (hn:args.length≤N)
  (hp:args.all (AV.inn nk)=true)
  (h:∀ w0 F0 fp pg,Holds B g ⟨w0,F0,N,fp,nk,pg,[]⟩→W P ⟨w0,F0,N,fp,nk,pg,[]⟩ c ⟨number 0 args,M,nk⟩ (QFinU P fn ⟨w0,F0,N,fp,nk,pg,[]⟩ r)):Ctu B g P f args M nk r:=by
 cases r with
 | ok res M' nk'=>exact Cto.intro hS hf hb hN hn hp h
 | er pv=>exact Ctp.intro hS hf hb hN hn hp h
theorem Ctu.ok_ {B:World→View→Prop} {g:Nat} {P:Program} {f:FuncId} {args:List AV} {M:List (Nat×AO)} {nk:Nat} {r:UR} {res:AV} {M':List (Nat×AO)} {nk':Nat} (h:Ctu B g P f args M nk r)(e:r=.ok res M' nk'):Cto B g P f args M nk res M' nk':=by subst e;exact h
theorem Ctu.er_ {B:World→View→Prop} {g:Nat} {P:Program} {f:FuncId} {args:List AV} {M:List (Nat×AO)} {nk:Nat} {r:UR} {pv:Value} (h:Ctu B g P f args M nk r)(e:r=.er pv):Ctp B g P f args M nk pv:=by subst e;exact h
end
section
open Go.RowKit
section
variable {P:Program} {C:Cx} {σ:St} {ops:Array Oper} {l:List Oper} {Q Q' Q1 Q2 Q3:Exit→St→Prop}
theorem QBlock.mono {id:Nat} (h:∀ e s,Q e s→Q' e s):∀ e s,QBlock id Q e s→QBlock id Q' e s:=fun e s q=>by
 cases e with
 | exit id' =>
  show if id'=id then Q' .normal s else Q' (.exit id') s
  have q:if id'=id then Q .normal s else Q (.exit id') s:=q
  by_cases e:id'=id
  ·rw [if_pos e] at q ⊢;exact h _ _ q
  ·rw [if_neg e] at q ⊢;exact h _ _ q
 | _=>exact h _ _ q
theorem QThen.mono {N N':St→Prop} (hN:∀ s,N s→N' s)(h:∀ e s,Q e s→Q' e s):∀ e s,QThen N Q e s→QThen N' Q' e s:=fun e s q=>by
 cases e with
 | normal=>exact hN s q
 | _=>exact h _ _ q
theorem WL.mono (h:WL P C ops l σ Q)(hq:∀ e s,Q e s→Q' e s):WL P C ops l σ Q':=fun G a w ok=>wpList_mono' (h G a w ok) fun e a w⟨s,g,q,o⟩=>⟨s,g,hq e s q,o⟩
theorem WL.meetB {id:Nat} {x y:Code} (σm:St)(h:WL P C ops l σ (QThen (fun s=>W P C x s (QBlock id (QThen (fun s=>Tr C s σm) Q))) Q1))(k:W P C y σm Q2) :
  WL P C ops l σ (QThen (fun s=>W P C x s (QBlock id (QThen (fun s=>W P C y s Q2) Q))) Q1) :=
 WL.mono h (QThen.mono (fun s q=>W.mono q (QBlock.mono (QThen.mono (fun s q=>W.tr q k) fun _ _ q=>q))) fun _ _ q=>q)
theorem W.meetB {id:Nat} {x y:Code} (σm:St)(h:W P C x σ (QBlock id (QThen (fun s=>Tr C s σm) Q)))(k:W P C y σm Q2):W P C x σ (QBlock id (QThen (fun s=>W P C y s Q2) Q)) :=
 W.mono h (QBlock.mono (QThen.mono (fun s q=>W.tr q k) fun _ _ q=>q))
theorem QFinM.sub {fn:Func} {res:AV} {M' M'':List (Nat×AO)} {nk':Nat} {e:Exit} (h:QFinM P fn C res M' nk' e σ) (hs:msSub M'' M'):QFinM P fn C res M'' nk' e σ :=
 ⟨h.1,fun G a w ok=>by
  obtain ⟨v,G',e1,ok',b,r⟩:=h.2 G a w ok
  have g:=msSub_at hs
  exact ⟨v,G',e1,⟨ok'.sz,ok'.df,ok'.tm,ok'.bel,ok'.fw,ok'.f0,ok'.f1,fun k o x=>ok'.ob k o (g k o x),fun k o x h1 h2=>ok'.my k o x (g k o h1) h2,fun k o k' o' x h1 h2=>ok'.dj k o k' o' x (g k o h1) (g k' o' h2),fun k o x p u h1=>ok'.dF k o x p u (g k o h1)⟩,b,r⟩⟩
theorem finMs {fn:Func} {avs:List AV} {res:AV} {M':List (Nat×AO)} {nk':Nat} (h:resL P σ fn.results.toList=some avs)(hp:avs.all (fun av=>!ownB av)=true)(e:resT avs=res)(hs:msSub M' σ.M)(hk:σ.nk=nk'):QFinM P fn C res M' nk' .ret σ :=
 QFinM.sub (finM h hp e rfl hk) hs
end
end
section
open Go.RowKit
def pcOk(s crs L:Int)(l:List UInt8)(c f r g h:Nat):Prop:=(1≤c∧c≤14)∧f≤18∧standsB s crs c=true∧stM s c f l L r g h=true
theorem pcOk_uniq {s crs L:Int} {l:List UInt8} {c f r g h c' f' r' g' h':Nat} (hsp:spotErr s crs=0) (hL:0≤L∧L≤15) (a:pcOk s crs L l c f r g h) (b:pcOk s crs L l c' f' r' g' h') :
  c=c'∧f=f'∧r=r'∧g=g'∧h=h':=by
 obtain ⟨a1,a2,a3,a4⟩:=a
 obtain ⟨b1,b2,b3,b4⟩:=b
 obtain ⟨a5,a6,a7⟩:=stM_ok a4
 obtain ⟨b5,b6,b7⟩:=stM_ok b4
 have k:=cell_inj s crs c f r g h c' f' r' g' h' L hsp zqo zqo zqo zqo zqo zqo zqo zqo zqo zqo a3 b3 a6 b6 (a7.trans b7.symm)
 omega
def NoC(s crs L:Int)(l:List UInt8)(n:Nat):Prop:=∀ c f r g h:Nat,c<n→¬ pcOk s crs L l c f r g h
end
section
open Go.RowKit
theorem scanC_mem (m:Nat→Nat→Bool):∀ (n c a b:Nat),scanC m c n=some (a,b)→c≤a∧a<c+n∧b≤18∧m a b=true:=by
 intro n
 induction n with
 | zero=>intro c a b h;cases h
 | succ n ih =>
  intro c a b h
  rw [scanC_succ] at h
  cases e:scanF (m c) 0 19 with
  | none =>
   rw [e] at h
   obtain⟨x,y,z⟩:=ih (c+1) a b h
   exact⟨by omega,by omega,z⟩
  | some f =>
   rw [e] at h
   simp only [Option.some.injEq,Prod.mk.injEq] at h
   obtain⟨rfl,rfl⟩:=h
   unfold scanF at e
   have h1:=List.find?_some e
   have h2:=List.mem_of_find?_eq_some e
   rw [List.mem_range'_1] at h2
   exact⟨by omega,by omega,by omega,h1⟩
theorem placeOf_cases {s crs:Int} (l:List UInt8) (h:spotErr s crs=0) :
  (∃ c f:Nat,placeOf s crs l=((c:Int),(f:Int),0)∧(1≤c∧c≤14)∧f≤18∧standsB s crs c=true∧rS s c f=l)∨placeOf s crs l=(0,0,4):=by
 cases e:scanC (plM s crs l) 1 14 with
 | none=>exact .inr (placeOf_none h e)
 | some cf =>
  obtain ⟨c,f⟩:=cf
  obtain ⟨x,y,z,m⟩:=scanC_mem _ _ _ _ _ e
  unfold plM at m
  simp only [Bool.and_eq_true] at m
  exact .inl ⟨c,f,placeOf_some h e,by omega,z,m.1,by simpa using m.2.2⟩
theorem spotErr_sys {s crs:Int} (h:spotErr s crs=0):1≤s∧s≤4:=by
 by_cases k:1≤s∧s≤4
 ·exact k
 ·unfold spotErr at h;rw [if_pos k]at h;cases h
theorem pcOk_sym {s crs L:Int} {l:List UInt8} {c f r g h:Nat} (hsp:spotErr s crs=0) (a:pcOk s crs L l c f r g h) :
  1≤(rS s c f).length∧(rS s c f).length≤l.length∧placeOf s crs (l.take (rS s c f).length)=((c:Int),(f:Int),0):=by
 obtain ⟨a1,a2,a3,a4⟩:=a
 obtain ⟨a5,a6,a7⟩:=stM_ok a4
 have hs:=spotErr_sys hsp
 obtain ⟨l1,l2⟩:=sym_law s c f hs zqo zqo
 have hok:pOk s c f=true:=by
  cases e:pOk s c f with
  | true=>rfl
  | false=>unfold cellOk at a6;rw [e]at a6;simp at a6
 have hne:rS s c f≠[]:=by intro k;rw [k]at l1;rw [l1]at hok;simp at hok
 have e0:symErr s c f=0:=by unfold symErr;rw [if_neg (fun k=>k hs),if_neg (by omega),if_neg (by omega),if_neg hne]
 have hl:l=rS s c f++(rR s r++(rG s g++pH s h L)):=by
  rw [← a7];unfold cellS;rw [l2 hok];simp
 have ht:l.take (rS s c f).length=rS s c f:=by rw [hl];simp
 have hlen:(rS s c f).length≤l.length:=by rw [hl];simp
 have hp:=(apart_law s c f e0).2
 rw [← spot_of s crs c hsp a3]at hp
 refine ⟨?_,hlen,by rw [ht];exact hp⟩
 cases hq:rS s c f with
 | nil=>exact absurd hq hne
 | cons x t=>simp
theorem pc_step {s crs L:Int} {l:List UInt8} {n:Nat} (hsp:spotErr s crs=0)(hn:∀ c f r g h:Nat,pcOk s crs L l c f r g h→n≤(rS s c f).length)
  (hno:∀ c f r g h:Nat,placeOf s crs (l.take n)=((c:Int),(f:Int),0)→¬ pcOk s crs L l c f r g h):∀ c f r g h:Nat,pcOk s crs L l c f r g h→n+1≤(rS s c f).length:=by
 intro c f r g h a
 have h1:=hn c f r g h a
 by_cases e:(rS s c f).length=n
 ·have:=(pcOk_sym hsp a).2.2
  rw [e]at this
  exact absurd a (hno c f r g h this)
 ·omega
theorem cell_of_i {s c f L:Int} {l:List UInt8} {r g h:Nat} (hs:1≤s∧s≤4) (hc:1≤c∧c≤14) (hf:0≤f∧f≤18) (hr:r≤3) (hg:g≤4) (hh:(h:Int)≤L) (hL:0≤L∧L≤15) :
  stM s c f l L r g h=((cellErr s c f r g h L == 0) && (cellTxt s c f r g h L == l)):=by
 by_cases z:0<h∧f=0
 ·rw [stM_hf z,(cellErr_holds s c f r g h L hs hc hf (by omega) (by omega)).2];rfl
 ·have hz:0<h→f≠0:=fun a b=>z ⟨a,b⟩
  have e:=cellErr_ok s c f r g h L hs hc hf zqo zqo
  have hd:decide (r≤3∧g≤4∧(h:Int)≤L∧(0<h→f≠0))=true:=decide_eq_true ⟨hr,hg,hh,hz⟩
  unfold stM
  rw [hd,Bool.true_and]
  cases hk:cellOk s c f r g h L with
  | true =>
   rw [hk,if_pos rfl]at e
   simp only [Value.tuple.injEq,Value.int.injEq,Array.mk.injEq,List.cons.injEq,true_and,and_true]at e
   have e0:=e.2
   have et:cellTxt s c f r g h L=cellS s c f r g h L:=if_pos e0
   rw [e0,et];rfl
  | false =>
   rw [hk,if_neg (by decide)]at e
   simp only [Value.tuple.injEq,Value.int.injEq,Array.mk.injEq,List.cons.injEq,true_and,and_true]at e
   rw [e.2];rfl
end
section
open Go.RowKit
theorem rm_sound {s crs:Int} {w:List UInt8} {n:Nat} {c f:Int} {x:Int×Int×Int} (hsp:spotErr s crs=0) (h1:1≤n) (hn:n≤w.length) (hp:placeOf s crs (w.take n)=(c,f,0)) (hm:rm_mk s (decide (0<f)) (w.drop n)=some x) :
  ∃ c' f' r g h:Nat,c=(c':Int)∧f=(f':Int)∧pcOk s crs 15 w c' f' r g h∧x=((r:Int),(g:Int),rm_hold s h):=by
 have hs:=spotErr_sys hsp
 rcases placeOf_cases (w.take n) hsp with⟨c',f',p1,p2,p3,p4,p5⟩|p
 ·rw [hp] at p1
  obtain ⟨rfl,rfl⟩:c=(c':Int)∧f=(f':Int):=by
   have:=Prod.mk.inj p1
   exact ⟨this.1,(Prod.mk.inj this.2).1⟩
  obtain ⟨r,g,h,q1,q2,q3,q4,q5,q6,q7,q8,q9⟩:=rm_of hs hm
  obtain ⟨l1,l2⟩:=sym_law s c' f' hs zqo zqo
  have hne:rS s c' f'≠[]:=by
   rw [p5]
   intro e
   have:=congrArg List.length e
   rw [List.length_take,List.length_nil] at this
   omega
  have hok:pOk s c' f'=true:=by
   rw [l1]
   cases hz:rS s c' f' with
   | nil=>exact absurd hz hne
   | cons _ _=>rfl
  have hw:cellS s c' f' r g h 15=w:=by
   unfold cellS
   rw [l2 hok,p5,List.append_assoc,List.append_assoc,← List.append_assoc (rR s r),← q8,List.take_append_drop]
  refine ⟨c',f',r,g,h,rfl,rfl,⟨p2,p3,p4,?_⟩,q9⟩
  unfold stM
  rw [hw]
  have hd:decide (r≤3∧g≤4∧(h:Int)≤15∧(0<h→(f':Int)≠0))=true:=decide_eq_true ⟨q1,q2,by omega,fun k=>by have:=of_decide_eq_true (q7 k);omega⟩
  rw [hd]
  unfold cellOk
  rw [hok,q4,q5,q6]
  simp
 ·rw [hp] at p
  have:=Prod.mk.inj (Prod.mk.inj p).2
  exact absurd this.2 (by decide)
theorem rm_complete {s crs:Int} {w:List UInt8} {c f r g h:Nat} (hsp:spotErr s crs=0) (a:pcOk s crs 15 w c f r g h) :
  1≤(rS s c f).length∧(rS s c f).length≤w.length∧placeOf s crs (w.take (rS s c f).length)=((c:Int),(f:Int),0)∧rm_mk s (decide (0<(f:Int))) (w.drop (rS s c f).length)=some ((r:Int),(g:Int),rm_hold s h):=by
 obtain ⟨b1,b2,b3⟩:=pcOk_sym hsp a
 have hs:=spotErr_sys hsp
 obtain ⟨a1,a2,a3,a4⟩:=a
 obtain ⟨a5,a6,a7⟩:=stM_ok a4
 obtain ⟨l1,l2⟩:=sym_law s c f hs zqo zqo
 unfold cellOk at a6
 simp only [Bool.and_eq_true] at a6
 have hw:w=rS s c f++(rR s r++rG s g++pH s h 15):=by
  rw [← a7];unfold cellS;rw [l2 a6.1.1.1];simp
 refine ⟨b1,b2,b3,?_⟩
 have hd:w.drop (rS s c f).length=rR s r++rG s g++pH s h 15:=by rw [hw,List.drop_left]
 rw [hd]
 exact rm_back hs zqo zqo zqo a6.1.1.2 a6.1.2 a6.2 (fun k=>decide_eq_true zqo)
end
section
open Go.RowKit
def sp(t:List UInt8):List UInt8:=32::t
def stT (s:Int)(L:Int→Nat)(x:Stp):List UInt8:=cellS s x.1 x.2.1 x.2.2.1 x.2.2.2.1 x.2.2.2.2 (L x.1)
def stK (s:Int)(L:Int→Nat)(x:Stp):Bool:=cellOk s x.1 x.2.1 x.2.2.1 x.2.2.2.1 x.2.2.2.2 (L x.1)
def stOn(l:List Stp)(c:Int):Option Stp:=l.find? fun x=>x.1 == c
def stF(s:Int)(L:Int→Nat)(l:List Stp)(c:Int):List UInt8 :=
 match stOn l c with
 | some x=>stT s L x
 | none=>[45]
def asc:Int→List Stp→Prop
 | _,[]=>True
 | m,x::r=>m<x.1∧asc x.1 r
theorem stOn_none {l:List Stp} {c:Int} (h:∀ x∈l,x.1≠c):stOn l c=none:=by
 unfold stOn
 rw [List.find?_eq_none]
 intro x hx
 simpa using h x hx
def cAt(s:Int)(n j:Nat):Int:=if s=2 then(n:Int)-j else(j:Int)+1
def staffL (s:Int)(L:Int→Nat)(n:Nat)(l:List Stp):List (List UInt8):=(List.range n).map fun j=>stF s L l (cAt s n j)
def outL (s:Int)(L:Int→Nat)(n:Nat)(l:List Stp):List (List UInt8) :=
 if s=2 then ((l.filter fun x=>decide ((n:Int)<x.1)).map (stT s L)).reverse else (l.filter fun x=>decide ((n:Int)<x.1)).map (stT s L)
def headW (s:Int)(e:Ev):List (List UInt8):=if e.bar=true then [[124],tW e.val (sgI e.dot e.three)]else [tW e.val (sgI e.dot e.three)]
def staffN(s:Int)(p:Pce):Nat:=if s=4 then 0 else min p.cs.length 6
def colW (s:Int) (p:Pce) (i:Int) (e:Ev):List (List UInt8) :=
 headW s e++(if e.tie=true then [[126]] else if e.stops.length=0 then [[37]] else
  if s=2 then outL s (fun c=>longestN p.evs i c) (staffN s p) e.stops++staffL s (fun c=>longestN p.evs i c) (staffN s p) e.stops
  else staffL s (fun c=>longestN p.evs i c) (staffN s p) e.stops++outL s (fun c=>longestN p.evs i c) (staffN s p) e.stops)
def spW (l:List (List UInt8)):List UInt8:=l.flatMap sp
def joinW:List (List UInt8)→List UInt8
 | []=>[]
 | x::r=>x++spW r
def colS (s:Int)(p:Pce)(i:Int)(e:Ev):List UInt8:=joinW (colW s p i e)
theorem stOn_eq {l:List Stp} {c:Int} {x:Stp} (h:stOn l c=some x):x∈l∧x.1=c:=by
 unfold stOn at h
 exact⟨List.mem_of_find?_eq_some h,by simpa using List.find?_some h⟩
end
section
open Go.RowKit
theorem pLong_FS (p:Pce) (hO:PcOk p) (i x:Int):Ctr Tryz.prog 95 [ePce p,.sc (.int .i64 i),.sc (.int .i64 x)] (.sc (.int .i64 (longestN p.evs i x))) :=
 Ctr.of_pc (pre:=[]) (post:=[.sc (.int .i64 i),.sc (.int .i64 x)]) rfl rfl (fun _=>.sc _) fun w M hM=>pLongest_any M p i x w hM hO
theorem pstaff_FS (cs:List (Int×Int×Bool)) (st:List Int) (h:cs.length≤64):Ctr Tryz.prog 112 [.ag (eIns cs st)] (.sc (.int .i64 ((min cs.length 6:Nat):Int))):=by
 refine zqe Tryz.func112 Tryz.ntmps112 fun w0 F0=>?_;dsimp only [St.init,number,Nat.reduceAdd]
 refine zqg6 ?_
 refine WL.mm rfl rfl (show _=((min cs.length 6:Nat):Int) by split<;>omega) ?_
 refine zqg6 ?_
 exact W.ret zqr
def lineF(s:Int):FuncId:=if s=1 then 317 else if s=2 then 332 else if s=3 then 340 else 347
def behindF(s:Int):FuncId:=if s=1 then 319 else if s=2 then 334 else if s=3 then 342 else 349
theorem line_FS (s:Int) (hs:1≤s∧s≤4) (c n:Int) (hc:1≤c∧c≤14) (hn:0≤n∧n≤6):Ctr Tryz.prog (lineF s) [.ag [],.sc (.int .i64 c),.sc (.int .i64 n)] (.sc (.int .i64 (lineV s c n))):=by
 rcases sys_cases hs with rfl|rfl|rfl|rfl
 ·show Ctr Tryz.prog 317 _ _
  refine zqe Tryz.func317 Tryz.ntmps317 fun w0 F0=>?_;dsimp only [St.init,number,Nat.reduceAdd]
  refine zqg7 ?_
  exact W.ret zqr
 ·show Ctr Tryz.prog 332 _ _
  refine zqe Tryz.func332 Tryz.ntmps332 fun w0 F0=>?_;dsimp only [St.init,number,Nat.reduceAdd]
  refine zqg7 ?_
  exact W.ret zqr
 ·show Ctr Tryz.prog 340 _ _
  refine zqe Tryz.func340 Tryz.ntmps340 fun w0 F0=>?_;dsimp only [St.init,number,Nat.reduceAdd]
  refine zqg7 ?_
  exact W.ret zqr
 ·show Ctr Tryz.prog 347 _ _
  refine zqe Tryz.func347 Tryz.ntmps347 fun w0 F0=>?_;dsimp only [St.init,number,Nat.reduceAdd]
  refine zqg7 ?_
  exact W.ret zqr
theorem behind_FS (s:Int) (hs:1≤s∧s≤4):Ctr Tryz.prog (behindF s) [.ag []] (.sc (.bool (!decide (s=2)))):=by
 rcases sys_cases hs with rfl|rfl|rfl|rfl
 ·show Ctr Tryz.prog 319 _ _
  refine zqe Tryz.func319 Tryz.ntmps319 fun w0 F0=>?_;dsimp only [St.init,number,Nat.reduceAdd]
  refine zqg8 ?_
  exact W.ret zqr
 ·show Ctr Tryz.prog 334 _ _
  refine zqe Tryz.func334 Tryz.ntmps334 fun w0 F0=>?_;dsimp only [St.init,number,Nat.reduceAdd]
  refine zqg8 ?_
  exact W.ret zqr
 ·show Ctr Tryz.prog 342 _ _
  refine zqe Tryz.func342 Tryz.ntmps342 fun w0 F0=>?_;dsimp only [St.init,number,Nat.reduceAdd]
  refine zqg8 ?_
  exact W.ret zqr
 ·show Ctr Tryz.prog 349 _ _
  refine zqe Tryz.func349 Tryz.ntmps349 fun w0 F0=>?_;dsimp only [St.init,number,Nat.reduceAdd]
  refine zqg8 ?_
  exact W.ret zqr
end
section
open Go.RowKit
def eEvO (e:Ev):List AV:=[.sc (.bool e.bar),.sc (.int .i64 e.val),.sc (.bool e.dot),.sc (.bool e.three),.sc (.bool e.tie),.ow 69 5 (e.stops.map eStp)]
theorem fz0(av:AV):av.fz 0=av:=by cases av<;>rfl
theorem fz0_rows (l:List (List AV)):(l.map fun r=>r.map (AV.fz 0))=l:=by
 refine (List.map_congr_left fun r _=>?_).trans (List.map_id _)
 exact (List.map_congr_left fun x _=>fz0 x).trans (List.map_id _)
theorem eEvO_fz (e:Ev):(eEvO e).map (AV.fz 1)=eEv e:=by
 show [_,_,_,_,_,AV.ls 5 ((e.stops.map eStp).map fun r=>r.map (AV.fz 0))]=_
 rw [fz0_rows];rfl
theorem eEvO_rows (l:List Ev):((l.map eEvO).map fun r=>r.map (AV.fz 1))=l.map eEv:=by
 rw [List.map_map]
 exact List.map_congr_left fun e _=>eEvO_fz e
theorem eStp_own(l:List Stp):∀ q∈l.map eStp,∀ av∈q,av.own=false:=fun q hq av hav=>by
 obtain⟨s,_,rfl⟩:=List.mem_map.1 hq
 simp only [eStp,List.mem_cons,List.not_mem_nil,or_false]at hav
 rcases hav with rfl|rfl|rfl|rfl|rfl<;>rfl
theorem own_shal {d:Nat} {av:AV} (h:av.own=false):av.shal d=true:=by
 cases d<;>cases av<;>first|rfl|cases h
theorem eEvO_shal (l:List Ev):∀ r∈l.map eEvO,∀ av∈r,av.shal 1=true:=fun r hr av hav=>by
 obtain⟨e,_,rfl⟩:=List.mem_map.1 hr
 simp only [eEvO,List.mem_cons,List.not_mem_nil,or_false]at hav
 rcases hav with rfl|rfl|rfl|rfl|rfl|rfl
 ·rfl
 ·rfl
 ·rfl
 ·rfl
 ·rfl
 ·show ((e.stops.map eStp).all fun r=>r.all (AV.shal 0))=true
  rw [List.all_eq_true]
  intro q hq
  rw [List.all_eq_true]
  exact fun x hx=>own_shal (eStp_own _ q hq x hx)
end
section
open Go.RowKit
section
variable {B:World→View→Prop} {gl:Nat} {P:Program} {C:Cx} {ops:Array Oper} {rest:List Oper} {σ σ':St} {G G':Gh} {a:Act} {w w':World} {o:Oper} {d:Tmp} {Q:Exit→St→Prop}
theorem rp_scs {F:View}:∀ {l:List AV} {xs:List Value},scs l=some xs→xs.length=l.length∧∀ (i:Nat) av u,l[i]?=some av→xs[i]?=some u→RP F av u
 | [],xs,h=>by cases h;exact ⟨rfl,fun i av u x=>by simp at x⟩
 | x::r,xs,h=>by
  cases x with
  | sc v =>
   cases hr:scs r with
   | none=>simp [scs,hr] at h
   | some vs =>
    simp [scs,hr] at h
    subst h
    obtain ⟨g1,g2⟩:=rp_scs (F:=F) hr
    refine ⟨by simp [g1],fun i av u p q=>?_⟩
    cases i with
    | zero=>cases p;cases q;exact .sc _
    | succ i=>exact g2 i av u (by simpa using p) (by simpa using q)
  | _=>simp [scs] at h
theorem rp_plV {F:View} {av:AV} {v:Value} (h:plV av=some v):RP F av v:=by
 cases av with
 | sc x=>cases h;exact .sc _
 | ag l =>
  cases hs:scs l with
  | none=>simp [plV,hs] at h
  | some xs =>
   simp [plV,hs] at h
   subst h
   obtain⟨g1,g2⟩:=rp_scs (F:=F) hs
   exact .ag l _ (by simpa using g1) fun i av u p q=>g2 i av u p (by simpa using q)
 | _=>cases h
theorem rp_plL {F:View}:∀ {l:List AV} {xs:List Value},plL l=some xs→xs.length=l.length∧∀ (i:Nat) av u,l[i]?=some av→xs[i]?=some u→RP F av u
 | [],xs,h=>by cases h;exact ⟨rfl,fun i av u x=>by simp at x⟩
 | x::r,xs,h=>by
  unfold plL at h
  split at h
  ·rename_i v vs h1 h2
   cases h
   obtain ⟨g1,g2⟩:=rp_plL (F:=F) h2
   refine ⟨by simp [g1],fun i av u p q=>?_⟩
   cases i with
   | zero=>cases p;cases q;exact rp_plV h1
   | succ i=>exact g2 i av u (by simpa using p) (by simpa using q)
  ·cases h
def plT:AV→Option Value
 | .tu l =>
  match plL l with
  | some xs=>some (.tuple xs.toArray)
  | none=>none
 | av=>plV av
theorem rp_plT {F:View} {av:AV} {v:Value} (h:plT av=some v):RP F av v:=by
 cases av with
 | tu l =>
  cases hs:plL l with
  | none=>simp [plT,hs] at h
  | some xs =>
   simp [plT,hs] at h
   subst h
   obtain⟨g1,g2⟩:=rp_plL (F:=F) hs
   exact .tu l _ (by simpa using g1) fun i av u p q=>g2 i av u p (by simpa using q)
 | _=>exact rp_plV h
theorem plT_of {F:View} {av:AV} {u v:Value} (h:plT av=some v)(r:RP F av u):u=v:=by
 cases av with
 | tu l =>
  cases hs:plL l with
  | none=>simp [plT,hs] at h
  | some xs =>
   simp [plT,hs] at h
   subst h
   obtain⟨cs,rfl,h1,h2⟩:=(R.pu (G:=⟨F,fun _=>0,fun _=>0,fun _=>undef,fun _ _=>False⟩) _ _ r).tu_of
   have e:cs.toList=xs:=plL_of (F:=F) hs (by simpa using h1) fun i av u p q=>by
    have:=h2 i av u p (by simpa using q)
    exact (by
     cases r with|tu _ _ _ r2=>exact r2 i av u p (by simpa using q))
   subst e
   simp
 | sc x=>exact plV_of (av:=.sc x) h r
 | ag l=>exact plV_of (av:=.ag l) h r
 | _=>cases h
theorem WV.nchr {x:Operand} {l:List AV} (ho:o.op=.nilCheck x)(hx:σ.ev x=some (.pr l)):WV P C o σ (.pr l) :=
 WV.val (fun G a w ok=>(ok.evr hx).1) fun G a w ok=>by
  have r:=(ok.evr hx).2
  obtain⟨p,u,ep,_,_⟩:=r.pr_of.pr_of
  rw [ep] at r
  exact⟨.pointer (some p),by unfold execOp;simp [ho,ep],r⟩
theorem Lent.prs {k:Nat} {T:TypeId} {cells:List AV} {l:List AV} (hk:look k σ.M=some (.box T cells)) (hl:∀ (j:Nat) x,l[j]?=some x→cells[j]?=some x) (ho:∀ x∈l,onB x=true):Lent C σ (.pt k 0 0) (.pr l):=fun G a w ok v h=>by
 have hF:G.F.le fun q=>w.cell? q:=fun p u x=>ok.fw p u x
 obtain ⟨p,rfl,h1,h2,h3⟩:=h.pt_of
 have hcell:∀ (j:Nat) av,l[j]?=some av→∃ u,w.cell? (p.add j)=some u∧u.oneCell'=true∧RP G.F av u:=fun j av hj=>by
  have hb:=ho av (List.mem_of_getElem? hj)
  have ho:av.own=false:=by cases av<;>first|rfl|cases hb
  obtain ⟨u,hu,hr,_⟩:=ok.cell (i:=0) (j:=0) (l:=cells) hk rfl (hl j av hj) h1 h2 h3 ho
  obtain ⟨q1,q2,_⟩:=onB_of hb hr
  exact ⟨u,hu,q1,q2⟩
 refine .pr l p (fun j=>(w.cell? (p.add j)).getD undef) (fun j av hj=>?_) (fun j av hj=>?_)
 ·obtain ⟨u,hu,q1,q2⟩:=hcell j av hj
  rw [hu];exact ⟨rfl,q1⟩
 ·obtain ⟨u,hu,q1,q2⟩:=hcell j av hj
  rw [hu];exact q2.mono hF
theorem WV.lendT (hB:Holds B gl C) {f:FuncId} {xs:Array Operand} {ts:Array TypeId} {args args':List AV} {res:AV} {rv:Value} (ho:o.op=.call { callee:=.value (.func f),args:=xs,argTypes:=ts }) (hc:∀ vs w,(callFunc f vs).run P w=.ok (.enter f vs) w)
  (hx:σ.evs xs.toList=some args) (hl:Lents C σ args args') (hst:∀ w F F',View.le F F'→B w F→B w F') (hp:plT res=some rv) (h:Ctg B P f args' res):WV P C o σ res:=by
 intro G a w ok N Q' hN
 obtain ⟨e1,e2⟩:=ok.evl hx
 obtain ⟨q1,q2⟩:=hl.at_
 have hF:G.F.le fun q=>w.cell? q:=fun p u x=>ok.fw p u x
 have hcalls:=h w (fun q=>w.cell? q) (xs.toList.map a.eval) (hst w _ _ hF (hB.1 w G.F ok.bel ok.f0)) (fun _ _ x=>x) ⟨by rw [e1,q1],fun i av u p q=>by
  obtain ⟨b,hb,hL⟩:=q2 i av p
  exact hL G a w ok u (e2 i b u hb q)⟩
 unfold Oper.wp execOp
 have ev:a.eval (.func f)=.func (.func f) #[] #[]:=rfl
 have e3:(#[]++xs.map a.eval++#[]:Array Value)=(xs.toList.map a.eval).toArray:=by apply Array.ext';simp
 simp only [ho,resolve,ev,Deferred.ofValue,invoke,Sem.run_bind,Sem.run_pure,Result.andThen_ok,hc,Oper.upon,e3]
 refine hcalls.mono fun e w1 ⟨v,F',he,hb,h1,h2,h3,h4⟩=>?_
 subst he
 have hv:=plT_of hp h4
 subst hv
 exact hN _ { G with F:=G.F } w1 (fun σ'' a'' ok''=>ok''.called hb (fun _ _ x=>x) (fun p u x=>by rw [hb.cell (cell_block (ok.fw p u x))];exact ok.fw p u x) (fun _ _ x=>.inl x)) (.pu _ _ (rp_plT hp)) (RP.bd (F:=G.F) (rp_plT hp) _)
end
end
section
open Go.RowKit
section
variable {P:Program} {C:Cx} {σ:St} {o:Oper} {d:Tmp} {av:AV} {ops:Array Oper} {rest:List Oper} {Q:Exit→St→Prop} {mem:List Bool} {Mc McB:List (Nat×AO)} {e0 nk0 k:Nat}
theorem DTK.mv {x:Operand} (hm:mem.getD k false=true) (hg:o.guard=none) (hds:o.dst=some d) (hdN:Nat.blt d C.N=true) (ho:o.op=.assign x) (hx:σ.ev x=some av) (hs:msSub Mc σ.M) (hsB:Nat.blt k e0=true→msSub McB σ.M)
  (r:DTK P C ops mem Mc McB e0 nk0 (k+1) rest (σ.put d av) Q):DTK P C ops mem Mc McB e0 nk0 k (o::rest) σ Q:=by
 have he:ent1 o.dst true av=[(d,av)]:=by rw [hds];rfl
 refine DTK.wr av hm (Nat.ble_eq_true_of_le (Nat.le_refl _)) hs hsB ⟨hg,fun t H=>?_⟩ (by rw [he];exact r)
 rw [he]
 have hmem:x∈o.op.operands.toList:=by rw [ho];simp [Op.operands]
 exact WO.of_wv (σ:=⟨t,σ.M,σ.nk⟩) hds hdN (stepV_of ho (show stepV P ⟨t,σ.M,σ.nk⟩ (.assign x)=some av from (ev_agree H hmem).trans hx))
end
end
section
open Go.RowKit
section
variable {P:Program} {C:Cx} {σ σ' σ'':St} {o:Oper} {d:Tmp} {av:AV} {ops:Array Oper} {rest:List Oper} {Q:Exit→St→Prop} {mem:List Bool} {Mc McB:List (Nat×AO)} {e0 nk0 k:Nat}
theorem Tr.sub {t:List (Nat×AV)} {M M':List (Nat×AO)} {nk:Nat} (hs:msSub M' M):Tr C ⟨t,M,nk⟩ ⟨t,M',nk⟩:=fun G a w ok=>by
 have g:=msSub_at hs
 exact ⟨G,⟨ok.sz,ok.df,ok.tm,ok.bel,ok.fw,ok.f0,ok.f1,fun k o x=>ok.ob k o (g k o x),fun k o x h1 h2=>ok.my k o x (g k o h1) h2,fun k o k' o' x h1 h2=>ok.dj k o k' o' x (g k o h1) (g k' o' h2),fun k o x p u h1=>ok.dF k o x p u (g k o h1)⟩⟩
theorem WO.tr(h:WO P C o σ σ')(t:Tr C σ' σ''):WO P C o σ σ'':=fun G a w ok N Q' hN=>h G a w ok N Q' fun G' a' w' ok'=>by
 obtain⟨G2,ok2⟩:=t G' a' w' ok'
 exact hN G2 a' w' ok2
theorem DTK.bdC {T e n q T' n' j0:Nat} {z:Value} {parts:Array (Nat×Operand)} {x0:Operand} {av0:AV} {srows rows2:List (List AV)} {M':List (Nat×AO)} (hm:mem.getD k false=true) (hg:o.guard=none) (ho:o.op=.buildSlice T 1 parts) (hT:P.underlying T=some (.slice e)) (hn:sizeB P e=some n) (hz:(P.info? e).bind (·.zero)=some z)
  (hp:parts.toList=number 0 [x0]) (hb:Nat.ble (1*n) 16777216=true) (hds:o.dst=some d) (hd:Nat.blt d C.N=true) (hx:σ.ev x0=some av0) (hcB:av0.cellB=true) (hcl:av0.cells.length=n) (hc1:av0.cells.all AV.oneB=true) (hcj:av0.cells[j0]?=some (.sl q)) (hc0:pu0But j0 0 av0.cells=true)
  (hq:look q σ.M=some (.row T' n' srows)) (hqn:Nat.beq σ.nk q=false) (he:[av0.cells.set j0 (.ow T' n' srows)]=rows2) (hM:msSub M' (((σ.new (.rwo e n [av0.cells] 0 j0 (.sl q))).drop q).upd σ.nk (.rwn e n rows2)).M) (hs:msSub Mc M') (hsB:Nat.blt k e0=true→msSub McB M')
  (r:DTK P C ops mem Mc McB e0 nk0 (k+1) rest ⟨(d,.sl σ.nk)::σ.t,M',σ.nk+1⟩ Q):DTK P C ops mem Mc McB e0 nk0 k (o::rest) σ Q:=by
 have hen:ent1 o.dst true (.sl σ.nk)=[(d,.sl σ.nk)]:=by rw [hds];rfl
 refine DTK.wr (.sl σ.nk) hm (Nat.ble_eq_true_of_le (Nat.le_succ _)) hs hsB ⟨hg,fun t H=>?_⟩ (by rw [hen];exact r)
 rw [hen]
 have hmem:x0∈o.op.operands.toList:=by
  rw [ho]
  have:(0,x0)∈parts.toList:=by rw [hp];simp [number]
  simp [Op.operands]
  exact ⟨0,by simpa using this⟩
 have h1:=WO.buildO (P:=P) (C:=C) (σ:=⟨t,σ.M,σ.nk⟩) ho hT hn hz hp hb hds hd ((ev_agree H hmem).trans hx) hcB hcl hc1 hcj (fun s x hs hx=>pu0But_at hc0 s x zqo hx) rfl
 refine WO.tr h1 ?_
 have hlq:look q ((σ.nk,AO.rwo e n [av0.cells] 0 j0 (.sl q))::σ.M)=some (.row T' n' srows):=by
  rw [look_set_other (fun e=>by rw [← e,Nat.beq_refl] at hqn;cases hqn)];exact hq
 have h2:=Tr.close_ (C:=C) (σ:=(((⟨t,σ.M,σ.nk⟩:St).new (.rwo e n [av0.cells] 0 j0 (.sl q))).put d (.sl σ.nk))) (m:=q) (i:=0) (j:=j0) (rows:=[av0.cells]) (r:=av0.cells) (rows2:=rows2) σ.nk look_set_same hlq hqn rfl (List.getElem?_eq_some_iff.1 hcj).1 (by rw [← he];rfl)
 exact Tr.trans h2 (Tr.sub hM)
theorem DTK.apM {T e n by_ q1 q2 e2:Nat} {z:Value} {i:TypeInfo} {x y:Operand} {rows rows2 rows':List (List AV)} {M':List (Nat×AO)} (hm:mem.getD k false=true) (hg:o.guard=none) (ho:o.op=.call { callee:=.builtin .append,args:=#[x,y],argTypes:=#[T,T] }) (hT:P.underlying T=some (.slice e))
  (hi:P.info? e=some i) (hz:i.zero=some z) (hn:i.size=n) (hby:i.bytes=by_) (hzs:z.cells.size=n) (h0:Nat.blt 0 n=true) (hds:o.dst=some d) (hd:Nat.blt d C.N=true)
  (hx:σ.ev x=some (.sl q1)) (hk:look q1 σ.M=some (.rwn e n rows)) (hy:σ.ev y=some (.sl q2)) (hq:look q2 σ.M=some (.rwn e2 n rows2)) (hkq:Nat.beq q1 q2=false) (hb1:rows.length+rows2.length≤1000000000) (hb2:Nat.ble by_ 100000=true) (hrr:rows++rows2=rows')
  (hM:msSub M' (((σ.drop q1).drop q2).new (.rwn e n rows')).M) (hs:msSub Mc M') (hsB:Nat.blt k e0=true→msSub McB M')
  (r:DTK P C ops mem Mc McB e0 nk0 (k+1) rest ⟨(d,.sl σ.nk)::σ.t,M',σ.nk+1⟩ Q):DTK P C ops mem Mc McB e0 nk0 k (o::rest) σ Q:=by
 have hen:ent1 o.dst true (.sl σ.nk)=[(d,.sl σ.nk)]:=by rw [hds];rfl
 refine DTK.wr (.sl σ.nk) hm (Nat.ble_eq_true_of_le (Nat.le_succ _)) hs hsB ⟨hg,fun t H=>?_⟩ (by rw [hen];exact r)
 rw [hen]
 have hmem:∀ q∈[x,y],q∈o.op.operands.toList:=fun q hq=>by rw [ho];simp [Op.operands,Call.operands] at hq ⊢;exact hq
 have h1:=WO.appendM (P:=P) (C:=C) (σ:=⟨t,σ.M,σ.nk⟩) ho hT hi hz hn hby hzs h0 hds hd ((ev_agree H (hmem x (by simp))).trans hx) hk ((ev_agree H (hmem y (by simp))).trans hy) hq hkq rfl hb1 hb2 hrr
 exact WO.tr h1 (Tr.sub hM)
end
end
section
open Go.RowKit
section
variable {P:Program} {C:Cx} {σ:St}
def ldaV (P:Program)(σ:St):Op→Option (TypeId×List (List AV)×Nat×Nat)
 | .load T x =>
  match σ.ev x with
  | some (.pt k i j) =>
   match look k σ.M with
   | some (.row _ _ rows)=>some (T,rows,i,j)
   | some (.rwn _ _ rows)=>some (T,rows,i,j)
   | _=>none
  | _=>none
 | _=>none
theorem ldaV_of {o:Oper} {T:TypeId} {rows:List (List AV)} {i j:Nat} {r:List AV} {av:AV} (h:ldaV P σ o.op=some (T,rows,i,j))(hi:rows[i]?=some r)(ht:takeO P T (r.drop j)=some av):WV P C o σ av:=by
 unfold ldaV at h
 split at h
 ·rename_i T' x ho
  split at h
  ·rename_i k i' j' hx
   split at h
   ·rename_i T2 n rows' hk
    cases h
    have hf:(AO.row T2 n rows).from_ i j=some (r.drop j):=by simp [AO.from_,hi]
    exact loadV_of ho hx (by simp only [loadV,hk,hf];exact ht)
   ·rename_i T2 n rows' hk
    cases h
    have hf:(AO.rwn T2 n rows).from_ i j=some (r.drop j):=by simp [AO.from_,hi]
    exact loadV_of ho hx (by simp only [loadV,hk,hf];exact ht)
   ·cases h
  ·cases h
 ·cases h
variable {ops:Array Oper} {o:Oper} {rest:List Oper} {d:Tmp} {Q:Exit→St→Prop}
theorem WL.lda {T:TypeId} {rows:List (List AV)} {i j:Nat} {r:List AV} {av:AV} (hd:dstB C.N o=some d)(h:ldaV P σ o.op=some (T,rows,i,j))(hi:rows[i]?=some r)(ht:takeO P T (r.drop j)=some av)(k:WL P C ops rest (σ.put d av) Q):WL P C ops (o::rest) σ Q:=WL.vl hd (ldaV_of h hi ht) k
end
end
section
open Go.RowKit
section
variable {C:Cx} {σ:St}
theorem Tr.freezeI (k d:Nat) {T n:Nat} {rows rows':List (List AV)} (hk:look k σ.M=some (.rwn T n rows)) (hs:∀ r∈rows,∀ av∈r,av.shal d=true) (hr:(rows.map fun r=>r.map (AV.fz d))=rows'):Tr C σ (σ.upd k (.row T n rows')):=fun G a w ok=>by
 obtain ⟨hkn,_,hb1,hb2,hb3⟩:=ok.ob k _ hk
 obtain ⟨h1,vs,Φ,h2,h3,h4,h5,h6,h7,h8,h9⟩:=hb3
 classical
 let F':View:=fun p=>if ∃ i j,Φ i j p.block then w.cell? p else G.F p
 have hF:G.F.le F':=fun p u h=>by
  show (if _ then _ else _)=_
  rw [if_neg (fun e=>by obtain ⟨i,j,e⟩:=e;exact ok.dF k _ p.block p u hk (h6 i j _ e).1 h rfl)];exact h
 have hFn:∀ p u,F' p=some u→G.F p=some u∨((∃ i j,Φ i j p.block)∧w.cell? p=some u):=fun p u h=>by
  have h:(if ∃ i j,Φ i j p.block then w.cell? p else G.F p)=some u:=h
  by_cases e:∃ i j,Φ i j p.block
  ·rw [if_pos e] at h;exact .inr ⟨e,h⟩
  ·rw [if_neg e] at h;exact .inl h
 let G':Gh:={ (G.fpk k fun x=>(G.h k).ownBlock=some x) with F:=F' }
 have hle:G.le G' σ.nk:=⟨hF,fun _ _=>rfl,fun _ _=>rfl,fun _ _=>rfl⟩
 have hfs:G'.fp k=fun x=>(G.h k).ownBlock=some x:=fpk_same
 have hfo:∀ q,q≠k→G'.fp q=G.fp q:=fun q h=>fpk_other h
 have hl:∀ i o,look i (σ.upd k (.row T n rows')).M=some o→(i=k∧o=.row T n rows')∨(i≠k∧look i σ.M=some o):=fun i o hx=>by
  by_cases e:i=k
  ·subst e
   rw [show look i (σ.upd i (.row T n rows')).M=some (.row T n rows') from look_set_same] at hx
   cases hx
   exact .inl ⟨rfl,rfl⟩
  ·rw [show look i (σ.upd k (.row T n rows')).M=look i σ.M from look_set_other e] at hx
   exact .inr ⟨e,hx⟩
 have hφ:∀ i o x,look i (σ.upd k (.row T n rows')).M=some o→G'.fp i x→∃ o0,look i σ.M=some o0∧G.fp i x:=fun i o x h e=>by
  rcases hl i o h with⟨rfl,rfl⟩|⟨e1,y⟩
  ·rw [hfs] at e;exact ⟨_,hk,h5 x e⟩
  ·rw [hfo i e1] at e;exact ⟨_,y,e⟩
 refine ⟨G',ok.sz,ok.df,fun i av h=>⟨(ok.tm i av h).1,(ok.tm i av h).2.1,(ok.tm i av h).2.2.mono hle (ok.tm i av h).2.1⟩,ok.bel,fun p u h=>?_,fun p u h=>hF p u (ok.f0 p u h),fun p u h=>?_,fun i o h=>?_,fun i o x a1 a2=>?_,fun i o i' o' x a1 a2 a3 a4=>?_,fun i o x p u a1 a2 a3=>?_⟩
 ·rcases hFn p u h with h|⟨_,h⟩
  ·exact ok.fw p u h
  ·exact h
 ·rcases hFn p u h with h|⟨⟨i,j,h⟩,_⟩
  ·exact ok.f1 p u h
  ·exact .inr (ok.my k _ _ hk (h6 i j _ h).1).1
 ·rcases hl i o h with⟨rfl,rfl⟩|⟨e,y⟩
  ·refine ⟨hkn,trivial,hb1,hb2,?_⟩
   rw [hfs,← hr]
   refine ⟨fun r hrm=>?_,vs,fun _ _ _=>False,h2,by rw [List.length_map];exact h3,h4,fun g hg=>hg,fun _ _ _ h=>h.elim,fun _ _ _ _ _ h=>h.elim,fun q r r' b1 b2=>?_,fun q r r' j av u b1 b2 b3 b4=>?_⟩
   ·obtain ⟨r0,h0,rfl⟩:=List.mem_map.1 hrm
    rw [List.length_map];exact h1 r0 h0
   ·rw [List.getElem?_map] at b1
    cases h0:rows[q]? with
    | none=>simp [h0] at b1
    | some r0 =>
     simp only [h0,Option.map_some,Option.some.injEq] at b1
     subst b1
     rw [List.length_map];exact h8 q r0 r' h0 b2
   ·rw [List.getElem?_map] at b1
    cases h0:rows[q]? with
    | none=>simp [h0] at b1
    | some r0 =>
     simp only [h0,Option.map_some,Option.some.injEq] at b1
     subst b1
     rw [List.getElem?_map] at b3
     cases hj0:r0[j]? with
     | none=>simp [hj0] at b3
     | some av0 =>
      simp only [hj0,Option.map_some,Option.some.injEq] at b3
      subst b3
      have x:OW G.F w av0 u (Φ q j):=h9 q r0 r' j av0 u h0 b2 hj0 b4
      exact OW.fix hF d x (fun p hp=>if_pos ⟨q,j,hp⟩) (hs r0 (List.mem_of_getElem? h0) av0 (List.mem_of_getElem? hj0))
  ·obtain ⟨a1,a2,a3⟩:=ok.ob i o y
   exact ⟨a1,a2,a3.keep hle a1 a2 (hfo i e) fun _ _=>rfl⟩
 ·obtain ⟨o0,b1,b2⟩:=hφ i o x a1 a2
  exact ok.my i o0 x b1 b2
 ·obtain ⟨o0,b1,b2⟩:=hφ i o x a1 a3
  obtain ⟨o1,c1,c2⟩:=hφ i' o' x a2 a4
  exact ok.dj i o0 i' o1 x b1 c1 b2 c2
 ·obtain ⟨o0,b1,b2⟩:=hφ i o x a1 a2
  rcases hFn p u a3 with h|⟨⟨q,j,h⟩,_⟩
  ·exact ok.dF i o0 x p u b1 b2 h
  ·intro e
   rw [e] at h
   have hik:=ok.dj i o0 k _ x b1 hk b2 (h6 q j _ h).1
   subst hik
   rw [hfs] at a2
   exact (h6 q j _ h).2 a2
end
end
section
open Go.RowKit
theorem nch_val {P:Program} {w:World} {ev:Operand→Value} {o:Oper} {x:Operand} (ho:o.op=.nilCheck x)(n:Next)(w':World)(h:(execOp ev o).run P w=.ok n w'):∃ v,n=.value v:=by
 unfold execOp at h
 simp only [ho] at h
 generalize ev x=v at h
 split at h
 ·cases h
 ·cases h
 ·cases h
 ·split at h
  ·cases h
  ·rw [Sem.run_bind] at h
   generalize Sem.run P program w=r1 at h
   cases r1 with
   | ok a w1 =>
    simp only [Result.andThen] at h
    rw [Sem.run_bind] at h
    generalize Sem.run P (nilAhead _ _ _ _) w1=r2 at h
    cases r2 with
    | ok b w2 =>
     simp only [Result.andThen] at h
     split at h
     ·rw [Sem.run_bind] at h
      generalize Sem.run P (unsupported _) w2=r3 at h
      cases r3 with
      | ok c w3=>simp only [Result.andThen] at h;cases h;exact⟨_,rfl⟩
      | halt c w3=>simp only [Result.andThen] at h;cases h
     ·cases h;exact⟨_,rfl⟩
    | halt b w2=>simp only [Result.andThen] at h;cases h
   | halt a w1=>simp only [Result.andThen] at h;cases h
  ·cases h;exact⟨_,rfl⟩
 ·cases h;exact⟨_,rfl⟩
def tame2:Op→Bool
 | .move _=>true
 | .build _ _=>true
 | .buildSlice _ _ _=>true
 | .call c=>match c.callee with
  | .builtin .append=>true
  | _=>false
 | .assign _=>true
 | .alloc _=>true
 | .box _ _=>true
 | .load _ _=>true
 | .store _ _ _=>true
 | .fieldAddr _ _ _=>true
 | .field _ _ _=>true
 | .indexAddr _ _ _=>true
 | .index _ _ _=>true
 | .nilCheck _=>true
 | _=>false
structure Laid2 (ops A:Array Oper)(π ρ:Nat→Nat)(i j:Nat):Prop where
 sz:A.size=ops.size
 lt:∀ p,p<ops.size→π p<ops.size
 inv:∀ p,p<ops.size→ρ (π p)=p
 ltr:∀ q,q<ops.size→ρ q<ops.size
 inr:∀ q,q<ops.size→π (ρ q)=q
 hi:i<ops.size
 hj:j<ops.size
 op:∀ (p:Nat)(o:Oper),ops[p]?=some o→∃ X:Array Edge,A[π p]?=some { o with after:=X }∧(∀ e∈X,Region.binds .any e=true→(∃ e'∈o.after,Region.binds .any e'=true∧e.on=π e'.on)∨(p=j∧e.on=π i)) ∧
  (∀ e'∈o.after,Region.binds .any e'=true→∃ e∈X,Region.binds .any e=true∧e.on=π e'.on)
 tm:∀ (p:Nat)(o:Oper),ops[p]?=some o→tame2 o.op=true∧o.guard=none∧∀ e∈o.after,e.on<ops.size
structure Agr2 (n:Nat)(π:Nat→Nat)(L LA:Array Bool):Prop where
 s1:L.size=n
 s2:LA.size=n
 at_:∀ p,p<n→LA.getD (π p) false=L.getD p false
end
section
open Go.RowKit
def tame3:Op→Bool
 | .move _=>true
 | .build _ _=>true
 | .buildSlice _ _ _=>true
 | .call c=>match c.callee with
  | .builtin .append=>true
  | _=>false
 | .assign _=>true
 | .alloc _=>true
 | .box _ _=>true
 | .load _ _=>true
 | .store _ _ _=>true
 | .fieldAddr _ _ _=>true
 | .field _ _ _=>true
 | .indexAddr _ _ _=>true
 | .index _ _ _=>true
 | .nilCheck _=>true
 | .binOp _ _ _ _ _=>true
 | .extract _ _=>true
 | _=>false
section
variable {P:Program} {o:Oper} {a:Act} {w:World} {K K1 K2:Act→World→Prop} {Q:Exit→Act→World→Prop}
theorem tame_app3 {ev:Operand→Value} {c:Call} {T:TypeId} (hc:c.callee=.builtin .append)(n:Next)(w':World)(h:(do let d ← resolve ev c T;invoke d.target d.args:Sem Next).run P w=.ok n w'):∃ x,n=.value x:=by
 unfold resolve at h
 simp only [hc,Sem.run_bind,Sem.run_pure,Result.andThen_ok,invoke,builtin]at h
 cases hs:(Builtin.append_ c.argTypes T (c.args.map ev)).run P w with
 | ok x w1=>rw [hs]at h;simp only [Result.andThen]at h;cases h;exact⟨x,rfl⟩
 | halt x w1=>rw [hs]at h;simp only [Result.andThen]at h;cases h
theorem tame_no3 {ev:Operand→Value} (ht:tame3 o.op=true) (n:Next) (w':World) (h:(execOp ev o).run P w=.ok n w'):(∃ x,n=.value x)∨n=.skip:=by
 by_cases hn:∃ x,o.op=.nilCheck x
 ·obtain ⟨x,hx⟩:=hn
  exact .inl (nch_val hx n w' h)
 unfold execOp at h
 cases ho:o.op<;>simp only [ho,tame3]at ht h<;>first
  | (cases ht;done)
  |exact .inl (run_v _ _ _ h)
  |exact .inr (run_u _ _ _ h)
  | (refine .inl (tame_app3 ?_ n w' h);revert ht;split<;>first|(intro _;assumption)|(intro ht;cases ht))
  | (cases h;exact .inl ⟨_,rfl⟩)
  | (exact (hn ⟨_,ho⟩).elim)
theorem wp_and3 (ht:tame3 o.op=true)(h1:o.wp P a w K1 Q)(h2:o.wp P a w K2 Q):o.wp P a w (fun a w=>K1 a w∧K2 a w) Q:=by
 unfold Oper.wp at *
 cases hr:(execOp a.eval o).run P w with
 | ok n w' =>
  rw [hr] at h1 h2
  rcases tame_no3 ht n w' hr with⟨x,rfl⟩|rfl
  ·exact⟨h1,h2⟩
  ·exact⟨h1,h2⟩
 | halt x w'=>rw [hr] at h1 h2;cases x<;>simp only [Oper.upon] at h1 h2 ⊢<;>exact h1
end
structure Laid3 (ops A:Array Oper)(π ρ:Nat→Nat)(i j:Nat):Prop where
 sz:A.size=ops.size
 lt:∀ p,p<ops.size→π p<ops.size
 inv:∀ p,p<ops.size→ρ (π p)=p
 ltr:∀ q,q<ops.size→ρ q<ops.size
 inr:∀ q,q<ops.size→π (ρ q)=q
 hi:i<ops.size
 hj:j<ops.size
 op:∀ (p:Nat)(o:Oper),ops[p]?=some o→∃ X:Array Edge,A[π p]?=some { o with after:=X }∧(∀ e∈X,Region.binds .any e=true→(∃ e'∈o.after,Region.binds .any e'=true∧e.on=π e'.on)∨(p=j∧e.on=π i)) ∧
  (∀ e'∈o.after,Region.binds .any e'=true→∃ e∈X,Region.binds .any e=true∧e.on=π e'.on)
 tm:∀ (p:Nat)(o:Oper),ops[p]?=some o→(p=i∨p=j∨tame3 o.op=true)∧o.guard=none∧∀ e∈o.after,e.on<ops.size
structure Agr3 (n:Nat)(π:Nat→Nat)(L LA:Array Bool):Prop where
 s1:L.size=n
 s2:LA.size=n
 at_:∀ p,p<n→LA.getD (π p) false=L.getD p false
section
variable {P:Program} {ops A B:Array Oper} {π ρ π' ρ':Nat→Nat} {i j k:Nat} {L LA LB:Array Bool} {a:Act} {w:World} {K K1 K2:Act→World→Prop} {Q:Exit→Act→World→Prop}
theorem Agr3.put (hl:Laid3 ops A π ρ i j) (h:Agr3 ops.size π L LA) (hk:k<ops.size):Agr3 ops.size π (L.setIfInBounds k true) (LA.setIfInBounds (π k) true):=by
 refine ⟨by simp [h.s1],by simp [h.s2],fun p hp=>?_⟩
 by_cases e:k=p
 ·subst e
  have h1:k<L.size:=by rw [h.s1];exact hk
  have h2:π k<LA.size:=by rw [h.s2];exact hl.lt k hk
  simp [Array.getD_eq_getD_getElem?,h1,h2]
 ·have e2:π k≠π p:=fun x=>e (by rw [← hl.inv k hk,x,hl.inv p hp])
  have:=h.at_ p hp
  simp only [Array.getD_eq_getD_getElem?] at this ⊢
  rw [Array.getElem?_setIfInBounds_ne e,Array.getElem?_setIfInBounds_ne e2]
  exact this
theorem ready_to3 (hl:Laid3 ops A π ρ i j) (h:Agr3 ops.size π L LA) (hij:k=j→L.getD i false=true) (hk:k∈Region.ready .any ops L):π k∈Region.ready .any A LA:=by
 have hlt:=ready_lt hk
 obtain ⟨h1,o,ho,h2⟩:=mem_ready.1 hk
 obtain ⟨X,hX,hX1,_⟩:=hl.op k o ho
 refine mem_ready.2 ⟨?_,_,hX,fun e he hb=>?_⟩
 ·rw [getD_tf (by rw [h.s2];exact hl.lt k hlt),h.at_ k hlt,← getD_tf (by rw [h.s1];exact hlt)];exact h1
 ·rcases hX1 e he hb with⟨e',he',hb',heq⟩|⟨rfl,heq⟩
  ·rw [heq,h.at_ _ ((hl.tm k o ho).2.2 e' he')];exact h2 e' he' hb'
  ·rw [heq,h.at_ _ hl.hi];exact hij rfl
theorem ready_of3 (hl:Laid3 ops A π ρ i j) (h:Agr3 ops.size π L LA) {q:Nat} (hq:q∈Region.ready .any A LA):ρ q∈Region.ready .any ops L:=by
 have hlt:=ready_lt hq
 rw [hl.sz] at hlt
 obtain ⟨h1,o',ho',h2⟩:=mem_ready.1 hq
 have hr:=hl.ltr q hlt
 have ho:ops[ρ q]?=some ops[ρ q]:=Array.getElem?_eq_getElem hr
 obtain ⟨X,hX,_,hX2⟩:=hl.op (ρ q) _ ho
 rw [hl.inr q hlt,ho'] at hX
 cases hX
 refine mem_ready.2 ⟨?_,_,ho,fun e' he' hb'=>?_⟩
 ·rw [getD_tf (by rw [h.s1];exact hr),← h.at_ _ hr,hl.inr q hlt,← getD_tf (by rw [h.s2];exact hlt)];exact h1
 ·obtain ⟨e,he,hb,heq⟩:=hX2 e' he' hb'
  rw [← h.at_ _ ((hl.tm _ _ ho).2.2 e' he'),← heq]
  exact h2 e he hb
theorem ready_nil3(hl:Laid3 ops A π ρ i j)(h:Agr3 ops.size π L LA)(hr:Region.ready .any ops L=[]):Region.ready .any A LA=[] :=
 List.eq_nil_iff_forall_not_mem.2 fun q hq=>by have:=ready_of3 hl h hq;rw [hr]at this;cases this
theorem wpOp_to3 (hl:Laid3 ops A π ρ i j)(hk:k<ops.size)(h:wpOp P A Q (π k) K a w):wpOp P ops Q k K a w:=by
 have ho:ops[k]?=some ops[k]:=Array.getElem?_eq_getElem hk
 obtain⟨X,hX,_⟩:=hl.op k _ ho
 have hg:=(hl.tm k _ ho).2.1
 unfold wpOp at h ⊢
 rw [hX] at h
 rw [ho]
 simp only [Region.wanted,hg,if_true] at h ⊢
 exact h
theorem wpOp_and3 (hk:k<ops.size)(ht:tame3 ops[k].op=true)(hg:ops[k].guard=none)(h1:wpOp P ops Q k K1 a w)(h2:wpOp P ops Q k K2 a w):wpOp P ops Q k (fun a w=>K1 a w∧K2 a w) a w:=by
 have ho:ops[k]?=some ops[k]:=Array.getElem?_eq_getElem hk
 unfold wpOp at h1 h2 ⊢
 rw [ho] at h1 h2 ⊢
 simp only [Region.wanted,hg,if_true] at h1 h2 ⊢
 rcases h1 with h1|h1
 ·rcases h2 with h2|h2
  ·exact .inl (wp_and3 ht h1 h2)
  ·exact .inr h2
 ·exact .inr h1
theorem wpAny_one3 (hl:Laid3 ops A π ρ i j):∀ (fuel:Nat) (L LA:Array Bool) (a:Act) (w:World),Agr3 ops.size π L LA→(L.getD i false=true∨L.getD j false=true)→wpAny P .any A Q fuel LA a w→wpAny P .any ops Q fuel L a w:=by
 have cond:∀ {L:Array Bool} {k:Nat},L.size=ops.size→(L.getD i false=true∨L.getD j false=true)→k∈Region.ready .any ops L→k=j→L.getD i false=true:=by
  intro L k hs h hk e
  subst e
  rcases h with h|h
  ·exact h
  ·have:=(mem_ready.1 hk).1
   rw [getD_tf (by rw [hs];exact hl.hj),h] at this;cases this
 intro fuel
 induction fuel with
 | zero =>
  intro L LA a w h hor hw
  refine ⟨List.eq_nil_iff_forall_not_mem.2 fun k hk=>?_,hw.2⟩
  have:=ready_to3 hl h (cond h.s1 hor hk) hk
  rw [hw.1] at this;cases this
 | succ fuel ih =>
  intro L LA a w h hor hw
  refine ⟨fun hr=>hw.1 (ready_nil3 hl h hr),fun k hk=>?_⟩
  have hlt:=ready_lt hk
  refine wpOp_mono (fun a' w' hw'=>ih _ _ a' w' (h.put hl hlt) ?_ hw') (wpOp_to3 hl hlt (hw.2 _ (ready_to3 hl h (cond h.s1 hor hk) hk)))
  have mono:∀ q,L.getD q false=true→(L.setIfInBounds k true).getD q false=true:=fun q hq=>by
   by_cases e:k=q
   ·subst e;simp [Array.getD_eq_getD_getElem?,show k<L.size by rw [h.s1];exact hlt]
   ·simp only [Array.getD_eq_getD_getElem?] at hq ⊢
    rw [Array.getElem?_setIfInBounds_ne e];exact hq
  exact hor.imp (mono _) (mono _)
theorem wpAny_both3 (hA:Laid3 ops A π ρ i j) (hB:Laid3 ops B π' ρ' j i) (hne:i≠j):∀ (fuel:Nat) (L LA LB:Array Bool) (a:Act) (w:World),Agr3 ops.size π L LA→Agr3 ops.size π' L LB→L.getD i false=false→L.getD j false=false →
  wpAny P .any A Q fuel LA a w→wpAny P .any B Q fuel LB a w→wpAny P .any ops Q fuel L a w:=by
 intro fuel
 induction fuel with
 | zero =>
  intro L LA LB a w ha hb hi hj wa wb
  refine ⟨List.eq_nil_iff_forall_not_mem.2 fun k hk=>?_,wa.2⟩
  by_cases e:k=j
  ·have:=ready_to3 hB hb (fun e2=>absurd (e2.symm.trans e) hne) hk
   rw [wb.1] at this;cases this
  ·have:=ready_to3 hA ha (fun e2=>absurd e2 e) hk
   rw [wa.1] at this;cases this
 | succ fuel ih =>
  intro L LA LB a w ha hb hi hj wa wb
  refine ⟨fun hr=>wa.1 (ready_nil3 hA ha hr),fun k hk=>?_⟩
  have hlt:=ready_lt hk
  have hs:(L.setIfInBounds k true).getD k false=true:=by simp [Array.getD_eq_getD_getElem?,show k<L.size by rw [ha.s1];exact hlt]
  have hso:∀ q,k≠q→(L.setIfInBounds k true).getD q false=L.getD q false:=fun q e=>by
   simp only [Array.getD_eq_getD_getElem?]
   rw [Array.getElem?_setIfInBounds_ne e]
  by_cases e1:k=i
  ·subst e1
   exact wpOp_mono (fun a' w' hw'=>wpAny_one3 hA fuel _ _ a' w' (ha.put hA hlt) (.inl hs) hw') (wpOp_to3 hA hlt (wa.2 _ (ready_to3 hA ha (fun e=>absurd e hne) hk)))
  ·by_cases e2:k=j
   ·subst e2
    exact wpOp_mono (fun a' w' hw'=>wpAny_one3 hB fuel _ _ a' w' (hb.put hB hlt) (.inl hs) hw') (wpOp_to3 hB hlt (wb.2 _ (ready_to3 hB hb (fun e=>absurd e e1) hk)))
   ·have t:=hA.tm k _ (Array.getElem?_eq_getElem hlt)
    refine wpOp_mono (fun a' w' hw'=>ih _ _ _ a' w' (ha.put hA hlt) (hb.put hB hlt) ((hso i e1).trans hi) ((hso j e2).trans hj) hw'.1 hw'.2)
     (wpOp_and3 hlt ((t.1.resolve_left e1).resolve_left e2) t.2.1 (wpOp_to3 hA hlt (wa.2 _ (ready_to3 hA ha (fun e=>absurd e e2) hk))) (wpOp_to3 hB hlt (wb.2 _ (ready_to3 hB hb (fun e=>absurd e e1) hk))))
theorem WA.either3 {C:Cx} {σ:St} {Q:Exit→St→Prop} (hA:Laid3 ops A π ρ i j) (hB:Laid3 ops B π' ρ' j i) (hne:i≠j) (h1:WA P C A σ Q) (h2:WA P C B σ Q):WA P C ops σ Q:=by
 intro G a w ok
 have r:∀ (n p:Nat),(Array.replicate n false).getD p false=false:=fun n p=>by
  simp only [Array.getD_eq_getD_getElem?,Array.getElem?_replicate];split<;>rfl
 have ag:∀ (π:Nat→Nat),Agr3 ops.size π (Array.replicate ops.size false) (Array.replicate ops.size false):=fun π=>⟨by simp,by simp,fun p _=>by rw [r,r]⟩
 have x:=h1 G a w ok
 have y:=h2 G a w ok
 rw [hA.sz] at x
 rw [hB.sz] at y
 exact wpAny_both3 hA hB hne _ _ _ _ a _ (ag π) (ag π') (r _ _) (r _ _) x y
end
def reoB3 (L:List Oper)(π ρ:List Nat)(i j:Nat):Bool :=
 (List.range L.length).all (fun p=>Nat.blt (π.getD p 0) L.length && Nat.beq (ρ.getD (π.getD p 0) 0) p && Nat.blt (ρ.getD p 0) L.length && Nat.beq (π.getD (ρ.getD p 0) 0) p) && Nat.blt i L.length && Nat.blt j L.length &&
  (List.range L.length).all (fun p=>(Nat.beq p i|| (Nat.beq p j|| tame3 (L.getD p default).op)) && (L.getD p default).guard.isNone && (L.getD p default).after.toList.all fun e=>Nat.blt e.on L.length)
theorem laid_reo3 {L:List Oper} {π ρ:List Nat} {i j:Nat} (h:reoB3 L π ρ i j=true):Laid3 L.toArray (reo L π ρ i j).toArray (fun p=>π.getD p 0) (fun p=>ρ.getD p 0) i j:=by
 unfold reoB3 at h
 simp only [Bool.and_eq_true,List.all_eq_true,List.mem_range] at h
 obtain ⟨⟨⟨hp,hi⟩,hj⟩,ho⟩:=h
 refine ⟨by simp [reo],fun p hq=>?_,fun p hq=>?_,fun p hq=>?_,fun p hq=>?_,by simpa using of_blt hi,by simpa using of_blt hj,fun p o hpo=>?_,fun p o hpo=>?_⟩
 ·simpa using of_blt (hp p (by simpa using hq)).1.1.1
 ·exact Nat.eq_of_beq_eq_true (hp p (by simpa using hq)).1.1.2
 ·simpa using of_blt (hp p (by simpa using hq)).1.2
 ·exact Nat.eq_of_beq_eq_true (hp p (by simpa using hq)).2
 ·have hpo':L[p]?=some o:=by simpa using hpo
  have hlt:p<L.length:=(List.getElem?_eq_some_iff.1 hpo').1
  have h1:=(hp p hlt).1.1
  have hg:L.getD p default=o:=by rw [List.getD_eq_getElem?_getD,hpo'];rfl
  refine ⟨(aft π i j p o).toArray,?_,fun e he hb=>?_,fun e' he' hb'=>?_⟩
  ·have hr:ρ.getD (π.getD p 0) 0=p:=Nat.eq_of_beq_eq_true h1.2
   have h3:(reo L π ρ i j).toArray[π.getD p 0]?=some { L.getD (ρ.getD (π.getD p 0) 0) default with after:=(aft π i j (ρ.getD (π.getD p 0) 0) (L.getD (ρ.getD (π.getD p 0) 0) default)).toArray }:=by
    rw [List.getElem?_toArray]
    unfold reo
    rw [List.getElem?_map,List.getElem?_range (of_blt h1.1)]
    rfl
   rw [h3,hr,hg]
  ·have he1:=List.mem_toArray.1 he
   rcases List.mem_append.1 he1 with h4|h4
   ·obtain ⟨e',h5,rfl⟩:=List.mem_map.1 h4
    obtain ⟨h6,h7⟩:=List.mem_filter.1 h5
    exact .inl ⟨e',by simpa using h6,h7,rfl⟩
   ·cases hb2:Nat.beq p j with
    | false=>rw [hb2] at h4;cases h4
    | true =>
     rw [hb2] at h4
     have h5:e∈[(⟨π.getD i 0,.data⟩:Edge)]:=h4
     rw [List.mem_singleton] at h5
     subst h5
     exact .inr ⟨Nat.eq_of_beq_eq_true hb2,rfl⟩
  ·refine ⟨⟨π.getD e'.on 0,.data⟩,List.mem_toArray.2 (List.mem_append.2 (.inl (List.mem_map.2 ⟨e',List.mem_filter.2 ⟨by simpa using he',hb'⟩,rfl⟩))),rfl,rfl⟩
 ·have hpo':L[p]?=some o:=by simpa using hpo
  have:=ho p (List.getElem?_eq_some_iff.1 hpo').1
  rw [show L.getD p default=o by rw [List.getD_eq_getElem?_getD,hpo'];rfl] at this
  refine ⟨?_,?_,fun e he=>?_⟩
  ·have h9:=this.1.1
   rw [Bool.or_eq_true,Bool.or_eq_true] at h9
   exact h9.imp Nat.eq_of_beq_eq_true fun q=>q.imp Nat.eq_of_beq_eq_true id
  ·cases hgd:o.guard with
   | none=>rfl
   | some g=>have h8:=this.1.2;rw [hgd] at h8;cases h8
  ·simpa using of_blt (this.2 e (by simpa using he))
section
variable {P:Program} {C:Cx} {σ:St} {Q:Exit→St→Prop}
theorem WA.eitherL3 {L:List Oper} (π ρ π' ρ':List Nat) (i j:Nat) (hA:reoB3 L π ρ i j=true) (hB:reoB3 L π' ρ' j i=true) (hne:Nat.beq i j=false) (h1:WA P C (reo L π ρ i j).toArray σ Q) (h2:WA P C (reo L π' ρ' j i).toArray σ Q):WA P C L.toArray σ Q :=
 WA.either3 (laid_reo3 hA) (laid_reo3 hB) (fun e=>by rw [e,Nat.beq_refl] at hne;cases hne) h1 h2
end
section
variable {P:Program} {C:Cx} {σ:St} {o:Oper} {d:Tmp} {av:AV} {ops:Array Oper} {rest:List Oper} {Q:Exit→St→Prop} {mem:List Bool} {Mc McB:List (Nat×AO)} {e0 nk0 k:Nat}
theorem DTK.vq (hm:mem.getD k false=false) (hds:o.dst=some d) (hdN:Nat.blt d C.N=true) (hb:behindB ops mem k=true) (hi:msInn σ.nk Mc=true) (ht:tsInn σ.nk (onlyT σ.t (o.looksAt ops))=true)
  (hg:guardK ops o ⟨onlyT σ.t (o.looksAt ops),Mc,σ.nk⟩=some true) (h:WV P C o ⟨onlyT σ.t (o.looksAt ops),Mc,σ.nk⟩ av) (r:DTK P C ops mem Mc McB e0 nk0 (k+1) rest (σ.put d av) Q):DTK P C ops mem Mc McB e0 nk0 k (o::rest) σ Q:=by
 obtain ⟨s,x,y⟩:=r
 exact ⟨s,.val k o rest d av σ.nk Mc σ s (.inl rfl) hm hds hdN (.inr ⟨rfl,hb⟩) ⟨hi,ht,.inl ⟨hg,h⟩⟩ x,y⟩
end
end
end Go.Proofs.YthehkchjdkdbiaaGreatDoor
