/- Pieces as trees and pieces in memory. -/
import Derived.Test.YtaeelcfjkhfpkaaGreatPlNq
set_option linter.unusedVariables false
set_option linter.unusedSimpArgs false
namespace Go.Proofs.YtaeelcfjkhfpkaaGreat
section
open Go.RowKit
def onlyT (t:List (Nat×AV)):List Nat→List (Nat×AV)
 | []=>[]
 | x::r =>
  match look x t with
  | some av=>(x,av)::onlyT t r
  | none=>onlyT t r
def St.only(σ:St)(ts:List Nat):St:={ σ with t:=onlyT σ.t ts }
theorem look_onlyT {t:List (Nat×AV)} {i:Nat} {av:AV}:∀ {ts:List Nat},look i (onlyT t ts)=some av→look i t=some av
 | [],h=>by cases h
 | x::r,h=>by
  unfold onlyT at h
  cases hx:look x t with
  | none=>rw [hx]at h;exact look_onlyT h
  | some a =>
   rw [hx]at h
   by_cases e:i=x
   ·subst e
    rw [look_set_same]at h
    rw [hx];exact h
   ·rw [look_set_other e]at h;exact look_onlyT h
theorem onlyT_congr {t t':List (Nat×AV)}:∀ {ts:List Nat},(∀ x∈ts,look x t=look x t')→onlyT t ts=onlyT t' ts
 | [],_=>rfl
 | x::r,h=>by
  unfold onlyT
  rw [h x (by simp),onlyT_congr fun y hy=>h y (by simp [hy])]
section
variable {P:Program} {C:Cx} {σ σ':St} {G G':Gh} {a:Act} {w w':World} {ops:Array Oper} {Q:Exit→St→Prop}
theorem Ok.only_ (ok:Ok C σ G a w)(ts:List Nat):Ok C (σ.only ts) G a w :=
 ⟨ok.sz,ok.df,fun i av h=>ok.tm i av (look_onlyT h),ok.bel,ok.fw,ok.f0,ok.f1,ok.ob,ok.my,ok.dj,ok.dF⟩
theorem Ok.congr_ (ok:Ok C σ G a w) (h:∀ t,look t σ'.t=look t σ.t) (hM:σ'.M=σ.M) (hn:σ'.nk=σ.nk):Ok C σ' G a w :=
 ⟨ok.sz,by rw [hn];exact ok.df,fun i av x=>by rw [hn];exact ok.tm i av (by rw [← h];exact x),ok.bel,ok.fw,ok.f0,ok.f1,fun k o x=>by rw [hn];exact ok.ob k o (by rw [← hM];exact x),fun k o x a=>ok.my k o x (by rw [← hM];exact a),fun k o k' o' x a b=>ok.dj k o k' o' x (by rw [← hM];exact a) (by rw [← hM];exact b),fun k o x p u a=>ok.dF k o x p u (by rw [← hM];exact a)⟩
def guardK (ops:Array Oper)(o:Oper)(σ:St):Option Bool :=
 match o.guard with
 | none=>some true
 | some (j,b) =>
  match (ops[j]?).bind (·.dst)with
  | some d =>
   match look d σ.t with
   | some (.sc v)=>some (match vb v with|some c=>c == b|none=>false)
   | _=>none
  | none=>none
theorem guardK_wanted {o:Oper} {b:Bool} (ok:Ok C σ G a w)(h:guardK ops o σ=some b):Region.wanted o (yielded ops a.tmps)=b:=by
 unfold guardK at h
 unfold Region.wanted
 cases hg:o.guard with
 | none=>rw [hg]at h;cases h;rfl
 | some x =>
  obtain⟨j,c⟩:=x
  rw [hg]at h
  simp only at h ⊢
  cases hj:ops[j]? with
  | none=>simp [hj]at h
  | some oj =>
   cases hd:oj.dst with
   | none=>simp [hj,hd]at h
   | some d =>
    simp only [hj,Option.bind_some,hd]at h
    cases hv:look d σ.t with
    | none=>simp [hv]at h
    | some av =>
     cases av with
     | sc v =>
      simp only [hv]at h
      cases h
      rw [yielded_of ok hj hd hv]
      cases vb v with
      | none=>rfl
      | some c'=>cases c'<;>cases c<;>rfl
     | _=>simp [hv]at h
def Does (P:Program)(C:Cx)(ops:Array Oper)(o:Oper)(σ:St)(av:AV):Prop :=
 (guardK ops o (σ.only (o.looksAt ops))=some true∧WV P C o (σ.only (o.looksAt ops)) av)∨(guardK ops o (σ.only (o.looksAt ops))=some false∧av=.sc undef)
theorem Does.congr_ {o:Oper} {av:AV} (h:Does P C ops o σ av)(hl:∀ t∈o.looksAt ops,look t σ.t=look t σ'.t)(hM:σ'.M=σ.M)(hn:σ'.nk=σ.nk):Does P C ops o σ' av:=by
 have e:σ'.only (o.looksAt ops)=σ.only (o.looksAt ops):=by
  unfold St.only
  rw [hM,hn,onlyT_congr fun x hx=>(hl x hx).symm]
 unfold Does
 rw [e];exact h
inductive DL (P:Program)(C:Cx)(ops:Array Oper):List Oper→St→St→Prop
 | nil (σ:St):DL P C ops [] σ σ
 | op (o:Oper)(rest:List Oper)(d:Tmp)(av:AV)(σ σ':St):o.dst=some d→Nat.blt d C.N=true→Does P C ops o σ av→DL P C ops rest (σ.put d av) σ'→DL P C ops (o::rest) σ σ'
def ent1 (o:Option Tmp)(b:Bool)(av:AV):List (Nat×AV) :=
 match b,o with
 | true,some d=>[(d,av)]
 | _,_=>[]
theorem look_ent1 (t:Nat) (o:Option Tmp) (b:Bool) (av:AV):look t (ent1 o b av)=if b=true∧o=some t then some av else none:=by
 cases b with
 | false=>simp [ent1,look]
 | true =>
  cases o with
  | none=>simp [ent1,look]
  | some d =>
   by_cases e:t=d
   ·subst e;rw [if_pos ⟨rfl,rfl⟩];exact look_set_same
   ·rw [if_neg (fun h=>e (by injection h.2 with h;exact h.symm))]
    show look t [(d,av)]=none
    rw [look_set_other e];rfl
def ents (ops:Array Oper) (avs:Nat→AV) (s:Nat→Bool):Nat→List (Nat×AV)
 | 0=>[]
 | m+1=>ent1 ((ops[m]?).bind (·.dst)) (s m) (avs m)++ents ops avs s m
theorem look_app {α:Type} (i:Nat):∀ (l m:List (Nat×α)),look i (l++m)=(look i l).or (look i m)
 | [],m=>rfl
 | x::r,m=>by
  by_cases e:i=x.1
  ·subst e
   rw [List.cons_append,look_set_same,look_set_same];rfl
  ·rw [List.cons_append,look_set_other e,look_set_other e,look_app i r m]
theorem ents_agree {avs:Nat→AV} {s s':Nat→Bool} {t:Nat}:∀ {m:Nat},(∀ i,i<m→(ops[i]?).bind (·.dst)=some t→s i=s' i)→look t (ents ops avs s m)=look t (ents ops avs s' m)
 | 0,_=>rfl
 | m+1,h=>by
  have ih:=ents_agree (avs:=avs) (s:=s) (s':=s') (t:=t) (m:=m) fun i hi hd=>h i zqo hd
  unfold ents
  rw [look_app,look_app,ih,look_ent1,look_ent1]
  by_cases e:(ops[m]?).bind (·.dst)=some t
  ·rw [h m (by omega) e]
  ·rw [if_neg (fun x=>e x.2),if_neg (fun x=>e x.2)]
theorem ents_none {avs:Nat→AV} {s:Nat→Bool} {t:Nat}:∀ {m:Nat},(∀ i,i<m→(ops[i]?).bind (·.dst)=some t→s i=false)→look t (ents ops avs s m)=none
 | 0,_=>rfl
 | m+1,h=>by
  have ih:=ents_none (avs:=avs) (s:=s) (t:=t) (m:=m) fun i hi hd=>h i zqo hd
  unfold ents
  rw [look_app,ih,look_ent1,if_neg]
  ·rfl
  ·intro x
   rw [h m (by omega) x.2] at x
   cases x.1
theorem ents_top {avs:Nat→AV} {s:Nat→Bool} {t j:Nat}:∀ {m:Nat},j<m→(ops[j]?).bind (·.dst)=some t→s j=true→(∀ i,j<i→i<m→(ops[i]?).bind (·.dst)=some t→s i=false)→look t (ents ops avs s m)=some (avs j)
 | 0,h,_,_,_=>by omega
 | m+1,hj,hd,hs,h=>by
  unfold ents
  rw [look_app,look_ent1]
  by_cases e:j=m
  ·subst e
   rw [if_pos ⟨hs,hd⟩];rfl
  ·have ih:=ents_top (avs:=avs) (s:=s) (t:=t) (j:=j) (m:=m) zqo hd hs fun i h1 h2=>h i h1 zqo
   rw [ih,if_neg]
   ·rfl
   ·intro x
    rw [h m (by omega) (by omega) x.2] at x
    cases x.1
theorem lex_facts {md:Region.Mode}:∀ (m k:Nat) (listed:Array Bool),ops.size=k+m→listed.size=ops.size→(∀ i,i<ops.size→listed.getD i true=decide (i<k))→Region.lexFrom md ops m k listed=true →
  (∀ j oj,k≤j→ops[j]?=some oj→∀ e∈oj.after,Region.binds md e=true→e.on<j) ∧
  (∀ i j oi oj,k≤i→i<j→ops[i]?=some oi→ops[j]?=some oj→(∀ e∈oj.after,Region.binds md e=true→e.on≠i)→oi.apart ops oj=true)
 | 0,k,listed,hk,_,_,_=>⟨fun j oj h h'=>by have:=(Array.getElem?_eq_some_iff.1 h').1;omega,fun i j oi oj h h1 h2=>by have:=(Array.getElem?_eq_some_iff.1 h2).1;omega⟩
 | m+1,k,listed,hk,hsz,hl,h=>by
  simp only [Region.lexFrom,Bool.and_eq_true] at h
  obtain ⟨⟨hr,hf⟩,hrest⟩:=h
  have ih:=lex_facts m (k+1) (listed.setIfInBounds k true) (by omega) (by simpa using hsz) (fun i hi=>by
   by_cases e:k=i
   ·subst e;simp [hsz,hi]
   ·rw [show (listed.setIfInBounds k true).getD i true=listed.getD i true from by simp [Array.getD_eq_getD_getElem?,Array.getElem?_setIfInBounds_ne e],hl i hi]
    have:(i<k)↔(i<k+1):=by omega
    simp [this]) hrest
  have hmem:k∈Region.ready md ops listed:=by simpa using hr
  obtain ⟨_,o,ho,hall⟩:=mem_ready.1 hmem
  refine ⟨fun j oj hj hoj e he hb=>?_,fun i j oi oj hi hij hoi hoj hno=>?_⟩
  ·by_cases e2:j=k
   ·subst e2
    rw [ho] at hoj
    cases hoj
    have h1:=hall e he hb
    by_cases hlt:e.on<ops.size
    ·have h2:=hl e.on hlt
     have h3:listed.getD e.on false=listed.getD e.on true:=by simp [Array.getD_eq_getD_getElem?,hsz,hlt]
     rw [h3,h2] at h1
     exact of_decide_eq_true h1
    ·have:listed.getD e.on false=false:=by simp [Array.getD_eq_getD_getElem?,hsz,hlt]
     rw [this] at h1;cases h1
   ·exact ih.1 j oj zqo hoj e he hb
  ·by_cases e2:i=k
   ·subst e2
    have hjlt:=(Array.getElem?_eq_some_iff.1 hoj).1
    exact Region.free_spec hoi hf j oj hoj (by omega) (by rw [hl j hjlt];simp;omega) hno
   ·exact ih.2 i j oi oj zqo hij hoi hoj hno
theorem DL.data {l:List Oper} {σ σ':St} (h:DL P C ops l σ σ'):∃ avs:Nat→AV,σ'={ σ with t:=ents l.toArray avs (fun _=>true) l.length++σ.t } ∧
  ∀ j oj,l[j]?=some oj→∃ d,oj.dst=some d∧d<C.N∧Does P C ops oj { σ with t:=ents l.toArray avs (fun _=>true) j++σ.t } (avs j):=by
 induction h with
 | nil σ=>exact ⟨fun _=>.sc undef,rfl,fun j oj h=>by simp at h⟩
 | op o rest d av σ σ' hd hN hdo _ ih =>
  obtain ⟨avs,e1,e2⟩:=ih
  have key:∀ m,m≤rest.length→ents (o::rest).toArray (fun j=>if j=0 then av else avs (j-1)) (fun _=>true) (m+1)=ents rest.toArray avs (fun _=>true) m++[(d,av)]:=by
   intro m
   induction m with
   | zero=>intro _;simp [ents,ent1,hd]
   | succ m ihm =>
    intro hm
    rw [ents,ihm (by omega),ents]
    simp
  refine ⟨fun j=>if j=0 then av else avs (j-1),?_,fun j oj hj=>?_⟩
  ·rw [e1,List.length_cons,key _ (Nat.le_refl _)]
   simp [St.put]
  ·cases j with
   | zero=>cases hj;exact ⟨d,hd,of_blt hN,by simpa [ents] using hdo⟩
   | succ j =>
    have hj':rest[j]?=some oj:=by simpa using hj
    obtain ⟨d',q1,q2,q3⟩:=e2 j oj hj'
    refine ⟨d',q1,q2,?_⟩
    rw [key j (by have:=(List.getElem?_eq_some_iff.1 hj').1;omega)]
    simpa [St.put] using q3
theorem rep_getD(n j:Nat):(Array.replicate n false).getD j false=false:=by
 unfold Array.getD
 split<;>simp
theorem countP_lt {p q:Nat→Bool} (h:∀ i,q i=true→p i=true):∀ {n j:Nat},j<n→p j=true→q j=false→(List.range n).countP q<(List.range n).countP p
 | 0,_,hj,_,_=>by omega
 | n+1,j,hj,hp,hq=>by
  rw [List.range_succ,List.countP_append,List.countP_append]
  have hle:(List.range n).countP q≤(List.range n).countP p:=List.countP_mono_left fun x _ hx=>h x hx
  by_cases e:j=n
  ·subst e
   have a1:[j].countP q=0:=by simp [hq]
   have a2:[j].countP p=1:=by simp [hp]
   omega
  ·have:=countP_lt h (n:=n) (j:=j) zqo hp hq
   have h1:[n].countP q≤[n].countP p:=List.countP_mono_left fun x _ hx=>h x hx
   omega
def WA (P:Program)(C:Cx)(ops:Array Oper)(σ:St)(Q:Exit→St→Prop):Prop:=∀ G a w,Ok C σ G a w→wpAny P .any ops (Post C Q) ops.size (Array.replicate ops.size false) a { w with drawn:=w.drawn+1 }
theorem W.of_wa {id:Nat} (hm:P.follows .mixedOrders=true)(h:WA P C ops σ Q):W P C (.region id ops true) σ Q:=fun G a w ok=>wp_region_any hm (h G a w ok)
theorem WA.draw {l:List Oper} (hB:Region.lexB .any l.toArray=true) (h:DL P C l.toArray l σ σ') (k:Q .normal σ'):WA P C l.toArray σ Q:=by
 intro G a w ok
 obtain ⟨avs,e1,e2⟩:=h.data
 simp only [Region.lexB,Bool.and_eq_true] at hB
 obtain ⟨FA,FB⟩:=lex_facts (ops:=l.toArray) l.toArray.size 0 (Array.replicate l.toArray.size false) (by simp) (by simp) (fun i hi=>by simp [Array.getD_eq_getD_getElem?,hi] at hi ⊢;simp [hi]) hB.2
 have sz:l.toArray.size=l.length:=by simp
 let KS:Array Bool→St:=fun listed=>{ σ with t:=ents l.toArray avs (fun i=>listed.getD i false) l.length++σ.t }
 have key:∀ (fuel:Nat) (listed:Array Bool) (G:Gh) (a:Act) (w:World),listed.size=l.length→(∀ j oj,l[j]?=some oj→listed.getD j false=true→∀ e∈oj.after,Region.binds .any e=true→listed.getD e.on false=true) →
   (List.range l.length).countP (fun i=>!listed.getD i false)≤fuel→Ok C (KS listed) G a w→wpAny P .any l.toArray (Post C Q) fuel listed a w:=by
  intro fuel
  have done:∀ (listed:Array Bool) (G:Gh) (a:Act) (w:World),listed.size=l.length→Region.ready .any l.toArray listed=[]→Ok C (KS listed) G a w→Post C Q .normal a w:=by
   intro listed G a w hsz hr ok
   have hall:∀ n i,i < n→i < l.length→listed.getD i false=true:=by
    intro n
    induction n with
    | zero=>intro i h;omega
    | succ n ih =>
     intro i hi hlt
     by_cases e:i < n
     ·exact ih i e hlt
     ·have hin:i=n:=by omega
      subst hin
      cases hli:listed.getD i false with
      | true=>rfl
      | false =>
       have hoi:l.toArray[i]?=some l[i]:=by simp [hlt]
       have:i∈Region.ready .any l.toArray listed:=mem_ready.2 ⟨by
        have:listed.getD i true=listed.getD i false:=by simp [Array.getD_eq_getD_getElem?,hsz,hlt]
        rw [this];exact hli,l[i],hoi,fun e he hb=>ih e.on (FA i l[i] (Nat.zero_le _) hoi e he hb) (by have:=FA i l[i] (Nat.zero_le _) hoi e he hb;omega)⟩
       rw [hr] at this;cases this
   refine ⟨σ',G,k,ok.congr_ (fun t=>?_) (by rw [e1]) (by rw [e1])⟩
   rw [e1]
   show look t (_++_)=look t (_++_)
   rw [look_app,look_app,ents_agree (s':=fun i=>listed.getD i false) fun i hi _=>(hall (i+1) i (by omega) hi).symm]
  induction fuel with
  | zero =>
   intro listed G a w hsz hcl hf ok
   have hr:Region.ready .any l.toArray listed=[]:=by
    apply List.eq_nil_iff_forall_not_mem.2
    intro j hj
    obtain ⟨h1,oj,h2,_⟩:=mem_ready.1 hj
    have hlt:j < l.length:=by have:=(Array.getElem?_eq_some_iff.1 h2).1;omega
    have h3:listed.getD j false=false:=by
     have:listed.getD j false=listed.getD j true:=by simp [Array.getD_eq_getD_getElem?,hsz,hlt]
     rw [this];exact h1
    have:=List.countP_eq_zero.1 (Nat.le_zero.1 hf) j (List.mem_range.2 hlt)
    simp [h3] at this
   exact ⟨hr,done listed G a w hsz hr ok⟩
  | succ fuel ih =>
   intro listed G a w hsz hcl hf ok
   refine ⟨fun hr=>done listed G a w hsz hr ok,fun j hj=>?_⟩
   obtain ⟨h1,oj,h2,h4⟩:=mem_ready.1 hj
   have hlt:j < l.length:=by have:=(Array.getElem?_eq_some_iff.1 h2).1;omega
   have h3:listed.getD j false=false:=by
    have:listed.getD j false=listed.getD j true:=by simp [Array.getD_eq_getD_getElem?,hsz,hlt]
    rw [this];exact h1
   have hlj:l[j]?=some oj:=by simpa using h2
   obtain ⟨d,hd,hdN,hdoes⟩:=e2 j oj hlj
   have hlook:∀ t∈oj.looksAt l.toArray,∀ i,i < l.length→(l.toArray[i]?).bind (·.dst)=some t→listed.getD i false=decide (i < j):=by
    intro t ht i hi hdi
    have hoi:l.toArray[i]?=some l[i]:=by simp [hi]
    rw [hoi] at hdi
    have hdi:l[i].dst=some t:=hdi
    rcases Nat.lt_trichotomy i j with hij|hij|hij
    ·rw [decide_eq_true hij]
     by_cases hno:∃ e,e∈oj.after∧Region.binds .any e=true∧e.on=i
     ·obtain ⟨e,he,hb,rfl⟩:=hno
      exact h4 e he hb
     ·exact absurd ht ((Oper.apart_spec (FB i j _ _ (Nat.zero_le _) hij hoi h2 fun e he hb h=>hno ⟨e,he,hb,h⟩)).1 t hdi)
    ·subst hij;rw [h3];simp
    ·rw [decide_eq_false (by omega)]
     cases hli:listed.getD i false with
     | false=>rfl
     | true =>
      by_cases hno:∃ e,e∈(l[i]).after∧Region.binds .any e=true∧e.on=j
      ·obtain ⟨e,he,hb,he2⟩:=hno
       have:=hcl i _ (by simp [hi]) hli e he hb
       rw [he2,h3] at this;cases this
      ·exact absurd ht ((Oper.apart_spec (FB j i _ _ (Nat.zero_le _) hij h2 hoi fun e he hb h=>hno ⟨e,he,hb,h⟩)).2.2 t hdi)
   have hents:∀ t,look t (ents l.toArray avs (fun _=>true) j)=look t (ents l.toArray avs (fun i=>decide (i < j)) l.length):=by
    intro t
    have:∀ m,j≤m→look t (ents l.toArray avs (fun i=>decide (i < j)) m)=look t (ents l.toArray avs (fun i=>decide (i < j)) j):=by
     intro m
     induction m with
     | zero=>intro h;rw [Nat.le_zero.1 h]
     | succ m ihm =>
      intro h
      by_cases e:j=m+1
      ·rw [e]
      ·rw [ents,look_app,look_ent1,if_neg (fun x=>by have:=of_decide_eq_true x.1;omega),ihm (by omega)];rfl
    rw [this l.length (by omega)]
    exact ents_agree fun i hi _=>(decide_eq_true hi).symm
   have hdo:Does P C l.toArray oj (KS listed) (avs j):=hdoes.congr_ (fun t ht=>by
    show look t (_++_)=look t (_++_)
    rw [look_app,look_app,hents t,ents_agree fun i hi hdi=>(hlook t ht i hi hdi).symm]) rfl rfl
   have next:∀ (v:Value) (G':Gh) (w':World),Ok C (KS listed) G' a w'→R G' (avs j) v→Bd σ.nk (avs j)→wpAny P .any l.toArray (Post C Q) fuel (listed.setIfInBounds j true) (a.put oj.dst v) w':=by
    intro v G' w' ok' hr hb
    have ok2:=ok'.set (d:=some d) hr hb fun x hx=>by cases hx;exact hdN
    rw [hd]
    refine ih (listed.setIfInBounds j true) G' _ w' (by simpa using hsz) (fun i oi hi hli e he hb=>?_) ?_ (ok2.congr_ (fun t=>?_) rfl rfl)
    ·have mono:∀ q,listed.getD q false=true→(listed.setIfInBounds j true).getD q false=true:=fun q hq=>by
      by_cases e:j=q
      ·subst e;rw [hq] at h3;cases h3
      ·simpa [Array.getD_eq_getD_getElem?,Array.getElem?_setIfInBounds_ne e] using hq
     by_cases e2:j=i
     ·subst e2
      rw [hlj] at hi;cases hi
      exact mono _ (h4 e he hb)
     ·refine mono _ (hcl i oi hi ?_ e he hb)
      simpa [Array.getD_eq_getD_getElem?,Array.getElem?_setIfInBounds_ne e2] using hli
    ·have hlt2:(List.range l.length).countP (fun i=>!(listed.setIfInBounds j true).getD i false) < (List.range l.length).countP (fun i=>!listed.getD i false):=by
      exact countP_lt (fun i hi=>by
       by_cases e:j=i
       ·subst e;simp [Array.getD_eq_getD_getElem?,hsz,hlt] at hi
       ·simpa [Array.getD_eq_getD_getElem?,Array.getElem?_setIfInBounds_ne e] using hi) hlt (by simp [h3]) (by simp [Array.getD_eq_getD_getElem?,hsz,hlt])
     omega
    ·show look t (_++_)=look t ((d,avs j)::(_++_))
     by_cases et:t=d
     ·subst et
      rw [look_set_same,look_app,ents_top (j:=j) hlt (by rw [h2];exact hd) (by simp [Array.getD_eq_getD_getElem?,hsz,hlt]) fun i hij hi hdi=>?_]
      ·rfl
      ·have hoi:l.toArray[i]?=some l[i]:=by simp [hi]
       rw [hoi] at hdi
       have hdi:l[i].dst=some t:=hdi
       have hne:j≠i:=by omega
       cases hli:listed.getD i false with
       | false=>simpa [Array.getD_eq_getD_getElem?,Array.getElem?_setIfInBounds_ne hne] using hli
       | true =>
        by_cases hno:∃ e,e∈(l[i]).after∧Region.binds .any e=true∧e.on=j
        ·obtain ⟨e,he,hb,he2⟩:=hno
         have:=hcl i _ (by simp [hi]) hli e he hb
         rw [he2,h3] at this;cases this
        ·exact absurd hdi ((Oper.apart_spec (FB j i _ _ (Nat.zero_le _) hij h2 hoi fun e he hb h=>hno ⟨e,he,hb,h⟩)).2.1 t hd)
     ·rw [look_set_other et,look_app,look_app]
      congr 1
      refine ents_agree fun i hi hdi=>?_
      by_cases e2:j=i
      ·subst e2
       rw [h2] at hdi
       have:oj.dst=some t:=hdi
       rw [hd] at this
       exact absurd (by injection this with h;exact h.symm) et
      ·simp [Array.getD_eq_getD_getElem?,Array.getElem?_setIfInBounds_ne e2]
   unfold wpOp
   simp only [h2]
   have okO:=ok.only_ (oj.looksAt l.toArray)
   rcases hdo with ⟨hg,hv⟩|⟨hg,hv⟩
   ·rw [if_pos (guardK_wanted okO hg)]
    exact .inl (hv G a w okO _ _ fun v G' w' hk hr hb=>next v G' w' (hk _ _ ok) hr hb)
   ·rw [if_neg (by rw [guardK_wanted okO hg];simp)]
    exact next undef G w ok (by rw [hv];exact .pu _ _ (.sc _)) (by rw [hv];exact .sc _)
 refine key _ (Array.replicate l.toArray.size false) G a _ (by simp) (fun j oj _ h=>?_) ?_ (ok.drew.congr_ (fun t=>?_) rfl rfl)
 ·rw [rep_getD] at h;cases h
 ·rw [sz]
  exact Nat.le_trans List.countP_le_length (by simp)
 ·show look t (_++_)=_
  rw [look_app,ents_none fun i hi _=>?_]
  ·rfl
  ·exact rep_getD _ _
theorem W.draw {id:Nat} {l:List Oper} (hm:P.follows .mixedOrders=true)(hB:Region.lexB .any l.toArray=true)(h:DL P C l.toArray l σ σ')(k:Q .normal σ'):W P C (.region id l.toArray true) σ Q:=W.of_wa hm (WA.draw hB h k)
end
end
section
open Go.RowKit
def needs(ops:Array Oper)(i:Nat):Nat→Nat→Bool
 | 0,_=>false
 | f+1,j =>
  match ops[j]? with
  | some o=>o.after.any fun e=>Region.binds .any e && (Nat.beq e.on i|| needs ops i f e.on)
  | none=>false
def behindB(ops:Array Oper)(mem:List Bool)(j:Nat):Bool:=(List.range j).all fun i=>!(mem.getD i false)|| needs ops i ops.size j
def chainB(ops:Array Oper)(mem:List Bool):Bool:=(List.range ops.size).all fun j=>!(mem.getD j false)|| behindB ops mem j
section
variable {P:Program} {C:Cx} {σ σ':St} {G G':Gh} {a:Act} {w w':World} {ops:Array Oper} {Q:Exit→St→Prop}
theorem needs_listed {listed:Array Bool} (hcl:∀ j oj,ops[j]?=some oj→listed.getD j false=true→∀ e∈oj.after,Region.binds .any e=true→listed.getD e.on false=true) {i:Nat}:∀ (f j:Nat),needs ops i f j=true→listed.getD j false=true→listed.getD i false=true
 | 0,j,h,_=>by cases h
 | f+1,j,h,hl=>by
  unfold needs at h
  cases ho:ops[j]? with
  | none=>simp [ho]at h
  | some o =>
   simp only [ho]at h
   obtain⟨e,he,h2⟩:=Array.any_eq_true'.1 h
   simp only [Bool.and_eq_true,Bool.or_eq_true]at h2
   have:=hcl j o ho hl e he h2.1
   rcases h2.2 with h3|h3
   ·rw [← Nat.eq_of_beq_eq_true h3];exact this
   ·exact needs_listed hcl f e.on h3 this
theorem needs_ready {listed:Array Bool} (hcl:∀ j oj,ops[j]?=some oj→listed.getD j false=true→∀ e∈oj.after,Region.binds .any e=true→listed.getD e.on false=true) {i j:Nat} {oj:Oper} (hj:ops[j]?=some oj)
  (hr:∀ e∈oj.after,Region.binds .any e=true→listed.getD e.on false=true):∀ (f:Nat),needs ops i f j=true→listed.getD i false=true
 | 0,h=>by cases h
 | f+1,h=>by
  unfold needs at h
  simp only [hj]at h
  obtain⟨e,he,h2⟩:=Array.any_eq_true'.1 h
  simp only [Bool.and_eq_true,Bool.or_eq_true]at h2
  have:=hr e he h2.1
  rcases h2.2 with h3|h3
  ·rw [← Nat.eq_of_beq_eq_true h3];exact this
  ·exact needs_listed hcl f e.on h3 this
theorem Ok.few (ok:Ok C σ G a w) {t:List (Nat×AV)} {M:List (Nat×AO)} {nk:Nat} (ht:∀ i av,look i t=some av→look i σ.t=some av∧av.inn nk=true) (hM:∀ k o,look k M=some o→look k σ.M=some o∧o.inn nk=true∧k<nk) (hnp:C.np≤nk):Ok C ⟨t,M,nk⟩ G a w :=
 ⟨ok.sz,⟨ok.df.1,hnp,ok.df.2.2⟩,fun i av x=>⟨(ok.tm i av (ht i av x).1).1,inn_bd (ht i av x).2,(ok.tm i av (ht i av x).1).2.2⟩,ok.bel,ok.fw,ok.f0,ok.f1,
  fun k o x=>⟨(hM k o x).2.2,by
   cases o with
   | box T cells=>exact fun i av y=>in1_bd (List.all_eq_true.1 (hM k _ x).2.1 av (List.mem_of_getElem? y))
   | rof T n rows hi hj y=>exact in1_bd (hM k _ x).2.1
   | rwo T n rows hi hj y=>exact in1_bd (hM k _ x).2.1
   | row T n rows=>trivial
   | rwn T n rows=>trivial
   | bld T e l=>trivial
   | opq q=>trivial,(ok.ob k o (hM k o x).1).2.2⟩,
  fun k o x p=>ok.my k o x (hM k o p).1,fun k o k' o' x p q=>ok.dj k o k' o' x (hM k o p).1 (hM k' o' q).1,fun k o x p u q=>ok.dF k o x p u (hM k o q).1⟩
def tsInn (nk:Nat):List (Nat×AV)→Bool
 | []=>true
 | x::r=>x.2.inn nk && tsInn nk r
def msInn (nk:Nat):List (Nat×AO)→Bool
 | []=>true
 | x::r=>x.2.inn nk && Nat.blt x.1 nk && msInn nk r
def msSub:List (Nat×AO)→List (Nat×AO)→Prop
 | [],_=>True
 | x::r,M=>look x.1 M=some x.2∧msSub r M
theorem tsInn_at {nk:Nat}:∀ {t:List (Nat×AV)},tsInn nk t=true→∀ i av,look i t=some av→av.inn nk=true
 | [],_,i,av,h=>by cases h
 | x::r,ht,i,av,h=>by
  simp only [tsInn,Bool.and_eq_true]at ht
  by_cases e:i=x.1
  ·subst e;rw [look_set_same]at h;cases h;exact ht.1
  ·rw [look_set_other e]at h;exact tsInn_at ht.2 i av h
theorem msInn_at {nk:Nat}:∀ {t:List (Nat×AO)},msInn nk t=true→∀ i o,look i t=some o→o.inn nk=true∧i<nk
 | [],_,i,o,h=>by cases h
 | x::r,ht,i,o,h=>by
  simp only [msInn,Bool.and_eq_true]at ht
  by_cases e:i=x.1
  ·subst e;rw [look_set_same]at h;cases h;exact⟨ht.1.1,of_blt ht.1.2⟩
  ·rw [look_set_other e]at h;exact msInn_at ht.2 i o h
theorem msSub_at {M:List (Nat×AO)}:∀ {t:List (Nat×AO)},msSub t M→∀ i o,look i t=some o→look i M=some o
 | [],_,i,o,h=>by cases h
 | x::r,ht,i,o,h=>by
  by_cases e:i=x.1
  ·subst e;rw [look_set_same]at h;cases h;exact ht.1
  ·rw [look_set_other e]at h;exact msSub_at ht.2 i o h
def DoesV (P:Program) (C:Cx) (ops:Array Oper) (o:Oper) (t:List (Nat×AV)) (Mc:List (Nat×AO)) (nk:Nat) (av:AV):Prop :=
 msInn nk Mc=true∧tsInn nk (onlyT t (o.looksAt ops))=true∧((guardK ops o ⟨onlyT t (o.looksAt ops),Mc,nk⟩=some true∧WV P C o ⟨onlyT t (o.looksAt ops),Mc,nk⟩ av)∨(guardK ops o ⟨onlyT t (o.looksAt ops),Mc,nk⟩=some false∧av=.sc undef))
def DoesM (P:Program) (C:Cx) (ops:Array Oper) (o:Oper) (σ:St) (d:Tmp) (av:AV) (M':List (Nat×AO)) (nk':Nat):Prop :=
 o.guard=none∧∀ t,(∀ q∈o.looksAt ops,look q t=look q σ.t)→WO P C o ⟨t,σ.M,σ.nk⟩ ⟨(d,av)::t,M',nk'⟩
inductive DM (P:Program) (C:Cx) (ops:Array Oper) (mem:List Bool) (Mc:List (Nat×AO)) (nk0:Nat):Nat→List Oper→St→St→Prop
 | nil (k:Nat) (σ:St):DM P C ops mem Mc nk0 k [] σ σ
 | val (k:Nat) (o:Oper) (rest:List Oper) (d:Tmp) (av:AV) (nk:Nat) (σ σ':St):mem.getD k false=false→o.dst=some d→Nat.blt d C.N=true→(nk=nk0∨(nk=σ.nk∧behindB ops mem k=true))→DoesV P C ops o σ.t Mc nk av →
   DM P C ops mem Mc nk0 (k+1) rest (σ.put d av) σ'→DM P C ops mem Mc nk0 k (o::rest) σ σ'
 | mem (k:Nat) (o:Oper) (rest:List Oper) (d:Tmp) (av:AV) (M':List (Nat×AO)) (nk':Nat) (σ σ':St):mem.getD k false=true→o.dst=some d→Nat.ble σ.nk nk'=true→msSub Mc M'→DoesM P C ops o σ d av M' nk' →
   DM P C ops mem Mc nk0 (k+1) rest ⟨(d,av)::σ.t,M',nk'⟩ σ'→DM P C ops mem Mc nk0 k (o::rest) σ σ'
def cur(mem s:Nat→Bool):Nat→Nat
 | 0=>0
 | m+1=>if mem m=true∧s m=true then m+1 else cur mem s m
theorem cur_congr {mem s s':Nat→Bool}:∀ {m:Nat},(∀ i,i<m→mem i=true→s i=s' i)→cur mem s m=cur mem s' m
 | 0,_=>rfl
 | m+1,h=>by
  unfold cur
  rw [cur_congr (m:=m) fun i hi=>h i (by omega)]
  by_cases e:mem m=true
  ·rw [h m (by omega) e]
  ·rw [if_neg (fun x=>e x.1),if_neg (fun x=>e x.1)]
theorem cur_le {mem s:Nat→Bool}:∀ m:Nat,cur mem s m≤m
 | 0=>Nat.le_refl _
 | m+1=>by
  unfold cur
  split
  ·exact Nat.le_refl _
  ·exact Nat.le_succ_of_le (cur_le m)
theorem cur_at {α:Type} {mem s:Nat→Bool} {f:Nat→α} {n j:Nat} (hc:∀ i,i<n→mem i=false→f (i+1)=f i) (hs:∀ i,i<n→mem i=true→s i=decide (i<j)):∀ m,m≤n→f (cur mem s m)=f (min m j)
 | 0,_=>by simp [cur]
 | m+1,h=>by
  have ih:=cur_at hc hs m zqo
  unfold cur
  by_cases e:mem m=true
  ·have:=hs m zqo e
   by_cases hm:m<j
   ·rw [if_pos ⟨e,by rw [this];simpa using hm⟩,show min (m+1) j=m+1 by omega]
   ·rw [if_neg (by rw [this];simp;intro _;omega),ih,show min (m+1) j=min m j by omega]
  ·rw [if_neg (fun x=>e x.1),ih]
   by_cases hm:m<j
   ·rw [show min (m+1) j=m+1 by omega,show min m j=m by omega,hc m (by omega) (by simpa using e)]
   ·rw [show min (m+1) j=min m j by omega]
theorem cur_ge {mem s:Nat→Bool} {f:Nat→Nat} {n j:Nat} (hc:∀ i,i<n→mem i=false→f (i+1)=f i) (hmono:∀ i,i<n→f i≤f (i+1)) (hs:∀ i,i<n→i<j→mem i=true→s i=true):∀ m,m≤n→f (min m j)≤f (cur mem s m)
 | 0,_=>by simp [cur]
 | m+1,h=>by
  have ih:=cur_ge hc hmono hs m zqo
  unfold cur
  by_cases e:mem m=true∧s m=true
  ·rw [if_pos e]
   by_cases hm:m<j
   ·rw [show min (m+1) j=m+1 by omega]
    exact Nat.le_refl _
   ·rw [show min (m+1) j=j by omega]
    have:∀ b a,a≤b→b≤n→f a≤f b:=by
     intro b
     induction b with
     | zero=>intro a h _;rw [Nat.le_zero.1 h];exact Nat.le_refl _
     | succ b ihb =>
      intro a hab hbn
      by_cases e2:a=b+1
      ·rw [e2];exact Nat.le_refl _
      ·exact Nat.le_trans (ihb a zqo zqo) (hmono b zqo)
    exact this (m+1) j zqo h
  ·rw [if_neg e]
   by_cases hm:m<j
   ·have hmf:mem m=false:=by
     cases hq:mem m with
     | false=>rfl
     | true=>exact absurd ⟨hq,hs m zqo hm hq⟩ e
    rw [show min (m+1) j=m+1 by omega,hc m (by omega) hmf]
    rw [show min m j=m by omega] at ih
    exact ih
   ·rw [show min (m+1) j=min m j by omega];exact ih
end
end
section
open Go.RowKit
theorem fold_put:∀ (v:List Value)(off:Nat)(cells:Array Value),off+v.length≤cells.size→(v.zipIdx.foldl (fun cs (c,j)=>cs.setIfInBounds (off+j) c) cells).toList=putL off v cells.toList:=by
 have key:∀ (v:List Value)(off s:Nat)(cells:Array Value),off+s+v.length≤cells.size→(v.zipIdx s|>.foldl (fun cs (x:Value×Nat)=>cs.setIfInBounds (off+x.2) x.1) cells).toList=putL (off+s) v cells.toList:=by
  intro v
  induction v with
  | nil =>
   intro off s cells h
   rw [putL_eq _ _ _ (by simpa using h)]
   simp
  | cons x r ih =>
   intro off s cells h
   rw [List.zipIdx_cons,List.foldl_cons,ih off (s+1) _ (by simp at h ⊢;omega)]
   have hlen:off+s+(r.length+1)≤cells.size:=by simpa [Nat.add_assoc] using h
   have hl:off+s<cells.toList.length:=by simp;omega
   apply List.ext_getElem?
   intro i
   rw [putL_at (by simp;omega),putL_at (by simp;omega),Array.toList_setIfInBounds,List.length_cons]
   by_cases h2:i=off+s
   ·subst h2
    rw [if_neg (by omega),if_pos (by omega),List.getElem?_set_self hl,Nat.sub_self];rfl
   ·rw [List.getElem?_set_ne (fun e=>h2 e.symm)]
    by_cases h3:off+s+1≤i∧i<off+s+(r.length+1)
    ·rw [if_pos (by omega),if_pos (by omega),show i-(off+s)=(i-(off+(s+1)))+1 by omega,List.getElem?_cons_succ]
    ·rw [if_neg (by omega),if_neg (by omega)]
 intro v off cells h
 have:=key v off 0 cells (by simpa using h)
 simpa using this
theorem putL_head {α:Type} (l m rest:List α)(off:Nat)(h:off=l.length)(done:List α)(hl:m.length≤rest.length):putL off m (l++rest)=l++m++rest.drop m.length:=by
 subst h
 rw [putL_eq _ _ _ (by simp;omega),List.take_left,List.drop_append]
 simp
theorem fill_rows {size:Nat}:∀ (vs:List Value) (q:Nat) (done rest:List Value),done.length=q*size→rest.length=vs.length*size→(∀ v∈vs,v.cells.size=size) →
  Instr.fill (fun i=>some (i*size,size)) (done++rest).toArray (number q vs)=some (done++(vs.map fun v=>v.cells.toList).flatten).toArray
 | [],q,done,rest,hd,hr,_=>by
  have:rest=[]:=List.eq_nil_of_length_eq_zero (by simpa using hr)
  subst this
  simp [number,Instr.fill]
 | v::vs,q,done,rest,hd,hr,hv=>by
  have h1:v.cells.size=size:=hv v (by simp)
  have hle:size≤rest.length:=by rw [hr,List.length_cons,Nat.succ_mul];omega
  have hb:(v.cells.size≠size|| q*size+v.cells.size > (done++rest).toArray.size)=false:=by
   rw [h1];simp [hd];omega
  have hf:=fold_put v.cells.toList (q*size) (done++rest).toArray (by simp [h1,hd];omega)
  have e:(v.cells.zipIdx.foldl (fun cs (c,j)=>cs.setIfInBounds (q*size+j) c) (done++rest).toArray)=((done++v.cells.toList)++rest.drop size).toArray:=by
   apply Array.ext'
   rw [← Array.foldl_toList,Array.toList_zipIdx,hf]
   have:=putL_head done v.cells.toList rest (q*size) hd.symm done (by simpa [h1] using hle)
   simp only [List.toList_toArray] at this ⊢
   rw [this]
   simp [h1]
  have ih:=fill_rows vs (q+1) (done++v.cells.toList) (rest.drop size) (by simp [hd,h1,Nat.succ_mul]) (by simp [hr,Nat.succ_mul]) fun x hx=>hv x (by simp [hx])
  show (match some (q*size,size) with|none=>none|some (off,sz)=>if v.cells.size≠sz|| off+v.cells.size > (done++rest).toArray.size then none else Instr.fill _ _ (number (q+1) vs))=_
  simp only
  rw [hb]
  simp only [Bool.false_eq_true,if_false]
  rw [e,ih]
  simp
section
variable {P:Program} {C:Cx} {σ σ':St} {G G':Gh} {a:Act} {w w':World} {o:Oper} {d:Tmp}
theorem run_buildS {T e n m:Nat} {z:Value} {vs:List Value} {parts:Array (Nat×Value)} (hT:P.underlying T=some (.slice e)) (hn:sizeB P e=some n) (hz:(P.info? e).bind (·.zero)=some z) (hp:parts.toList=number 0 vs) (hm:vs.length=m) (hv:∀ v∈vs,v.cells.size=n) (hb:m*n≤16777216) (w:World) :
  (Instr.buildSlice T m parts).run P w=.ok (.slice (some ⟨w.heap.size,0,none⟩) m m) (w.alloc (.cells (vs.map fun v=>v.cells.toList).flatten.toArray e)):=by
 cases hi:P.info? e with
 | none=>simp [hi] at hz
 | some i =>
  simp [hi] at hz
  have hfill:∀ zero:Array Value,Instr.fill (fun i=>some (i*n,n)) ((Array.range (m*n)).map (zero[· % zero.size]!)) parts.toList=some (vs.map fun v=>v.cells.toList).flatten.toArray:=fun zero=>by
   have:=fill_rows (size:=n) vs 0 [] ((Array.range (m*n)).map (zero[· % zero.size]!)).toList (by simp) (by simp [hm]) hv
   rw [hp]
   have e0:((Array.range (m*n)).map (zero[· % zero.size]!))=([]++((Array.range (m*n)).map (zero[· % zero.size]!)).toList).toArray:=by rw [List.nil_append,Array.toArray_toList]
   rw [e0];exact this
  have h2:¬ (m*n > 2 ^ 24):=by simp;omega
  unfold Instr.buildSlice
  by_cases h0:m*n=0
  ·simp only [Sem.run_bind,run_underlying hT,Result.andThen_ok,run_sizeB hn,if_neg h2,if_pos h0,Sem.run_pure,hfill,newRow,run_newObj]
   rfl
  ·simp only [Sem.run_bind,run_underlying hT,Result.andThen_ok,run_sizeB hn,if_neg h2,if_neg h0,Sem.run_pure,zeroValue,typeInfo,run_program,hi,hz,hfill,newRow,run_newObj]
   rfl
def rowsB(n:Nat)(l:List AV):Bool:=l.all fun av=>av.cellB && Nat.beq av.cells.length n && av.cells.all AV.oneB && av.cells.all AV.pu0
theorem number_map {α β:Type} (f:α→β):∀ (n:Nat)(l:List α),(number n l).map (fun x=>(x.1,f x.2))=number n (l.map f)
 | _,[]=>rfl
 | n,x::r=>by simp [number,number_map f (n+1) r]
def numB {α:Type}:Nat→List (Nat×α)→Bool
 | _,[]=>true
 | n,x::r=>Nat.beq x.1 n && numB (n+1) r
theorem numB_eq {α:Type}:∀ (n:Nat)(l:List (Nat×α)),numB n l=true→l=number n (l.map (·.2))
 | _,[],_=>rfl
 | n,x::r,h=>by
  simp only [numB,Bool.and_eq_true] at h
  rw [List.map_cons,number,← numB_eq (n+1) r h.2,← Nat.eq_of_beq_eq_true h.1]
theorem WO.build0 {T e n m q:Nat} {z:Value} {parts:Array (Nat×Operand)} {xs:List Operand} {avs:List AV} {rows:List (List AV)} (ho:o.op=.buildSlice T m parts) (hT:P.underlying T=some (.slice e)) (hn:sizeB P e=some n) (hz:(P.info? e).bind (·.zero)=some z)
  (hp:parts.toList=number 0 xs) (hm:xs.length=m) (hb:Nat.ble (m*n) 16777216=true) (hb1:Nat.ble m 16777216=true) (hds:o.dst=some d) (hd:Nat.blt d C.N=true) (hx:σ.evs xs=some avs) (hck:rowsB n avs=true) (hr:avs.map AV.cells=rows) (hq:σ.nk=q) :
  WO P C o σ ((σ.new (.row e n rows)).put d (.sl q)):=by
 intro G a w ok N Q' hN
 obtain ⟨e1,e2⟩:=ok.evl hx
 have hck':∀ av∈avs,av.cellB=true∧av.cells.length=n∧av.cells.all AV.oneB=true∧av.cells.all AV.pu0=true:=fun av hav=>by
  have:=List.all_eq_true.1 hck av hav
  simp only [Bool.and_eq_true] at this
  exact ⟨this.1.1.1,Nat.eq_of_beq_eq_true this.1.1.2,this.1.2,this.2⟩
 have hv:∀ v∈xs.map a.eval,v.cells.size=n:=fun v hv=>by
  obtain ⟨i,hi,rfl⟩:=List.getElem_of_mem hv
  have hi2:i<avs.length:=by omega
  obtain ⟨c1,c2,_⟩:=hck' _ (List.getElem_mem hi2)
  rw [(cells_of (e2 i _ _ (List.getElem?_eq_getElem hi2) (List.getElem?_eq_getElem hi)) c1).1,c2]
 have hlm:(xs.map a.eval).length=m:=by simpa using hm
 have hrun:=run_buildS (P:=P) (T:=T) (e:=e) (n:=n) (m:=m) (vs:=xs.map a.eval) (parts:=parts.map fun (i,x)=>(i,a.eval x)) hT hn hz (by
  have:=number_map a.eval 0 xs
  rw [← this,← hp];simp) hlm hv (Nat.le_of_ble_eq_true hb) w
 have hvs:((xs.map a.eval).map fun v=>v.cells.toList).length=rows.length:=by rw [← hr];simp only [List.length_map] at e1 ⊢;exact e1
 have hown:=own_built w e n m ((xs.map a.eval).map fun v=>v.cells.toList).flatten.toArray (by unfold maxLen;have:=Nat.le_of_ble_eq_true hb1;omega) (by
  rw [List.size_toArray,flatten_len (size:=n) (fun r hr=>by obtain ⟨v,hv',rfl⟩:=List.mem_map.1 hr;simpa using hv v hv')]
  simp [hm])
 have honeR:∀ r∈(xs.map a.eval).map fun v=>v.cells.toList,∀ u∈r,u.oneCell'=true :=
  (fun r hr' u hu=>by
   obtain ⟨v,hv',rfl⟩:=List.mem_map.1 hr'
   obtain ⟨i,hi,rfl⟩:=List.getElem_of_mem hv'
   have hi2:i<avs.length:=by omega
   obtain ⟨c1,c2,c3,_⟩:=hck' _ (List.getElem_mem hi2)
   obtain ⟨d1,d2⟩:=cells_of (e2 i _ _ (List.getElem?_eq_getElem hi2) (List.getElem?_eq_getElem hi)) c1
   obtain ⟨j,hj,rfl⟩:=List.getElem_of_mem hu
   have hj2:j<(avs[i]).cells.length:=by rw [← d1];simpa using hj
   exact oneB_of (d2 j _ _ (List.getElem?_eq_getElem hj2) (by simp at hj;simp [hj])) (List.all_eq_true.1 c3 _ (List.getElem_mem hj2)))
 have hrel:∀ (i:Nat) r r',rows[i]?=some r→((xs.map a.eval).map fun v=>v.cells.toList)[i]?=some r'→RL G.F r r' :=
  (fun i r r' h1 h2=>by
   rw [← hr,List.getElem?_map] at h1
   rw [List.getElem?_map] at h2
   cases q1:avs[i]? with
   | none=>simp [q1] at h1
   | some av =>
    cases q2:(xs.map a.eval)[i]? with
    | none=>simp [q2] at h2
    | some v =>
     simp [q1] at h1
     simp only [q2,Option.map_some,Option.some.injEq] at h2
     subst h1 h2
     obtain ⟨c1,c2,_,c4⟩:=hck' av (List.mem_of_getElem? q1)
     obtain ⟨d1,d2⟩:=cells_of (e2 i av v q1 q2) c1
     exact ⟨by simpa using d1,fun j x u hx hu=>(pu0_bd (List.all_eq_true.1 c4 x (List.mem_of_getElem? hx)) 0).rp (d2 j x u hx (by simpa using hu))⟩)
 have hsl:(.slice (some ⟨w.heap.size,0,none⟩) m m:Value).ownBlock=some w.heap.size:=rfl
 have ok':=ok.newObj (w':=w.alloc (.cells ((xs.map a.eval).map fun v=>v.cells.toList).flatten.toArray e)) (S:=fun _=>False) (b:=w.heap.size) (n:=n) (h:=.slice (some ⟨w.heap.size,0,none⟩) m m) (φ:=fun x=>x=w.heap.size) (ob:=.row e n rows)
  (Kept.below ((Below.refl _ _).alloc (Nat.le_refl _) _)) (fun _ h=>h.elim) (fun _ _ _ _ _ h=>h) (fun _ _ _ h=>h)
  ⟨with_n,(fun g hg=>by rw [with_h,hsl] at hg;rw [with_b];exact (Option.some.inj hg).symm),by
   rw [with_h,with_f]
   refine ⟨fun r hr'=>by rw [← hr] at hr';obtain ⟨av,hav,rfl⟩:=List.mem_map.1 hr';exact (hck' av hav).2.1,(xs.map a.eval).map fun v=>v.cells.toList,fun _ _ _=>False,?_,hvs,?_,fun g hg=>by rw [hsl] at hg;exact (Option.some.inj hg).symm,
    fun _ _ _ h=>h.elim,fun _ _ _ _ _ h=>h.elim,fun i r r' h1 h2=>(hrel i r r' h1 h2).1,fun i r r' j av u h1 h2 h3 h4=>(hrel i r r' h1 h2).2 j av u h3 h4⟩
   ·have:((xs.map a.eval).map fun v=>v.cells.toList).length=m:=by simpa using hlm
    rw [this]
    exact own_weaken (by simpa using hown) (Nat.zero_le _)
   ·exact honeR⟩ trivial (fun x hx=>by
   obtain rfl:x=w.heap.size:=hx
   refine ⟨.inl ok.bel.size,by simp,fun k o h1 h2=>?_,fun p u h1 h2=>?_⟩
   ·have:=(ok.my k o _ h1 h2).2;omega
   ·have:=cell_block (ok.fw p u h1);omega)
 unfold Oper.wp execOp
 simp only [ho,Sem.run_bind,hrun,Result.andThen_ok,Sem.run_pure,Oper.upon]
 rw [hds]
 subst hq
 exact hN _ _ _ (ok'.set (d:=some d) (av:=.sl σ.nk) (v:=.slice (some ⟨w.heap.size,0,none⟩) m m) (with_sl rfl) (.sl _ (Nat.lt_succ_self _)) fun x hx=>by cases hx;exact of_blt hd)
theorem WO.build {T e n m q:Nat} {z:Value} {parts:Array (Nat×Operand)} {avs:List AV} {rows:List (List AV)} (ho:o.op=.buildSlice T m parts) (hT:P.underlying T=some (.slice e)) (hn:sizeB P e=some n) (hz:(P.info? e).bind (·.zero)=some z)
  (hp:numB 0 parts.toList=true) (hm:parts.toList.length=m) (hb:Nat.ble (m*n) 16777216=true) (hb1:Nat.ble m 16777216=true) (hds:o.dst=some d) (hd:Nat.blt d C.N=true) (hx:σ.evs (parts.toList.map (·.2))=some avs) (hck:rowsB n avs=true) (hr:avs.map AV.cells=rows) (hq:σ.nk=q) :
  WO P C o σ ((σ.new (.row e n rows)).put d (.sl q)) :=
 WO.build0 ho hT hn hz (numB_eq 0 _ hp) (by simpa using hm) hb hb1 hds hd hx hck hr hq
end
end
section
open Go.RowKit
def placesB (P:Program)(T:TypeId):Option (List (Nat×Nat)) :=
 match P.underlying T with
 | some (.struct fields)=>fields.toList.mapM fun f=>(P.info? f.type).map fun i=>(f.offset,i.size)
 | _=>none
def fillA (places:List (Nat×Nat)):List AV→List (Nat×AV)→Option (List AV)
 | cells,[]=>some cells
 | cells,(i,av)::r =>
  match places[i]? with
  | some (off,sz)=>bif av.cellB && Nat.beq av.cells.length sz && Nat.ble (off+sz) cells.length then fillA places (putL off av.cells cells) r else none
  | none=>none
def pairUp:List (Nat×Operand)→List AV→List (Nat×AV)
 | (i,_)::r,av::s=>(i,av)::pairUp r s
 | _,_=>[]
section
variable {P:Program} {C:Cx} {σ σ':St} {G G':Gh} {a:Act} {w w':World} {o:Oper} {d:Tmp} {ops:Array Oper} {Q:Exit→St→Prop}
theorem fillA_of {places:List (Nat×Nat)}:∀ (parts:List (Nat×AV)) (vals:List (Nat×Value)) (cells:List AV) (cs:Array Value) (l:List AV),fillA places cells parts=some l→vals.length=parts.length →
  (∀ (q:Nat) x y,parts[q]?=some x→vals[q]?=some y→y.1=x.1∧R G x.2 y.2)→cs.size=cells.length→(∀ (i:Nat) x u,cells[i]?=some x→cs[i]?=some u→R G x u) →
  ∃ cs',Instr.fill (places.toArray[·]?) cs vals=some cs'∧cs'.size=l.length∧∀ (i:Nat) x u,l[i]?=some x→cs'[i]?=some u→R G x u
 | [],vals,cells,cs,l,h,hl,_,hs,hc=>by
  cases h
  have:vals=[]:=List.eq_nil_of_length_eq_zero hl
  subst this
  exact ⟨cs,rfl,hs,hc⟩
 | (i,av)::r,[],cells,cs,l,h,hl,_,hs,hc=>by cases hl
 | (i,av)::r,(j,v)::vr,cells,cs,l,h,hl,hp,hs,hc=>by
  obtain ⟨e1,e2⟩:=hp 0 _ _ rfl rfl
  simp only at e1 e2
  subst e1
  unfold fillA at h
  cases hpl:places[j]? with
  | none=>simp [hpl] at h
  | some x =>
   obtain ⟨off,sz⟩:=x
   simp only [hpl] at h
   cases hb:av.cellB && Nat.beq av.cells.length sz && Nat.ble (off+sz) cells.length with
   | false=>rw [hb] at h;cases h
   | true =>
    rw [hb] at h
    simp only [cond_true] at h
    simp only [Bool.and_eq_true] at hb
    obtain ⟨⟨b1,b2⟩,b3⟩:=hb
    have b2:=Nat.eq_of_beq_eq_true b2
    have b3:=Nat.le_of_ble_eq_true b3
    obtain ⟨c1,c2⟩:=cells_of e2 b1
    have hfit:off+v.cells.toList.length≤cs.size:=by rw [hs];simp [c1,b2];omega
    have hfit2:off+av.cells.length≤cells.length:=by omega
    obtain ⟨cs',f1,f2,f3⟩:=fillA_of r vr (putL off av.cells cells) (putL off v.cells.toList cs.toList).toArray l h (by simpa using hl) (fun q x y a b=>hp (q+1) x y (by simpa using a) (by simpa using b))
     (by rw [List.size_toArray,putL_len (by simpa using hfit),putL_len hfit2];simpa using hs)
     (fun q x u a b=>putL_rel (R G) hfit2 (by rw [Array.length_toList];exact c1) (by rw [Array.length_toList];exact hs) (fun q x y a b=>c2 q x y a (by simpa using b)) (fun q x y a b=>hc q x y a (by simpa using b)) q x u a (by simpa using b))
    refine ⟨cs',?_,f2,f3⟩
    have hf:=fold_put v.cells.toList off cs hfit
    have e:(v.cells.zipIdx.foldl (fun cs (c,j)=>cs.setIfInBounds (off+j) c) cs)=(putL off v.cells.toList cs.toList).toArray:=by
     apply Array.ext'
     rw [← Array.foldl_toList,Array.toList_zipIdx,hf]
    have hpl':places.toArray[j]?=some (off,sz):=by simpa using hpl
    show (match places.toArray[j]? with|none=>none|some (off,sz)=>if v.cells.size≠sz|| off+v.cells.size > cs.size then none else Instr.fill _ _ vr)=_
    rw [hpl']
    simp only
    have hbad:(v.cells.size≠sz|| off+v.cells.size > cs.size)=false:=by
     rw [c1,b2];simp;rw [hs];omega
    rw [hbad]
    simp only [Bool.false_eq_true,if_false]
    rw [e];exact f1
theorem WV.build {T:TypeId} {parts:Array (Nat×Operand)} {z:Value} {places:List (Nat×Nat)} {avs l:List AV} (ho:o.op=.build T parts) (hz:(P.info? T).bind (·.zero)=some z) (hpl:placesB P T=some places)
  (hx:σ.evs (parts.toList.map (·.2))=some avs) (hf:fillA places (z.cells.toList.map .sc) (pairUp parts.toList avs)=some l):WV P C o σ (.ag l):=by
 have main:∀ G a w,Ok C σ G a w→∃ cs,(Instr.build T (parts.map fun (i,x)=>(i,a.eval x))).run P w=.ok (.agg cs) w∧cs.size=l.length∧∀ (i:Nat) x u,l[i]?=some x→cs[i]?=some u→R G x u:=by
  intro G a w ok
  obtain ⟨e1,e2⟩:=ok.evl hx
  have hlen:avs.length=parts.toList.length:=by simpa using e1.symm
  have hpu:∀ (ps:List (Nat×Operand)) (ys:List AV),ys.length=ps.length→(pairUp ps ys).length=ps.length∧∀ (q:Nat) x,(pairUp ps ys)[q]?=some x→∃ p av,ps[q]?=some p∧ys[q]?=some av∧x=(p.1,av):=by
   intro ps
   induction ps with
   | nil=>intro ys h;exact ⟨by cases ys<;>rfl,fun q x hx=>by cases ys<;>simp [pairUp] at hx⟩
   | cons p r ih =>
    intro ys h
    cases ys with
    | nil=>simp at h
    | cons av s =>
     obtain ⟨h1,h2⟩:=ih s (by simpa using h)
     refine ⟨by simp [pairUp,h1],fun q x hx=>?_⟩
     cases q with
     | zero=>cases hx;exact ⟨p,av,rfl,rfl,rfl⟩
     | succ q=>exact h2 q x (by simpa [pairUp] using hx)
  obtain ⟨p1,p2⟩:=hpu parts.toList avs hlen
  obtain ⟨cs',f1,f2,f3⟩:=fillA_of (G:=G) (pairUp parts.toList avs) (parts.toList.map fun (i,x)=>(i,a.eval x)) _ z.cells l hf (by simp [p1]) (fun q x y hxq hy=>by
   obtain ⟨p,av,q1,q2,rfl⟩:=p2 q x hxq
   rw [List.getElem?_map,q1] at hy
   simp at hy
   subst hy
   exact ⟨rfl,e2 q av _ q2 (by rw [List.map_map,List.getElem?_map,q1];rfl)⟩) (by simp) (fun i x u hxi hu=>by
   rw [List.getElem?_map,show z.cells.toList[i]?=z.cells[i]? by simp,hu] at hxi
   cases hxi
   exact .pu _ _ (.sc _))
  refine ⟨cs',?_,f2,f3⟩
  apply run_build
  unfold Program.built
  cases hi:P.info? T with
  | none=>simp [hi] at hz
  | some it =>
   simp [hi] at hz
   unfold placesB at hpl
   cases hu:P.underlying T with
   | none=>simp [hu] at hpl
   | some u =>
    cases u with
    | struct fields =>
     simp only [hu] at hpl
     simp only [hz,hpl]
     simpa using f1
    | _=>simp [hu] at hpl
 refine WV.val (fun G a w ok=>?_) fun G a w ok=>?_
 ·obtain ⟨_,b2⟩:True∧∀ av∈avs,Bd σ.nk av:=⟨trivial,by
   have:∀ (xs:List Operand) (ys:List AV),σ.evs xs=some ys→∀ av∈ys,Bd σ.nk av:=by
    intro xs
    induction xs with
    | nil=>intro ys h av hav;cases h;cases hav
    | cons x r ih =>
     intro ys h av hav
     unfold St.evs at h
     cases h1:σ.ev x with
     | none=>simp [h1] at h
     | some y =>
      cases h2:σ.evs r with
      | none=>simp [h1,h2] at h
      | some l' =>
       simp [h1,h2] at h
       subst h
       rcases List.mem_cons.1 hav with rfl|hav
       ·exact (ok.evr h1).1
       ·exact ih l' h2 av hav
   exact this _ _ hx⟩
  have hfb:∀ (parts:List (Nat×AV)) (cells l:List AV),fillA places cells parts=some l→(∀ x∈parts,Bd σ.nk x.2)→(∀ (i:Nat) x,cells[i]?=some x→Bd σ.nk x)→∀ (i:Nat) x,l[i]?=some x→Bd σ.nk x:=by
   intro parts
   induction parts with
   | nil=>intro cells l h _ hc;cases h;exact hc
   | cons p r ih =>
    intro cells l h hp hc
    obtain ⟨i,av⟩:=p
    unfold fillA at h
    cases hpl:places[i]? with
    | none=>simp [hpl] at h
    | some x =>
     obtain ⟨off,sz⟩:=x
     simp only [hpl] at h
     cases hb:av.cellB && Nat.beq av.cells.length sz && Nat.ble (off+sz) cells.length with
     | false=>rw [hb] at h;cases h
     | true =>
      rw [hb] at h
      simp only [Bool.and_eq_true] at hb
      have b2:=Nat.eq_of_beq_eq_true hb.1.2
      have b3:=Nat.le_of_ble_eq_true hb.2
      refine ih _ _ h (fun x hx=>hp x (by simp [hx])) fun q x hx=>?_
      rw [putL_at (by omega)] at hx
      split at hx
      ·exact cells_bd (hp (i,av) (by simp)) _ x hx
      ·exact hc q x hx
  refine .ag _ (hfb _ _ _ hf (fun x hx=>?_) fun i x hx=>?_)
  ·have:∀ (ps:List (Nat×Operand)) (ys:List AV),x∈pairUp ps ys→x.2∈ys:=by
    intro ps
    induction ps with
    | nil=>intro ys h;cases ys<;>simp [pairUp] at h
    | cons p r ih =>
     intro ys h
     cases ys with
     | nil=>simp [pairUp] at h
     | cons av s =>
      rcases List.mem_cons.1 (by simpa [pairUp] using h) with rfl|h
      ·simp
      ·exact List.mem_cons_of_mem _ (ih s h)
   exact b2 _ (this _ _ hx)
  ·rw [List.getElem?_map] at hx
   cases hq:z.cells.toList[i]? with
   | none=>simp [hq] at hx
   | some u=>simp [hq] at hx;rw [← hx];exact .sc _
 ·obtain ⟨cs,h1,h2,h3⟩:=main G a w ok
  exact ⟨.agg cs,by unfold execOp;simp only [ho,Sem.run_bind,h1,Result.andThen_ok,Sem.run_pure],.ag l cs h2 h3⟩
end
end
section
open Go.RowKit
def gdn(v:Value)(b:Bool):Bool :=
 match vb v with
 | some c=>!(c == b)
 | none=>true
section
variable {P:Program} {C:Cx} {σ σ':St} {G G':Gh} {a:Act} {w w':World} {o oj:Oper} {d d0:Tmp} {ops:Array Oper} {rest:List Oper} {Q:Exit→St→Prop} {j:Nat} {b c:Bool}
theorem WL.opno {v:Value} (hg:o.guard=some (j,b))(hj:ops[j]?=some oj)(hd0:oj.dst=some d0)(hv:look d0 σ.t=some (.sc v))(hb:gdn v b=true)(hds:o.dst=some d)(hd:Nat.blt d C.N=true)(k:WL P C ops rest (σ.put d (.sc undef)) Q):WL P C ops (o::rest) σ Q :=
 WL.opn hg hj hd0 hv (by
  unfold gdn at hb
  cases h:vb v with
  | none=>simp
  | some c=>rw [h] at hb;cases c<;>cases b<;>first|(intro h2;cases h2;done)|cases hb) hds hd k
theorem WL.partG (hg:o.guard=some (j,b)) (hj:ops[j]?=some oj) (hd0:oj.dst=some d0) (hv:look d0 σ.t=some (.sc (.bool c))) (h1:c=true→WL P C ops (o::rest) (σ.put d0 (.sc (.bool true))) Q) (h2:c=false→WL P C ops (o::rest) (σ.put d0 (.sc (.bool false))) Q):WL P C ops (o::rest) σ Q :=
 WL.part hv h1 h2
theorem W.condT {x:Operand} {p q:Code} (hc:σ.ev x=some (.sc (.bool true))) (h:W P C p σ Q):W P C (.cond x p q) σ Q:=W.cond hc (fun _=>h) (fun h=>by cases h)
theorem W.condF {x:Operand} {p q:Code} (hc:σ.ev x=some (.sc (.bool false))) (h:W P C q σ Q):W P C (.cond x p q) σ Q:=W.cond hc (fun h=>by cases h) (fun _=>h)
theorem ev_agree {t:List (Nat×AV)} {M:List (Nat×AO)} {nk:Nat} (H:∀ q∈o.looksAt ops,look q t=look q σ.t) {x:Operand} (hx:x∈o.op.operands.toList):(⟨t,M,nk⟩:St).ev x=σ.ev x:=by
 cases x with
 | tmp q=>exact H q (List.mem_append_left _ (List.mem_filterMap.2 ⟨.tmp q,hx,rfl⟩))
 | const v=>rfl
 | func f=>rfl
 | global g=>rfl
theorem src_same {t:List (Nat×AV)} {nk:Nat} (n:Nat)(av:AV):(⟨t,σ.M,nk⟩:St).src n av=σ.src n av:=by cases av<;>rfl
theorem evs_agree {t:List (Nat×AV)} {M:List (Nat×AO)} {nk:Nat} (H:∀ q∈o.looksAt ops,look q t=look q σ.t):∀ {xs:List Operand},(∀ x∈xs,x∈o.op.operands.toList)→(⟨t,M,nk⟩:St).evs xs=σ.evs xs
 | [],_=>rfl
 | x::r,h=>by
  unfold St.evs
  rw [ev_agree H (h x (by simp)),evs_agree H fun y hy=>h y (by simp [hy])]
theorem DoesM.append {T e n by_ k m:Nat} {z:Value} {i:TypeInfo} {x y:Operand} {rows rows2 rows':List (List AV)} {av2:AV} {M':List (Nat×AO)} {nk':Nat} (hg:o.guard=none) (ho:o.op=.call { callee:=.builtin .append,args:=#[x,y],argTypes:=#[T,T] }) (hT:P.underlying T=some (.slice e))
  (hi:P.info? e=some i) (hz:i.zero=some z) (hn:i.size=n) (hby:i.bytes=by_) (hzs:z.cells.size=n) (h0:Nat.blt 0 n=true) (hds:o.dst=some d) (hd:Nat.blt d C.N=true)
  (hx:σ.ev x=some (.sl k)) (hk:look k σ.M=some (.row e n rows)) (hy:σ.ev y=some av2) (hs:σ.src n av2=some rows2) (hm:σ.nk=m) (hb1:rows.length+rows2.length≤1000000000) (hb2:Nat.ble by_ 100000=true) (hrr:rows++rows2=rows') (hM:(m,.row e n rows')::rem k σ.M=M') (hnk:m+1=nk') :
  DoesM P C ops o σ d (.sl m) M' nk':=by
 subst hM hnk
 refine ⟨hg,fun t H=>?_⟩
 have hmem:∀ q∈[x,y],q∈o.op.operands.toList:=fun q hq=>by rw [ho];simp [Op.operands,Call.operands] at hq ⊢;exact hq
 have:=WO.append (P:=P) (C:=C) (σ:=⟨t,σ.M,σ.nk⟩) ho hT hi hz hn hby hzs h0 hds hd ((ev_agree H (hmem x (by simp))).trans hx) hk ((ev_agree H (hmem y (by simp))).trans hy) ((src_same n av2).trans hs) hm hb1 hb2 hrr
 subst hm
 exact this
theorem DoesM.build {T e n m q:Nat} {z:Value} {parts:Array (Nat×Operand)} {avs:List AV} {rows:List (List AV)} {M':List (Nat×AO)} {nk':Nat} (hg:o.guard=none) (ho:o.op=.buildSlice T m parts) (hT:P.underlying T=some (.slice e)) (hn:sizeB P e=some n) (hz:(P.info? e).bind (·.zero)=some z)
  (hp:numB 0 parts.toList=true) (hm:parts.toList.length=m) (hb:Nat.ble (m*n) 16777216=true) (hb1:Nat.ble m 16777216=true) (hds:o.dst=some d) (hd:Nat.blt d C.N=true) (hx:σ.evs (parts.toList.map (·.2))=some avs) (hck:rowsB n avs=true) (hr:avs.map AV.cells=rows) (hq:σ.nk=q) (hM:(q,.row e n rows)::σ.M=M') (hnk:q+1=nk') :
  DoesM P C ops o σ d (.sl q) M' nk':=by
 subst hM hnk
 refine ⟨hg,fun t H=>?_⟩
 have hmem:∀ x∈parts.toList.map (·.2),x∈o.op.operands.toList:=fun x hx'=>by
  rw [ho]
  simp only [Op.operands]
  exact hx'
 have:=WO.build (P:=P) (C:=C) (σ:=⟨t,σ.M,σ.nk⟩) ho hT hn hz hp hm hb hb1 hds hd ((evs_agree H hmem).trans hx) hck hr hq
 subst hq
 exact this
end
theorem Tr.nilBox {C:Cx} {σ:St} {k j m:Nat} {T':TypeId} {cells cells':List AV} (T:TypeId) (n:Nat) (hk:look k σ.M=some (.box T' cells)) (hj:cells[j]?=some (.sc (.slice none 0 0))) (hm:σ.nk=m) (hc:cells.set j (.sl m)=cells') :
  Tr C σ ((σ.new (.row T n [])).upd k (.box T' cells')):=fun G a w ok=>by
 obtain ⟨G',ok',hsl⟩:=ok.nilRow T n
 subst hm hc
 have hkn:k≠σ.nk:=Nat.ne_of_lt (ok.ob k _ hk).1
 have hk':look k (σ.new (.row T n [])).M=some (.box T' cells):=by
  rw [show look k (σ.new (.row T n [])).M=look k σ.M from look_set_other hkn];exact hk
 obtain ⟨g1,g2,g3,cs,Φ,g4,g5,g6,g7,g8⟩:=ok'.ob k _ hk'
 refine ⟨G',ok'.reob hk' ⟨g1,fun i av x=>?_,g3,cs,Φ,g4,by simpa using g5,g6,g7,fun i av u x y=>?_⟩⟩
 ·rw [List.getElem?_set]at x
  split at x
  ·split at x
   ·cases x;exact .sl _ (Nat.lt_succ_self _)
   ·cases x
  ·exact g2 i av x
 ·by_cases e:j=i
  ·subst e
   have hlt:j<cells.length:=(List.getElem?_eq_some_iff.1 hj).1
   rw [List.getElem?_set_self hlt]at x
   cases x
   have:=((g8 j _ u hj y).r rfl).sc_eq
   rw [this];exact .inl hsl
  ·rw [List.getElem?_set_ne e]at x
   exact g8 i av u x y
theorem callF {P:Program} {f:FuncId} {fn:Func} (h:P.funcs[f]?=some fn)(hn:(fn.name == "runtime.NumGoroutine")=false)(hb:fn.body.isNone=false):∀ vs w,(callFunc f vs).run P w=.ok (.enter f vs) w:=fun vs w=>by
 unfold callFunc
 simp only [Sem.run_bind,run_program,Result.andThen_ok,h,hn,hb,Bool.false_eq_true,if_false]
 rfl
theorem zqc {P:Program} {C:Cx} {o:Oper} {σ:St} {f:FuncId} {fn:Func} {xs:Array Operand} {ts:Array TypeId} {args:List AV} {res:AV} (hf:P.funcs[f]? = some fn) (h:Ctr P f args res) (ho:o.op = .call { callee:=.value (.func f),args:=xs,argTypes:=ts }:=by rfl) (hx:σ.evs xs.toList = some args:=by rfl) (hp:args.all AV.pu2 = true:=by rfl) (hn:(fn.name == "runtime.NumGoroutine") = false:=by rfl) (hb:fn.body.isNone = false:=by rfl):WV P C o σ res:=WV.call ho (callF hf hn hb) hx hp h
theorem fin_cell {P:Program} {fn:Func} {C:Cx} {σ:St} {t:Tmp} {T T':TypeId} {k n:Nat} {cells:List AV} {res:AV} (h:fn.results=#[.cell t T])(hT:aggB P T=some true)(hn:sizeB P T=some n)(ht:look t σ.t=some (.pt k 0 0))(hk:look k σ.M=some (.box T' cells))(hl:cells.length=n)(hr:.ag cells=res)(hp:cells.all AV.pu0=true) :
  QFin P fn C res .ret σ:=by
 refine⟨.inr rfl,fun G a w ok=>?_⟩
 subst hr
 obtain⟨p,ep,p1,p2,p3⟩:=(ok.tm t _ ht).2.2.pt_of
 obtain⟨_,_,g3,cs,Φ,g4,g5,_,_,g6⟩:=ok.ob k _ hk
 obtain rfl:=addr_eq p1 p2 p3
 rw [Nat.zero_mul,Nat.zero_add] at ep
 refine⟨.agg cs,G.F,?_,fun _ _ h=>h,ok.fw,fun _ _ h=>.inl h,.ag _ _ g5 fun i av u x y=>(pu0_bd (List.all_eq_true.1 hp av (List.mem_of_getElem? x)) 0).rp ((g6 i av u x y).r (pu0_own (List.all_eq_true.1 hp av (List.mem_of_getElem? x))))⟩
 unfold aggB at hT
 cases hu:P.underlying T with
 | none=>simp [hu] at hT
 | some d =>
  refine results_cell_row h a.tmps w (G.b k) T' cs (0,0) d ep g4 hu ?_ ?_
  ·rw [hu] at hT;cases d<;>simp_all
  ·have:sizeB P T=some cs.size:=by rw [hn,g5,hl]
   exact this
theorem letsOut_mono {Q Q':Exit→Act→World→Prop} (h:∀ e a w,Q e a w→Q' e a w)(k:LetsOut Q):LetsOut Q':=let⟨a,w,q⟩:=k;⟨a,w,h _ a w q⟩
theorem wp_monoQ {P:Program} {o:Oper} {a:Act} {w:World} {K K':Act→World→Prop} {Q Q':Exit→Act→World→Prop} (hk:∀ a w,K a w→K' a w)(hq:∀ e a w,Q e a w→Q' e a w)(h:o.wp P a w K Q):o.wp P a w K' Q':=by
 unfold Oper.wp at *
 generalize(execOp a.eval o).run P w=r at *
 cases r with
 | ok n w' =>
  cases n<;>simp only [Oper.upon]at h ⊢
  case value v=>exact hk _ _ h
  case skip=>exact hk _ _ h
  case defer d=>exact hk _ _ h
  case enter f args =>
   refine h.mono fun e w'' x=>?_
   cases e with
   | returned v=>exact hk _ _ x
   | panicked c=>exact hq _ _ _ x
   | outgrown=>exact letsOut_mono hq x
  case row r args=>exact h.mono fun v w'' x=>hk _ _ x
 | halt x w' =>
  cases x<;>simp only [Oper.upon]at h ⊢
  exact hq _ _ _ h
theorem wpList_mono' {P:Program} {ops:Array Oper} {Q Q':Exit→Act→World→Prop}:∀ {l:List Oper} {a:Act} {w:World},wpList P ops Q l a w→(∀ e a w,Q e a w→Q' e a w)→wpList P ops Q' l a w
 | [],a,w,h,hq=>hq _ _ _ h
 | o::rest,a,w,h,hq=>by
  unfold wpList at *
  split at h
  ·rename_i hw
   rw [if_pos hw]
   rcases h with h|⟨h1,h2⟩
   ·exact .inl (wp_monoQ (fun a w x=>wpList_mono' x hq) hq h)
   ·exact .inr ⟨h1,letsOut_mono hq h2⟩
  ·rename_i hw
   rw [if_neg hw]
   exact wpList_mono' h hq
theorem W.meet {P:Program} {C:Cx} {σ:St} {Q Q2:Exit→St→Prop} {x y:Code} (σm:St)(h:W P C x σ (QThen (fun s=>Tr C s σm) Q))(k:W P C y σm Q2):W P C x σ (QThen (fun s=>W P C y s Q2) Q) :=
 W.mono h fun e s q=>by
  cases e with
  | normal=>exact W.tr q k
  | _=>exact q
theorem WL.meet2 {P:Program} {C:Cx} {σ:St} {ops:Array Oper} {l:List Oper} {Q Q1 Q2:Exit→St→Prop} {x y:Code} (σm:St)(h:WL P C ops l σ (QThen (fun s=>W P C x s (QThen (fun s=>Tr C s σm) Q)) Q1))(k:W P C y σm Q2) :
  WL P C ops l σ (QThen (fun s=>W P C x s (QThen (fun s=>W P C y s Q2) Q)) Q1):=fun G a w ok =>
 wpList_mono' (h G a w ok) fun e a w⟨s,g,q,o⟩=>⟨s,g,by
  cases e with
  | normal=>exact W.meet σm q k
  | _=>exact q,o⟩
end
section
open Go.RowKit
def DK(P:Program)(C:Cx)(ops:Array Oper)(l:List Oper)(σ:St)(Q:Exit→St→Prop):Prop:=∃ σ',DL P C ops l σ σ'∧Q .normal σ'
section
variable {P:Program} {C:Cx} {σ:St} {ops:Array Oper} {l rest:List Oper} {o:Oper} {d:Tmp} {av:AV} {Q:Exit→St→Prop}
theorem W.drawK {id:Nat} (hm:P.follows .mixedOrders=true)(hB:Region.lexB .any l.toArray=true)(h:DK P C l.toArray l σ Q):W P C (.region id l.toArray true) σ Q :=
 let⟨_,a,b⟩:=h;W.draw hm hB a b
theorem DK.nil(k:Q .normal σ):DK P C ops [] σ Q:=⟨σ,.nil σ,k⟩
theorem DK.op (hd:o.dst=some d)(hN:Nat.blt d C.N=true)(h:Does P C ops o σ av)(k:DK P C ops rest (σ.put d av) Q):DK P C ops (o::rest) σ Q :=
 let⟨s,a,b⟩:=k;⟨s,.op o rest d av σ s hd hN h a,b⟩
theorem DK.val (hd:o.dst=some d) (hN:Nat.blt d C.N=true) (hg:guardK ops o (σ.only (o.looksAt ops))=some true) (h:WV P C o (σ.only (o.looksAt ops)) av) (k:DK P C ops rest (σ.put d av) Q):DK P C ops (o::rest) σ Q:=DK.op hd hN (.inl ⟨hg,h⟩) k
theorem DK.no (hd:o.dst=some d) (hN:Nat.blt d C.N=true) (hg:guardK ops o (σ.only (o.looksAt ops))=some false) (k:DK P C ops rest (σ.put d (.sc undef)) Q):DK P C ops (o::rest) σ Q:=DK.op hd hN (.inr ⟨hg,rfl⟩) k
variable {mem:List Bool} {Mc:List (Nat×AO)} {nk0 k:Nat}
end
end
section
open Go.RowKit
def eStp (x:Stp):List AV:=[.sc (.int .i64 x.1),.sc (.int .i64 x.2.1),.sc (.int .i64 x.2.2.1),.sc (.int .i64 x.2.2.2.1),.sc (.int .i64 x.2.2.2.2)]
def eStps (l:List Stp):AV:=.ls 5 (l.map eStp)
def eEv (e:Ev):List AV:=[.sc (.bool e.bar),.sc (.int .i64 e.val),.sc (.bool e.dot),.sc (.bool e.three),.sc (.bool e.tie),eStps e.stops]
def eCrs (x:Int×Int×Bool):List AV:=[.sc (.int .i64 x.1),.sc (.int .i64 x.2.1),.sc (.bool x.2.2)]
def eInt (x:Int):List AV:=[.sc (.int .i64 x)]
def eIns (cs:List (Int×Int×Bool))(st:List Int):List AV:=[.ls 3 (cs.map eCrs),.ls 1 (st.map eInt)]
def ePce (p:Pce):AV:=.ag [.ls 3 (p.cs.map eCrs),.ls 1 (p.st.map eInt),.ls 6 (p.evs.map eEv)]
theorem map_at {α β:Type} {f:α→β} {l:List α} {k:Nat} (h:k<l.length):(l.map f)[((k:Nat):Int).toNat]?=some (f l[k]):=by rw [Int.toNat_natCast];simp [h]
theorem map_atZ {α β:Type} {f:α→β} {l:List α} {z:Int} (h0:0≤z)(h:z<l.length):(l.map f)[z.toNat]?=some (f (l[z.toNat]'(by omega))):=by
 have:z.toNat<l.length:=by omega
 simp [this]
theorem zqm {α:Type} {l:List α} {i:Nat} {x:Option α} (h:l[i]? = x:=by first|exact map_at (by omega)|exact map_atZ (by omega) (by omega)):l[i]? = x:=h
theorem take_map_succ {α β:Type} {f:α→β} {l:List α} {k:Nat} (h:k<l.length):(l.take k).map f++[f l[k]]=(l.take (k+1)).map f:=by
 rw [List.take_succ_eq_append_getElem h,List.map_append];rfl
theorem bd_all {l:List AV} (h:l.all AV.pu2=true):∀ (i:Nat) av,l[i]?=some av→Bd 0 av:=fun i av x=>pu2_bd (List.all_eq_true.1 h av (List.mem_of_getElem? x)) 0
theorem zqe {P:Program} {f:FuncId} {fn:Func} {c:Code} {args:List AV} {res:AV} (hf:P.funcs[f]? = some fn) {N:Nat} (hN:fn.ntmps = N) (h:∀ w0 F0,W P ⟨w0,F0,N,fun _ => False,0,G0⟩ c (St.init args) (QFin P fn ⟨w0,F0,N,fun _ => False,0,G0⟩ res)) (hb:fn.body = some c:=by rfl) (hn:args.length ≤ N:=by exact Nat.le_of_ble_eq_true rfl) (hp:args.all AV.pu2 = true:=by rfl):Ctr P f args res:=Ctr.intro hf hb hN hn (bd_all hp) h
theorem fin1 {P:Program} {fn:Func} {C:Cx} {σ:St} {t:Tmp} {av res:AV} (h:fn.results=#[.tmp t]) (ht:look t σ.t=some av) (he:av=res) (hp:res.pu2=true):QFin P fn C res .ret σ :=
 ⟨.inr rfl,Fin.one h (he ▸ ht) (pu2_bd hp 0)⟩
theorem zqr {P:Program} {fn:Func} {C:Cx} {σ:St} {t:Tmp} {av res:AV} (h:fn.results = #[.tmp t]:=by rfl) (ht:look t σ.t = some av:=by rfl) (he:av = res:=by rfl) (hp:res.pu2 = true:=by rfl):QFin P fn C res .ret σ:=fin1 h ht he hp
theorem fin2 {P:Program} {fn:Func} {C:Cx} {σ:St} {t u:Tmp} {a1 a2 r1 r2:AV} (h:fn.results=#[.tmp t,.tmp u]) (h1:look t σ.t=some a1) (h2:look u σ.t=some a2) (e1:a1=r1) (e2:a2=r2) (p1:r1.pu2=true) (p2:r2.pu2=true):QFin P fn C (.tu [r1,r2]) .ret σ :=
 ⟨.inr rfl,Fin.two h (e1 ▸ h1) (e2 ▸ h2) (pu2_bd p1 0) (pu2_bd p2 0)⟩
theorem sc_bool {a b:Bool} (h:a=b):AV.sc (.bool a)=.sc (.bool b):=by rw [h]
end
section
open Go.RowKit
theorem rd_of_rp {α:Type} {F:View} {w:World} {n:Nat} {l:List α} {e:α→List AV} {f:α→List Value} {v:Value} (hF:∀ p u,F p=some u→w.cell? p=some u) (h0:0<n) (hf:∀ x,(f x).length=n) (hef:∀ x (j:Nat) u,(f x)[j]?=some u→(e x)[j]?=some (.sc u))
  (r:RP F (.ls n (l.map e)) v):∃ A c,v=.slice A l.length c∧Rd w w.heap.size n A (l.map f)∧l.length≤c:=by
 obtain ⟨A,cap,ad,u,rfl,h1,h2,h3,h4,h5⟩:=r.ls_of
 have hcell:∀ (k:Nat) x,l[k]?=some x→∀ (j:Nat) y,(f x)[j]?=some y→w.cell? (ad.add (k*n+j))=some y:=fun k x hk j y hy=>by
  have a1:(l.map e)[k]?=some (e x):=by rw [List.getElem?_map,hk];rfl
  have:=h3 k _ j _ a1 (hef x j y hy)
  rw [hF _ _ this.1,(h4 k _ j _ a1 (hef x j y hy)).sc_eq]
 refine ⟨A,cap,by rw [List.length_map],fun hp=>⟨ad,h2 (by simpa using hp),?_,fun k r hr j y hy=>?_⟩,by simpa using h5⟩
 ·have hp:0<l.length:=by simpa using hp
  have hx:0<(f (l[0]'hp)).length:=by rw [hf];exact h0
  have:=cell_block (hcell 0 (l[0]'hp) (List.getElem?_eq_getElem hp) 0 _ (List.getElem?_eq_getElem hx))
  rwa [block_of_add] at this
 ·rw [List.getElem?_map] at hr
  cases hk:l[k]? with
  | none=>simp [hk] at hr
  | some x =>
   rw [hk] at hr
   obtain rfl:f x=r:=by simpa using hr
   exact hcell k x hk j y hy
theorem stps_of_rp {F:View} {w:World} {l:List Stp} {v:Value} (hF:∀ p u,F p=some u→w.cell? p=some u) (r:RP F (eStps l) v):∃ A c,v=.slice A l.length c∧StpsAt w w.heap.size A l∧l.length≤c :=
 rd_of_rp (n:=5) (f:=stpCells) hF zqo (fun _=>rfl) (fun x j u h=>by
  match j with
  | 0=>cases h;rfl
  | 1=>cases h;rfl
  | 2=>cases h;rfl
  | 3=>cases h;rfl
  | 4=>cases h;rfl
  | j+5=>simp [stpCells] at h) r
theorem evs_of_rp {F:View} {w:World} {l:List Ev} {v:Value} (hF:∀ p u,F p=some u→w.cell? p=some u) (r:RP F (.ls 6 (l.map eEv)) v):∃ A c,v=.slice A l.length c∧EvsAt w w.heap.size A l∧l.length≤c:=by
 obtain ⟨A,cap,ad,u,rfl,h1,h2,h3,h4,h5⟩:=r.ls_of
 obtain ⟨ms,hml,hmq⟩:=list_ofT (fun k (m:Option Addr×Nat)=>∀ x,l[k]?=some x→u k 5=.slice m.1 x.stops.length m.2∧StpsAt w w.heap.size m.1 x.stops) l.length fun k hk=>by
  have a1:(l.map eEv)[k]?=some (eEv l[k]):=by simp [hk]
  obtain ⟨A',c',e,hs,_⟩:=stps_of_rp hF (h4 k _ 5 _ a1 rfl)
  refine ⟨(A',c'),fun x hx=>?_⟩
  rw [List.getElem?_eq_getElem hk] at hx
  cases hx
  exact ⟨e,hs⟩
 have hcell:∀ (k:Nat) x m,l[k]?=some x→ms[k]?=some m→∀ (j:Nat) y,(evCells x m)[j]?=some y→w.cell? (ad.add (k*6+j))=some y:=fun k x m hk hm j y hy=>by
  have a1:(l.map eEv)[k]?=some (eEv x):=by rw [List.getElem?_map,hk];rfl
  have hj:j < 6:=(List.getElem?_eq_some_iff.1 hy).1
  have get:∀ av,(eEv x)[j]?=some av→w.cell? (ad.add (k*6+j))=some (u k j):=fun av hav=>hF _ _ (h3 k _ j _ a1 hav).1
  match j,hj with
  | 0,_=>cases hy;rw [get _ rfl,(h4 k _ 0 _ a1 rfl).sc_eq]
  | 1,_=>cases hy;rw [get _ rfl,(h4 k _ 1 _ a1 rfl).sc_eq]
  | 2,_=>cases hy;rw [get _ rfl,(h4 k _ 2 _ a1 rfl).sc_eq]
  | 3,_=>cases hy;rw [get _ rfl,(h4 k _ 3 _ a1 rfl).sc_eq]
  | 4,_=>cases hy;rw [get _ rfl,(h4 k _ 4 _ a1 rfl).sc_eq]
  | 5,_=>cases hy;rw [get _ rfl,(hmq k m hm x hk).1]
 refine ⟨A,cap,by rw [List.length_map],⟨ms,hml,fun hp=>⟨ad,h2 ?_,?_,fun k r hr j y hy=>?_⟩,fun k e m he hm=>(hmq k m hm e he).2⟩,by simpa using h5⟩
 ·simp [hml] at hp ⊢;omega
 ·have hp:0 < l.length:=by simp [hml] at hp;omega
  have:=cell_block (hcell 0 (l[0]'hp) (ms[0]'(by omega)) (List.getElem?_eq_getElem hp) (List.getElem?_eq_getElem (by omega)) 0 _ rfl)
  rwa [block_of_add] at this
 ·rw [List.getElem?_zipWith] at hr
  cases hk:l[k]? with
  | none=>simp [hk] at hr
  | some x =>
   cases hm:ms[k]? with
   | none=>simp [hk,hm] at hr
   | some m =>
    simp [hk,hm] at hr
    subst hr
    exact hcell k x m hk hm j y hy
theorem ins_of_rp {F:View} {w:World} {cs:List (Int×Int×Bool)} {st:List Int} {v1 v2:Value} (hF:∀ p u,F p=some u→w.cell? p=some u) (r1:RP F (.ls 3 (cs.map eCrs)) v1) (r2:RP F (.ls 1 (st.map eInt)) v2) :
  ∃ A1 c1 A2 c2,v1=.slice A1 cs.length c1∧v2=.slice A2 st.length c2∧InsAt w w.heap.size A1 A2 cs st:=by
 obtain ⟨A1,c1,e1,h1,_⟩:=rd_of_rp (n:=3) (f:=crsCells) hF zqo (fun _=>rfl) (fun x j u h=>by
  match j with
  | 0=>cases h;rfl
  | 1=>cases h;rfl
  | 2=>cases h;rfl
  | j+3=>simp [crsCells] at h) r1
 obtain ⟨A2,c2,e2,h2,_⟩:=rd_of_rp (n:=1) (f:=intCell) hF zqo (fun _=>rfl) (fun x j u h=>by
  match j with
  | 0=>cases h;rfl
  | j+1=>simp [intCell] at h) r2
 exact ⟨A1,c1,A2,c2,e1,e2,h1,h2⟩
theorem pc_of_rp {F:View} {w:World} {p:Pce} {v:Value} (hF:∀ p u,F p=some u→w.cell? p=some u) (r:RP F (ePce p) v):∃ M,v=pcValue M p∧PcAt w w.heap.size M p:=by
 obtain ⟨cs,rfl,h1,h2⟩:∃ cs:Array Value,v=.agg cs∧cs.size=3∧∀ (i:Nat) av u,[AV.ls 3 (p.cs.map eCrs),.ls 1 (p.st.map eInt),.ls 6 (p.evs.map eEv)][i]?=some av→cs[i]?=some u→RP F av u:=by
  cases r with|ag l cs a b=>exact ⟨cs,rfl,a,b⟩
 have g:∀ i (h:i<3),cs[i]?=some (cs[i]'(by omega)):=fun i h=>Array.getElem?_eq_getElem (by omega)
 obtain ⟨A1,c1,A2,c2,e1,e2,hI⟩:=ins_of_rp hF (h2 0 _ _ rfl (g 0 zqo)) (h2 1 _ _ rfl (g 1 zqo))
 obtain ⟨A3,c3,e3,hE,hc⟩:=evs_of_rp hF (h2 2 _ _ rfl (g 2 zqo))
 refine ⟨⟨A1,A2,A3,c1,c2,c3⟩,?_,hI,hE,hc⟩
 unfold pcValue
 congr 1
 apply Array.ext (by simp [h1])
 intro i hi hi2
 match i,(show i<3 by omega) with
 | 0,_=>exact e1
 | 1,_=>exact e2
 | 2,_=>exact e3
theorem Ctr.of_sc {P:Program} {f:FuncId} {args:List AV} {xs:List Value} {res:AV} {v:Value} (hs:scs args=some xs)(hv:∀ F,RP F res v)(h:∀ w,Calls P f xs.toArray w (Ret v w)):Ctr P f args res:=by
 intro w F vs hF hR
 have:vs=xs:=scs_of (G:=⟨F,fun _=>0,fun _=>0,fun _=>undef,fun _ _=>False⟩) hs hR.1 fun i av u a b=>.pu _ _ (hR.2 i av u a b)
 subst this
 exact (h w).mono fun e w'⟨he,hb⟩=>⟨v,F,he,hb,fun _ _ h=>h,fun p u x=>by rw [hb.cell (cell_block (hF p u x))];exact hF p u x,fun _ _ h=>.inl h,hv F⟩
theorem Ctr.of_pc {P:Program} {f:FuncId} {p:Pce} {pre post:List AV} {xs ys:List Value} {res:AV} {v:Value} (hs:scs pre=some xs) (hs2:scs post=some ys) (hv:∀ F,RP F res v)
  (h:∀ w M,PcAt w w.heap.size M p→Calls P f (xs++pcValue M p::ys).toArray w (Ret v w)):Ctr P f (pre++ePce p::post) res:=by
 intro w F vs hF hR
 have hG:∀ i av u,(pre++ePce p::post)[i]?=some av→vs[i]?=some u→R ⟨F,fun _=>0,fun _=>0,fun _=>undef,fun _ _=>False⟩ av u:=fun i av u a b=>.pu _ _ (hR.2 i av u a b)
 have hlen:vs.length=pre.length+(post.length+1):=by rw [hR.1];simp
 have e1:vs.take pre.length=xs:=scs_of hs (by simp;omega) fun i av u a b=>by
  have hi:i<pre.length:=(List.getElem?_eq_some_iff.1 a).1
  rw [List.getElem?_take_of_lt hi] at b
  exact hG i av u (by rw [List.getElem?_append_left hi];exact a) b
 have e2:vs.drop (pre.length+1)=ys:=scs_of hs2 (by simp;omega) fun i av u a b=>by
  rw [List.getElem?_drop] at b
  exact hG (pre.length+1+i) av u (by rw [List.getElem?_append_right (by omega),show pre.length+1+i-pre.length=i+1 by omega];exact a) b
 have hp:vs[pre.length]?=some (vs[pre.length]'(by omega)):=List.getElem?_eq_getElem (by omega)
 obtain ⟨M,eM,hM⟩:=pc_of_rp hF (hR.2 pre.length _ _ (by rw [List.getElem?_append_right (Nat.le_refl _),Nat.sub_self];rfl) hp)
 have ev:vs=xs++pcValue M p::ys:=by
  rw [← e1,← e2,← eM]
  conv=>lhs;rw [← List.take_append_drop pre.length vs]
  congr 1
  rw [List.drop_eq_getElem_cons (by omega)]
 rw [ev]
 exact (h w M hM).mono fun e w' ⟨he,hb⟩=>⟨v,F,he,hb,fun _ _ h=>h,fun p u x=>by rw [hb.cell (cell_block (hF p u x))];exact hF p u x,fun _ _ h=>.inl h,hv F⟩
end
end Go.Proofs.YtaeelcfjkhfpkaaGreat
