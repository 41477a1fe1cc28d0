/- A walk that knows values as trees: regions that draw their order. -/
import Derived.Test.YtaeelcfjkhfpkaaGreatE9Rq
set_option linter.unusedVariables false
set_option linter.unusedSimpArgs false
namespace Go.Proofs.YtaeelcfjkhfpkaaGreat
open Go.RowKit
def onlyT (t:List (Nat×AV)):List Nat→List (Nat×AV)
 | []=>[]
 | x::r =>
  match look x t with
  | some av=>(x,av)::onlyT t r
  | none=>onlyT t r
def St.only(σ:St)(ts:List Nat):St:={ σ with t:=onlyT σ.t ts }
theorem look_onlyT {t:List (Nat×AV)} {i:Nat} {av:AV}:∀ {ts:List Nat},look i (onlyT t ts)=some av→look i t=some av
 | [],h=>by cases h
 | x::r,h=>by
  unfold onlyT at h
  cases hx:look x t with
  | none=>rw [hx]at h;exact look_onlyT h
  | some a =>
   rw [hx]at h
   by_cases e:i=x
   ·subst e
    rw [look_set_same]at h
    rw [hx];exact h
   ·rw [look_set_other e]at h;exact look_onlyT h
theorem onlyT_congr {t t':List (Nat×AV)}:∀ {ts:List Nat},(∀ x∈ts,look x t=look x t')→onlyT t ts=onlyT t' ts
 | [],_=>rfl
 | x::r,h=>by
  unfold onlyT
  rw [h x (by simp),onlyT_congr fun y hy=>h y (by simp [hy])]
section
variable {P:Program} {C:Cx} {σ σ':St} {G G':Gh} {a:Act} {w w':World} {ops:Array Oper} {Q:Exit→St→Prop}
theorem Ok.only_ (ok:Ok C σ G a w)(ts:List Nat):Ok C (σ.only ts) G a w :=
 ⟨ok.sz,ok.df,fun i av h=>ok.tm i av (look_onlyT h),ok.bel,ok.fw,ok.f0,ok.f1,ok.ob,ok.my,ok.dj,ok.dF⟩
theorem Ok.congr_ (ok:Ok C σ G a w) (h:∀ t,look t σ'.t=look t σ.t) (hM:σ'.M=σ.M) (hn:σ'.nk=σ.nk):Ok C σ' G a w :=
 ⟨ok.sz,by rw [hn];exact ok.df,fun i av x=>by rw [hn];exact ok.tm i av (by rw [← h];exact x),ok.bel,ok.fw,ok.f0,ok.f1,fun k o x=>by rw [hn];exact ok.ob k o (by rw [← hM];exact x),fun k o x a=>ok.my k o x (by rw [← hM];exact a),fun k o k' o' x a b=>ok.dj k o k' o' x (by rw [← hM];exact a) (by rw [← hM];exact b),fun k o x p u a=>ok.dF k o x p u (by rw [← hM];exact a)⟩
def guardK (ops:Array Oper)(o:Oper)(σ:St):Option Bool :=
 match o.guard with
 | none=>some true
 | some (j,b) =>
  match (ops[j]?).bind (·.dst)with
  | some d =>
   match look d σ.t with
   | some (.sc v)=>some (match vb v with|some c=>c == b|none=>false)
   | _=>none
  | none=>none
theorem guardK_wanted {o:Oper} {b:Bool} (ok:Ok C σ G a w)(h:guardK ops o σ=some b):Region.wanted o (yielded ops a.tmps)=b:=by
 unfold guardK at h
 unfold Region.wanted
 cases hg:o.guard with
 | none=>rw [hg]at h;cases h;rfl
 | some x =>
  obtain⟨j,c⟩:=x
  rw [hg]at h
  simp only at h ⊢
  cases hj:ops[j]? with
  | none=>simp [hj]at h
  | some oj =>
   cases hd:oj.dst with
   | none=>simp [hj,hd]at h
   | some d =>
    simp only [hj,Option.bind_some,hd]at h
    cases hv:look d σ.t with
    | none=>simp [hv]at h
    | some av =>
     cases av with
     | sc v =>
      simp only [hv]at h
      cases h
      rw [yielded_of ok hj hd hv]
      cases vb v with
      | none=>rfl
      | some c'=>cases c'<;>cases c<;>rfl
     | _=>simp [hv]at h
def Does (P:Program)(C:Cx)(ops:Array Oper)(o:Oper)(σ:St)(av:AV):Prop :=
 (guardK ops o (σ.only (o.looksAt ops))=some true∧WV P C o (σ.only (o.looksAt ops)) av)∨(guardK ops o (σ.only (o.looksAt ops))=some false∧av=.sc undef)
theorem Does.congr_ {o:Oper} {av:AV} (h:Does P C ops o σ av)(hl:∀ t∈o.looksAt ops,look t σ.t=look t σ'.t)(hM:σ'.M=σ.M)(hn:σ'.nk=σ.nk):Does P C ops o σ' av:=by
 have e:σ'.only (o.looksAt ops)=σ.only (o.looksAt ops):=by
  unfold St.only
  rw [hM,hn,onlyT_congr fun x hx=>(hl x hx).symm]
 unfold Does
 rw [e];exact h
inductive DL (P:Program)(C:Cx)(ops:Array Oper):List Oper→St→St→Prop
 | nil (σ:St):DL P C ops [] σ σ
 | op (o:Oper)(rest:List Oper)(d:Tmp)(av:AV)(σ σ':St):o.dst=some d→Nat.blt d C.N=true→Does P C ops o σ av→DL P C ops rest (σ.put d av) σ'→DL P C ops (o::rest) σ σ'
def ent1 (o:Option Tmp)(b:Bool)(av:AV):List (Nat×AV) :=
 match b,o with
 | true,some d=>[(d,av)]
 | _,_=>[]
theorem look_ent1 (t:Nat) (o:Option Tmp) (b:Bool) (av:AV):look t (ent1 o b av)=if b=true∧o=some t then some av else none:=by
 cases b with
 | false=>simp [ent1,look]
 | true =>
  cases o with
  | none=>simp [ent1,look]
  | some d =>
   by_cases e:t=d
   ·subst e;rw [if_pos ⟨rfl,rfl⟩];exact look_set_same
   ·rw [if_neg (fun h=>e (by injection h.2 with h;exact h.symm))]
    show look t [(d,av)]=none
    rw [look_set_other e];rfl
def ents (ops:Array Oper) (avs:Nat→AV) (s:Nat→Bool):Nat→List (Nat×AV)
 | 0=>[]
 | m+1=>ent1 ((ops[m]?).bind (·.dst)) (s m) (avs m)++ents ops avs s m
theorem look_app {α:Type} (i:Nat):∀ (l m:List (Nat×α)),look i (l++m)=(look i l).or (look i m)
 | [],m=>rfl
 | x::r,m=>by
  by_cases e:i=x.1
  ·subst e
   rw [List.cons_append,look_set_same,look_set_same];rfl
  ·rw [List.cons_append,look_set_other e,look_set_other e,look_app i r m]
theorem ents_agree {avs:Nat→AV} {s s':Nat→Bool} {t:Nat}:∀ {m:Nat},(∀ i,i<m→(ops[i]?).bind (·.dst)=some t→s i=s' i)→look t (ents ops avs s m)=look t (ents ops avs s' m)
 | 0,_=>rfl
 | m+1,h=>by
  have ih:=ents_agree (avs:=avs) (s:=s) (s':=s') (t:=t) (m:=m) fun i hi hd=>h i zqo hd
  unfold ents
  rw [look_app,look_app,ih,look_ent1,look_ent1]
  by_cases e:(ops[m]?).bind (·.dst)=some t
  ·rw [h m (by omega) e]
  ·rw [if_neg (fun x=>e x.2),if_neg (fun x=>e x.2)]
theorem ents_none {avs:Nat→AV} {s:Nat→Bool} {t:Nat}:∀ {m:Nat},(∀ i,i<m→(ops[i]?).bind (·.dst)=some t→s i=false)→look t (ents ops avs s m)=none
 | 0,_=>rfl
 | m+1,h=>by
  have ih:=ents_none (avs:=avs) (s:=s) (t:=t) (m:=m) fun i hi hd=>h i zqo hd
  unfold ents
  rw [look_app,ih,look_ent1,if_neg]
  ·rfl
  ·intro x
   rw [h m (by omega) x.2] at x
   cases x.1
theorem ents_top {avs:Nat→AV} {s:Nat→Bool} {t j:Nat}:∀ {m:Nat},j<m→(ops[j]?).bind (·.dst)=some t→s j=true→(∀ i,j<i→i<m→(ops[i]?).bind (·.dst)=some t→s i=false)→look t (ents ops avs s m)=some (avs j)
 | 0,h,_,_,_=>by omega
 | m+1,hj,hd,hs,h=>by
  unfold ents
  rw [look_app,look_ent1]
  by_cases e:j=m
  ·subst e
   rw [if_pos ⟨hs,hd⟩];rfl
  ·have ih:=ents_top (avs:=avs) (s:=s) (t:=t) (j:=j) (m:=m) zqo hd hs fun i h1 h2=>h i h1 zqo
   rw [ih,if_neg]
   ·rfl
   ·intro x
    rw [h m (by omega) (by omega) x.2] at x
    cases x.1
theorem lex_facts {md:Region.Mode}:∀ (m k:Nat) (listed:Array Bool),ops.size=k+m→listed.size=ops.size→(∀ i,i<ops.size→listed.getD i true=decide (i<k))→Region.lexFrom md ops m k listed=true →
  (∀ j oj,k≤j→ops[j]?=some oj→∀ e∈oj.after,Region.binds md e=true→e.on<j) ∧
  (∀ i j oi oj,k≤i→i<j→ops[i]?=some oi→ops[j]?=some oj→(∀ e∈oj.after,Region.binds md e=true→e.on≠i)→oi.apart ops oj=true)
 | 0,k,listed,hk,_,_,_=>⟨fun j oj h h'=>by have:=(Array.getElem?_eq_some_iff.1 h').1;omega,fun i j oi oj h h1 h2=>by have:=(Array.getElem?_eq_some_iff.1 h2).1;omega⟩
 | m+1,k,listed,hk,hsz,hl,h=>by
  simp only [Region.lexFrom,Bool.and_eq_true] at h
  obtain ⟨⟨hr,hf⟩,hrest⟩:=h
  have ih:=lex_facts m (k+1) (listed.setIfInBounds k true) (by omega) (by simpa using hsz) (fun i hi=>by
   by_cases e:k=i
   ·subst e;simp [hsz,hi]
   ·rw [show (listed.setIfInBounds k true).getD i true=listed.getD i true from by simp [Array.getD_eq_getD_getElem?,Array.getElem?_setIfInBounds_ne e],hl i hi]
    have:(i<k)↔(i<k+1):=by omega
    simp [this]) hrest
  have hmem:k∈Region.ready md ops listed:=by simpa using hr
  obtain ⟨_,o,ho,hall⟩:=mem_ready.1 hmem
  refine ⟨fun j oj hj hoj e he hb=>?_,fun i j oi oj hi hij hoi hoj hno=>?_⟩
  ·by_cases e2:j=k
   ·subst e2
    rw [ho] at hoj
    cases hoj
    have h1:=hall e he hb
    by_cases hlt:e.on<ops.size
    ·have h2:=hl e.on hlt
     have h3:listed.getD e.on false=listed.getD e.on true:=by simp [Array.getD_eq_getD_getElem?,hsz,hlt]
     rw [h3,h2] at h1
     exact of_decide_eq_true h1
    ·have:listed.getD e.on false=false:=by simp [Array.getD_eq_getD_getElem?,hsz,hlt]
     rw [this] at h1;cases h1
   ·exact ih.1 j oj zqo hoj e he hb
  ·by_cases e2:i=k
   ·subst e2
    have hjlt:=(Array.getElem?_eq_some_iff.1 hoj).1
    exact Region.free_spec hoi hf j oj hoj (by omega) (by rw [hl j hjlt];simp;omega) hno
   ·exact ih.2 i j oi oj zqo hij hoi hoj hno
theorem DL.data {l:List Oper} {σ σ':St} (h:DL P C ops l σ σ'):∃ avs:Nat→AV,σ'={ σ with t:=ents l.toArray avs (fun _=>true) l.length++σ.t } ∧
  ∀ j oj,l[j]?=some oj→∃ d,oj.dst=some d∧d<C.N∧Does P C ops oj { σ with t:=ents l.toArray avs (fun _=>true) j++σ.t } (avs j):=by
 induction h with
 | nil σ=>exact ⟨fun _=>.sc undef,rfl,fun j oj h=>by simp at h⟩
 | op o rest d av σ σ' hd hN hdo _ ih =>
  obtain ⟨avs,e1,e2⟩:=ih
  have key:∀ m,m≤rest.length→ents (o::rest).toArray (fun j=>if j=0 then av else avs (j-1)) (fun _=>true) (m+1)=ents rest.toArray avs (fun _=>true) m++[(d,av)]:=by
   intro m
   induction m with
   | zero=>intro _;simp [ents,ent1,hd]
   | succ m ihm =>
    intro hm
    rw [ents,ihm (by omega),ents]
    simp
  refine ⟨fun j=>if j=0 then av else avs (j-1),?_,fun j oj hj=>?_⟩
  ·rw [e1,List.length_cons,key _ (Nat.le_refl _)]
   simp [St.put]
  ·cases j with
   | zero=>cases hj;exact ⟨d,hd,of_blt hN,by simpa [ents] using hdo⟩
   | succ j =>
    have hj':rest[j]?=some oj:=by simpa using hj
    obtain ⟨d',q1,q2,q3⟩:=e2 j oj hj'
    refine ⟨d',q1,q2,?_⟩
    rw [key j (by have:=(List.getElem?_eq_some_iff.1 hj').1;omega)]
    simpa [St.put] using q3
theorem rep_getD(n j:Nat):(Array.replicate n false).getD j false=false:=by
 unfold Array.getD
 split<;>simp
theorem countP_lt {p q:Nat→Bool} (h:∀ i,q i=true→p i=true):∀ {n j:Nat},j<n→p j=true→q j=false→(List.range n).countP q<(List.range n).countP p
 | 0,_,hj,_,_=>by omega
 | n+1,j,hj,hp,hq=>by
  rw [List.range_succ,List.countP_append,List.countP_append]
  have hle:(List.range n).countP q≤(List.range n).countP p:=List.countP_mono_left fun x _ hx=>h x hx
  by_cases e:j=n
  ·subst e
   have a1:[j].countP q=0:=by simp [hq]
   have a2:[j].countP p=1:=by simp [hp]
   omega
  ·have:=countP_lt h (n:=n) (j:=j) zqo hp hq
   have h1:[n].countP q≤[n].countP p:=List.countP_mono_left fun x _ hx=>h x hx
   omega
def WA (P:Program)(C:Cx)(ops:Array Oper)(σ:St)(Q:Exit→St→Prop):Prop:=∀ G a w,Ok C σ G a w→wpAny P .any ops (Post C Q) ops.size (Array.replicate ops.size false) a { w with drawn:=w.drawn+1 }
theorem W.of_wa {id:Nat} (hm:P.follows .mixedOrders=true)(h:WA P C ops σ Q):W P C (.region id ops true) σ Q:=fun G a w ok=>wp_region_any hm (h G a w ok)
theorem WA.draw {l:List Oper} (hB:Region.lexB .any l.toArray=true) (h:DL P C l.toArray l σ σ') (k:Q .normal σ'):WA P C l.toArray σ Q:=by
 intro G a w ok
 obtain ⟨avs,e1,e2⟩:=h.data
 simp only [Region.lexB,Bool.and_eq_true] at hB
 obtain ⟨FA,FB⟩:=lex_facts (ops:=l.toArray) l.toArray.size 0 (Array.replicate l.toArray.size false) (by simp) (by simp) (fun i hi=>by simp [Array.getD_eq_getD_getElem?,hi] at hi ⊢;simp [hi]) hB.2
 have sz:l.toArray.size=l.length:=by simp
 let KS:Array Bool→St:=fun listed=>{ σ with t:=ents l.toArray avs (fun i=>listed.getD i false) l.length++σ.t }
 have key:∀ (fuel:Nat) (listed:Array Bool) (G:Gh) (a:Act) (w:World),listed.size=l.length→(∀ j oj,l[j]?=some oj→listed.getD j false=true→∀ e∈oj.after,Region.binds .any e=true→listed.getD e.on false=true) →
   (List.range l.length).countP (fun i=>!listed.getD i false)≤fuel→Ok C (KS listed) G a w→wpAny P .any l.toArray (Post C Q) fuel listed a w:=by
  intro fuel
  have done:∀ (listed:Array Bool) (G:Gh) (a:Act) (w:World),listed.size=l.length→Region.ready .any l.toArray listed=[]→Ok C (KS listed) G a w→Post C Q .normal a w:=by
   intro listed G a w hsz hr ok
   have hall:∀ n i,i < n→i < l.length→listed.getD i false=true:=by
    intro n
    induction n with
    | zero=>intro i h;omega
    | succ n ih =>
     intro i hi hlt
     by_cases e:i < n
     ·exact ih i e hlt
     ·have hin:i=n:=by omega
      subst hin
      cases hli:listed.getD i false with
      | true=>rfl
      | false =>
       have hoi:l.toArray[i]?=some l[i]:=by simp [hlt]
       have:i∈Region.ready .any l.toArray listed:=mem_ready.2 ⟨by
        have:listed.getD i true=listed.getD i false:=by simp [Array.getD_eq_getD_getElem?,hsz,hlt]
        rw [this];exact hli,l[i],hoi,fun e he hb=>ih e.on (FA i l[i] (Nat.zero_le _) hoi e he hb) (by have:=FA i l[i] (Nat.zero_le _) hoi e he hb;omega)⟩
       rw [hr] at this;cases this
   refine ⟨σ',G,k,ok.congr_ (fun t=>?_) (by rw [e1]) (by rw [e1])⟩
   rw [e1]
   show look t (_++_)=look t (_++_)
   rw [look_app,look_app,ents_agree (s':=fun i=>listed.getD i false) fun i hi _=>(hall (i+1) i (by omega) hi).symm]
  induction fuel with
  | zero =>
   intro listed G a w hsz hcl hf ok
   have hr:Region.ready .any l.toArray listed=[]:=by
    apply List.eq_nil_iff_forall_not_mem.2
    intro j hj
    obtain ⟨h1,oj,h2,_⟩:=mem_ready.1 hj
    have hlt:j < l.length:=by have:=(Array.getElem?_eq_some_iff.1 h2).1;omega
    have h3:listed.getD j false=false:=by
     have:listed.getD j false=listed.getD j true:=by simp [Array.getD_eq_getD_getElem?,hsz,hlt]
     rw [this];exact h1
    have:=List.countP_eq_zero.1 (Nat.le_zero.1 hf) j (List.mem_range.2 hlt)
    simp [h3] at this
   exact ⟨hr,done listed G a w hsz hr ok⟩
  | succ fuel ih =>
   intro listed G a w hsz hcl hf ok
   refine ⟨fun hr=>done listed G a w hsz hr ok,fun j hj=>?_⟩
   obtain ⟨h1,oj,h2,h4⟩:=mem_ready.1 hj
   have hlt:j < l.length:=by have:=(Array.getElem?_eq_some_iff.1 h2).1;omega
   have h3:listed.getD j false=false:=by
    have:listed.getD j false=listed.getD j true:=by simp [Array.getD_eq_getD_getElem?,hsz,hlt]
    rw [this];exact h1
   have hlj:l[j]?=some oj:=by simpa using h2
   obtain ⟨d,hd,hdN,hdoes⟩:=e2 j oj hlj
   have hlook:∀ t∈oj.looksAt l.toArray,∀ i,i < l.length→(l.toArray[i]?).bind (·.dst)=some t→listed.getD i false=decide (i < j):=by
    intro t ht i hi hdi
    have hoi:l.toArray[i]?=some l[i]:=by simp [hi]
    rw [hoi] at hdi
    have hdi:l[i].dst=some t:=hdi
    rcases Nat.lt_trichotomy i j with hij|hij|hij
    ·rw [decide_eq_true hij]
     by_cases hno:∃ e,e∈oj.after∧Region.binds .any e=true∧e.on=i
     ·obtain ⟨e,he,hb,rfl⟩:=hno
      exact h4 e he hb
     ·exact absurd ht ((Oper.apart_spec (FB i j _ _ (Nat.zero_le _) hij hoi h2 fun e he hb h=>hno ⟨e,he,hb,h⟩)).1 t hdi)
    ·subst hij;rw [h3];simp
    ·rw [decide_eq_false (by omega)]
     cases hli:listed.getD i false with
     | false=>rfl
     | true =>
      by_cases hno:∃ e,e∈(l[i]).after∧Region.binds .any e=true∧e.on=j
      ·obtain ⟨e,he,hb,he2⟩:=hno
       have:=hcl i _ (by simp [hi]) hli e he hb
       rw [he2,h3] at this;cases this
      ·exact absurd ht ((Oper.apart_spec (FB j i _ _ (Nat.zero_le _) hij h2 hoi fun e he hb h=>hno ⟨e,he,hb,h⟩)).2.2 t hdi)
   have hents:∀ t,look t (ents l.toArray avs (fun _=>true) j)=look t (ents l.toArray avs (fun i=>decide (i < j)) l.length):=by
    intro t
    have:∀ m,j≤m→look t (ents l.toArray avs (fun i=>decide (i < j)) m)=look t (ents l.toArray avs (fun i=>decide (i < j)) j):=by
     intro m
     induction m with
     | zero=>intro h;rw [Nat.le_zero.1 h]
     | succ m ihm =>
      intro h
      by_cases e:j=m+1
      ·rw [e]
      ·rw [ents,look_app,look_ent1,if_neg (fun x=>by have:=of_decide_eq_true x.1;omega),ihm (by omega)];rfl
    rw [this l.length (by omega)]
    exact ents_agree fun i hi _=>(decide_eq_true hi).symm
   have hdo:Does P C l.toArray oj (KS listed) (avs j):=hdoes.congr_ (fun t ht=>by
    show look t (_++_)=look t (_++_)
    rw [look_app,look_app,hents t,ents_agree fun i hi hdi=>(hlook t ht i hi hdi).symm]) rfl rfl
   have next:∀ (v:Value) (G':Gh) (w':World),Ok C (KS listed) G' a w'→R G' (avs j) v→Bd σ.nk (avs j)→wpAny P .any l.toArray (Post C Q) fuel (listed.setIfInBounds j true) (a.put oj.dst v) w':=by
    intro v G' w' ok' hr hb
    have ok2:=ok'.set (d:=some d) hr hb fun x hx=>by cases hx;exact hdN
    rw [hd]
    refine ih (listed.setIfInBounds j true) G' _ w' (by simpa using hsz) (fun i oi hi hli e he hb=>?_) ?_ (ok2.congr_ (fun t=>?_) rfl rfl)
    ·have mono:∀ q,listed.getD q false=true→(listed.setIfInBounds j true).getD q false=true:=fun q hq=>by
      by_cases e:j=q
      ·subst e;rw [hq] at h3;cases h3
      ·simpa [Array.getD_eq_getD_getElem?,Array.getElem?_setIfInBounds_ne e] using hq
     by_cases e2:j=i
     ·subst e2
      rw [hlj] at hi;cases hi
      exact mono _ (h4 e he hb)
     ·refine mono _ (hcl i oi hi ?_ e he hb)
      simpa [Array.getD_eq_getD_getElem?,Array.getElem?_setIfInBounds_ne e2] using hli
    ·have hlt2:(List.range l.length).countP (fun i=>!(listed.setIfInBounds j true).getD i false) < (List.range l.length).countP (fun i=>!listed.getD i false):=by
      exact countP_lt (fun i hi=>by
       by_cases e:j=i
       ·subst e;simp [Array.getD_eq_getD_getElem?,hsz,hlt] at hi
       ·simpa [Array.getD_eq_getD_getElem?,Array.getElem?_setIfInBounds_ne e] using hi) hlt (by simp [h3]) (by simp [Array.getD_eq_getD_getElem?,hsz,hlt])
     omega
    ·show look t (_++_)=look t ((d,avs j)::(_++_))
     by_cases et:t=d
     ·subst et
      rw [look_set_same,look_app,ents_top (j:=j) hlt (by rw [h2];exact hd) (by simp [Array.getD_eq_getD_getElem?,hsz,hlt]) fun i hij hi hdi=>?_]
      ·rfl
      ·have hoi:l.toArray[i]?=some l[i]:=by simp [hi]
       rw [hoi] at hdi
       have hdi:l[i].dst=some t:=hdi
       have hne:j≠i:=by omega
       cases hli:listed.getD i false with
       | false=>simpa [Array.getD_eq_getD_getElem?,Array.getElem?_setIfInBounds_ne hne] using hli
       | true =>
        by_cases hno:∃ e,e∈(l[i]).after∧Region.binds .any e=true∧e.on=j
        ·obtain ⟨e,he,hb,he2⟩:=hno
         have:=hcl i _ (by simp [hi]) hli e he hb
         rw [he2,h3] at this;cases this
        ·exact absurd hdi ((Oper.apart_spec (FB j i _ _ (Nat.zero_le _) hij h2 hoi fun e he hb h=>hno ⟨e,he,hb,h⟩)).2.1 t hd)
     ·rw [look_set_other et,look_app,look_app]
      congr 1
      refine ents_agree fun i hi hdi=>?_
      by_cases e2:j=i
      ·subst e2
       rw [h2] at hdi
       have:oj.dst=some t:=hdi
       rw [hd] at this
       exact absurd (by injection this with h;exact h.symm) et
      ·simp [Array.getD_eq_getD_getElem?,Array.getElem?_setIfInBounds_ne e2]
   unfold wpOp
   simp only [h2]
   have okO:=ok.only_ (oj.looksAt l.toArray)
   rcases hdo with ⟨hg,hv⟩|⟨hg,hv⟩
   ·rw [if_pos (guardK_wanted okO hg)]
    exact .inl (hv G a w okO _ _ fun v G' w' hk hr hb=>next v G' w' (hk _ _ ok) hr hb)
   ·rw [if_neg (by rw [guardK_wanted okO hg];simp)]
    exact next undef G w ok (by rw [hv];exact .pu _ _ (.sc _)) (by rw [hv];exact .sc _)
 refine key _ (Array.replicate l.toArray.size false) G a _ (by simp) (fun j oj _ h=>?_) ?_ (ok.drew.congr_ (fun t=>?_) rfl rfl)
 ·rw [rep_getD] at h;cases h
 ·rw [sz]
  exact Nat.le_trans List.countP_le_length (by simp)
 ·show look t (_++_)=_
  rw [look_app,ents_none fun i hi _=>?_]
  ·rfl
  ·exact rep_getD _ _
theorem W.draw {id:Nat} {l:List Oper} (hm:P.follows .mixedOrders=true)(hB:Region.lexB .any l.toArray=true)(h:DL P C l.toArray l σ σ')(k:Q .normal σ'):W P C (.region id l.toArray true) σ Q:=W.of_wa hm (WA.draw hB h k)
end
end Go.Proofs.YtaeelcfjkhfpkaaGreat
