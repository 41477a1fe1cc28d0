/- A walk that knows values as trees: drawn regions with a tail. -/
import Derived.Test.YtaeelcfjkhfpkaaGreatFAPq
set_option linter.unusedVariables false
set_option linter.unusedSimpArgs false
namespace Go.Proofs.YtaeelcfjkhfpkaaGreat
section
open Go.RowKit
def tailB (ops:Array Oper)(k0:Nat):Bool:=Nat.ble k0 ops.size &&
 ((List.range ops.size).all fun j=>Nat.blt j k0|| (List.range j).all fun i=>needs ops i ops.size j) &&
 ((List.range k0).all fun j=>match ops[j]? with
  | some o=>match o.guard with
   | some (g,_)=>Nat.blt g k0
   | none=>true
  | none=>true)
section
variable {P:Program} {ops:Array Oper} {Q Q1:Exit→Act→World→Prop}
theorem Oper.wp_post {o:Oper} {a:Act} {w:World} {K K':Act→World→Prop} (hK:∀ a w,K a w→K' a w)(hQ:∀ e a w,e≠.normal→Q1 e a w→Q e a w)(h:o.wp P a w K Q1):o.wp P a w K' Q:=by
 unfold Oper.wp at *
 generalize (execOp a.eval o).run P w=r at *
 have lets:LetsOut Q1→LetsOut Q:=fun⟨a,w,q⟩=>⟨a,w,hQ _ _ _ (by simp) q⟩
 unfold Oper.upon at *
 split at h
 ·exact hK _ _ h
 ·exact hK _ _ h
 ·exact hK _ _ h
 ·refine Calls.mono h fun e w' he=>?_
  cases e with
  | returned v=>exact hK _ _ he
  | panicked c=>exact hQ _ _ _ (by simp) he
  | outgrown=>exact lets he
 ·exact Rows.mono h fun v w' hv=>hK _ _ hv
 ·exact hQ _ _ _ (by simp) h
 ·exact h.elim
theorem yielded_app {l s:List Oper} {t:Array Value} {g:Nat} (h:g<l.length):yielded (l++s).toArray t g=yielded l.toArray t g:=by
 unfold yielded
 have:(l++s).toArray[g]?=l.toArray[g]?:=by simp [List.getElem?_append_left h]
 rw [this]
theorem wpAny_tail (FA:∀ j oj,ops[j]?=some oj→∀ e∈oj.after,Region.binds .any e=true→e.on<j) {k0:Nat} (hT:∀ j,k0≤j→j<ops.size→∀ i,i<j→needs ops i ops.size j=true) :
  ∀ (f m fuel:Nat) (listed:Array Bool) (a:Act) (w:World),m+f=ops.size→k0≤m→listed.size=ops.size→(∀ i,i<ops.size→listed.getD i false=decide (i<m))→f≤fuel→wpList P ops Q (ops.toList.drop m) a w→wpAny P .any ops Q fuel listed a w:=by
 intro f
 induction f with
 | zero =>
  intro m fuel listed a w hm hk hsz hl hf h
  have hr:Region.ready .any ops listed=[]:=by
   apply List.eq_nil_iff_forall_not_mem.2
   intro j hj
   obtain ⟨h1,oj,h2,_⟩:=mem_ready.1 hj
   have hlt:=(Array.getElem?_eq_some_iff.1 h2).1
   have h3:=hl j hlt
   rw [decide_eq_true (by omega)] at h3
   have:listed.getD j true=listed.getD j false:=by simp [Array.getD_eq_getD_getElem?,hsz,hlt]
   rw [this,h3] at h1;cases h1
  have hd:ops.toList.drop m=[]:=List.drop_eq_nil_of_le (by simp;omega)
  rw [hd] at h
  cases fuel with
  | zero=>exact ⟨hr,h⟩
  | succ fuel=>exact ⟨fun _=>h,fun i hi=>by rw [hr] at hi;cases hi⟩
 | succ f ih =>
  intro m fuel listed a w hm hk hsz hl hf h
  obtain ⟨fuel,rfl⟩:∃ q,fuel=q+1:=⟨fuel-1,by omega⟩
  have hlt:m<ops.size:=by omega
  have hom:ops[m]?=some ops[m]:=Array.getElem?_eq_getElem hlt
  have hrm:m∈Region.ready .any ops listed:=mem_ready.2 ⟨by
   have:listed.getD m true=listed.getD m false:=by simp [Array.getD_eq_getD_getElem?,hsz,hlt]
   rw [this,hl m hlt];simp,_,hom,fun e he hb=>by
   have:=FA m _ hom e he hb
   rw [hl _ (by omega)];simpa using this⟩
  have hd:ops.toList.drop m=ops[m]::ops.toList.drop (m+1):=by
   rw [List.drop_eq_getElem_cons (by simpa using hlt)];simp
  rw [hd] at h
  refine ⟨fun hr=>(by rw [hr] at hrm;cases hrm),fun i hi=>?_⟩
  have him:m=i:=by
   obtain ⟨h1,oi,h2,h3⟩:=mem_ready.1 hi
   have hi2:=(Array.getElem?_eq_some_iff.1 h2).1
   have e1:listed.getD i true=listed.getD i false:=by simp [Array.getD_eq_getD_getElem?,hsz,hi2]
   rw [e1,hl i hi2] at h1
   have hge:m≤i:=by simpa using h1
   by_cases e:m=i
   ·exact e
   ·have:=needs_ready (listed:=listed) (fun j oj ho hj e he hb=>by
      have h5:=FA j oj ho e he hb
      have hjs:=(Array.getElem?_eq_some_iff.1 ho).1
      rw [hl j hjs] at hj
      rw [hl _ (by omega)]
      have h6:=of_decide_eq_true hj
      exact decide_eq_true zqo) h2 h3 _ (hT i zqo hi2 m zqo)
    rw [hl m hlt] at this
    simp at this
  subst him
  have step:∀ a w,wpList P ops Q (ops.toList.drop (m+1)) a w→wpAny P .any ops Q fuel (listed.setIfInBounds m true) a w:=fun a w hw =>
   ih (m+1) fuel _ a w (by omega) (by omega) (by simpa using hsz) (fun q hq=>by
    by_cases e:m=q
    ·subst e
     simp [Array.getD_eq_getD_getElem?,hsz,hlt]
    ·have h7:(listed.setIfInBounds m true).getD q false=listed.getD q false:=by simp [Array.getD_eq_getD_getElem?,Array.getElem?_setIfInBounds_ne e]
     rw [h7,hl q hq]
     have:(q<m)↔(q<m+1):=by omega
     simp [this]) (by omega) hw
  unfold wpOp
  simp only [hom]
  simp only [wpList] at h
  by_cases hw:Region.wanted ops[m] (yielded ops a.tmps)=true
  ·rw [if_pos hw] at h ⊢
   exact h.imp (Oper.wp_mono step) id
  ·rw [if_neg hw] at h ⊢
   exact step _ _ h
theorem wpAny_app {l s:List Oper} (FA:∀ j oj,(l++s).toArray[j]?=some oj→∀ e∈oj.after,Region.binds .any e=true→e.on<j) (hT:∀ j,l.length≤j→j<(l++s).toArray.size→∀ i,i<j→needs (l++s).toArray i (l++s).toArray.size j=true)
  (hg:∀ (j:Nat) o g b,l[j]?=some o→o.guard=some (g,b)→g<l.length) (hN:∀ a w,Q1 .normal a w→wpList P (l++s).toArray Q s a w) (hQ:∀ e a w,e≠.normal→Q1 e a w→Q e a w) :
  ∀ (fuel:Nat) (la lb:Array Bool) (a:Act) (w:World),la.size=l.length→lb.size=(l++s).length→(∀ i,i<l.length→lb.getD i false=la.getD i false)→(∀ i,l.length≤i→i<(l++s).length→lb.getD i false=false) →
   (∀ j oj,l[j]?=some oj→la.getD j false=true→∀ e∈oj.after,Region.binds .any e=true→la.getD e.on false=true) →
   wpAny P .any l.toArray Q1 fuel la a w→wpAny P .any (l++s).toArray Q (fuel+s.length) lb a w:=by
 have opl:∀ {j:Nat},j<l.length→(l++s).toArray[j]?=l[j]?:=fun h=>by simp [List.getElem?_append_left h]
 have FAl:∀ j oj,l[j]?=some oj→∀ e∈oj.after,Region.binds .any e=true→e.on<j:=fun j oj ho=>FA j oj ((opl (List.getElem?_eq_some_iff.1 ho).1).trans ho)
 have fin:∀ (fuel:Nat) (la lb:Array Bool) (a:Act) (w:World),la.size=l.length→lb.size=(l++s).length→(∀ i,i<l.length→lb.getD i false=la.getD i false)→(∀ i,l.length≤i→i<(l++s).length→lb.getD i false=false) →
   Region.ready .any l.toArray la=[]→Q1 .normal a w→wpAny P .any (l++s).toArray Q (fuel+s.length) lb a w:=by
  intro fuel la lb a w h1 h2 h3 h4 hr hq
  have hall:∀ n i,i<n→i<l.length→la.getD i false=true:=by
   intro n
   induction n with
   | zero=>intro i h;omega
   | succ n ih =>
    intro i hi hlt
    by_cases e:i<n
    ·exact ih i e hlt
    ·cases hli:la.getD i false with
     | true=>rfl
     | false =>
      have hoi:l.toArray[i]?=some l[i]:=by simp [hlt]
      have:i∈Region.ready .any l.toArray la:=mem_ready.2 ⟨by
       have:la.getD i true=la.getD i false:=by simp [Array.getD_eq_getD_getElem?,h1,hlt]
       rw [this];exact hli,l[i],hoi,fun e he hb=>by
        have:=FAl i l[i] (by simp [hlt]) e he hb
        exact ih e.on zqo zqo⟩
      rw [hr] at this;cases this
  refine wpAny_tail FA hT s.length l.length _ lb a w (by simp) (Nat.le_refl _) (by simpa using h2) (fun i hi=>?_) (by omega) ?_
  ·by_cases e:i<l.length
   ·rw [h3 i e,hall (i+1) i (by omega) e,decide_eq_true e]
   ·rw [h4 i (by omega) (by simpa using hi),decide_eq_false e]
  ·have:(l++s).toArray.toList.drop l.length=s:=by simp
   rw [this]
   exact hN a w hq
 intro fuel
 induction fuel with
 | zero =>
  intro la lb a w h1 h2 h3 h4 _ h
  exact fin 0 la lb a w h1 h2 h3 h4 h.1 h.2
 | succ fuel ih =>
  intro la lb a w h1 h2 h3 h4 hcl h
  obtain ⟨hn,hs⟩:=h
  by_cases hr:Region.ready .any l.toArray la=[]
  ·exact fin (fuel+1) la lb a w h1 h2 h3 h4 hr (hn hr)
  ·obtain ⟨j0,hj0⟩:=List.exists_mem_of_ne_nil _ hr
   obtain ⟨u1,o0,u2,u3⟩:=mem_ready.1 hj0
   have hj0l:j0<l.length:=by have:=(Array.getElem?_eq_some_iff.1 u2).1;simpa using this
   have hj0n:j0<(l++s).length:=by simp;omega
   have u1':la.getD j0 false=false:=by
    have:la.getD j0 true=la.getD j0 false:=by simp [Array.getD_eq_getD_getElem?,h1,hj0l]
    rw [← this];exact u1
   have hcl2:∀ j oj,(l++s).toArray[j]?=some oj→lb.getD j false=true→∀ e∈oj.after,Region.binds .any e=true→lb.getD e.on false=true:=by
    intro j oj ho hj e he hb
    have hjn:j<(l++s).length:=by have:=(Array.getElem?_eq_some_iff.1 ho).1;simpa using this
    by_cases e2:j<l.length
    ·have ho':l[j]?=some oj:=(opl e2).symm.trans ho
     have:=FAl j oj ho' e he hb
     rw [h3 _ (by omega)]
     rw [h3 _ e2] at hj
     exact hcl j oj ho' hj e he hb
    ·rw [h4 j (by omega) hjn] at hj;cases hj
   rw [show fuel+1+s.length=(fuel+s.length)+1 by omega]
   have hmem:∀ i,i∈Region.ready .any (l++s).toArray lb→i<l.length∧i∈Region.ready .any l.toArray la:=by
    intro i hi
    obtain ⟨v1,oi,v2,v3⟩:=mem_ready.1 hi
    have hin:i<(l++s).toArray.size:=(Array.getElem?_eq_some_iff.1 v2).1
    have hil:i<l.length:=by
     by_cases e:i<l.length
     ·exact e
     ·have:=needs_ready (listed:=lb) hcl2 v2 v3 _ (hT i zqo hin j0 zqo)
      rw [h3 _ hj0l,u1'] at this;cases this
    have v2':l.toArray[i]?=some oi:=by rw [opl hil] at v2;simpa using v2
    refine ⟨hil,mem_ready.2 ⟨?_,oi,v2',fun e he hb=>?_⟩⟩
    ·have q1:lb.getD i true=lb.getD i false:=by simp [Array.getD_eq_getD_getElem?,show i<lb.size by rw [h2];simpa using hin]
     have q2:la.getD i true=la.getD i false:=by simp [Array.getD_eq_getD_getElem?,h1,hil]
     rw [q2,← h3 i hil,← q1];exact v1
    ·have:=FA i oi v2 e he hb
     rw [← h3 _ (by omega)];exact v3 e he hb
   refine ⟨fun hr2=>?_,fun i hi=>?_⟩
   ·have:j0∈Region.ready .any (l++s).toArray lb:=mem_ready.2 ⟨by
     have:lb.getD j0 true=lb.getD j0 false:=by simp [Array.getD_eq_getD_getElem?,show j0<lb.size by rw [h2];exact hj0n]
     rw [this,h3 _ hj0l];exact u1',o0,by rw [opl hj0l];simpa using u2,fun e he hb=>by
      have:=FAl j0 o0 (by simpa using u2) e he hb
      rw [h3 _ (by omega)];exact u3 e he hb⟩
    rw [hr2] at this;cases this
   ·obtain ⟨hil,hia⟩:=hmem i hi
    obtain ⟨v1,oi,v2,v3⟩:=mem_ready.1 hia
    have hli:l[i]?=some oi:=by simpa using v2
    have h:=hs i hia
    have hob:(l++s).toArray[i]?=some oi:=(opl hil).trans hli
    have hset:∀ q,i≠q→∀ (x:Array Bool),(x.setIfInBounds i true).getD q false=x.getD q false:=fun q e x=>by simp [Array.getD_eq_getD_getElem?,Array.getElem?_setIfInBounds_ne e]
    have step:∀ a w,wpAny P .any l.toArray Q1 fuel (la.setIfInBounds i true) a w→wpAny P .any (l++s).toArray Q (fuel+s.length) (lb.setIfInBounds i true) a w:=fun a w k =>
     ih _ _ a w (by simpa using h1) (by simpa using h2) (fun q hq=>by
      by_cases e:i=q
      ·subst e;simp [Array.getD_eq_getD_getElem?,h1,h2,hil];omega
      ·rw [hset q e,hset q e];exact h3 q hq) (fun q hq hq2=>by rw [hset q (by omega)];exact h4 q hq hq2)
      (fun q oq hoq hq e he hb=>by
       have mono:∀ x,la.getD x false=true→(la.setIfInBounds i true).getD x false=true:=fun x hx=>by
        by_cases e:i=x
        ·subst e;simp [Array.getD_eq_getD_getElem?,h1,hil]
        ·rw [hset x e];exact hx
       by_cases e2:i=q
       ·subst e2
        rw [hli] at hoq;cases hoq
        exact mono _ (v3 e he hb)
       ·rw [hset q e2] at hq
        exact mono _ (hcl q oq hoq hq e he hb)) k
    unfold wpOp at h ⊢
    simp only [v2] at h
    simp only [hob]
    have hwant:Region.wanted oi (yielded (l++s).toArray a.tmps)=Region.wanted oi (yielded l.toArray a.tmps):=by
     cases hgd:oi.guard with
     | none=>simp [Region.wanted,hgd]
     | some gb =>
      obtain ⟨g,b⟩:=gb
      simp [Region.wanted,hgd,yielded_app (hg i oi g b hli hgd)]
    rw [hwant]
    by_cases hw:Region.wanted oi (yielded l.toArray a.tmps)=true
    ·rw [if_pos hw] at h ⊢
     rcases h with h|⟨h,hl⟩
     ·exact .inl (Oper.wp_post step hQ h)
     ·exact .inr ⟨h,let ⟨a,w,q⟩:=hl;⟨a,w,hQ _ _ _ (by simp) q⟩⟩
    ·rw [if_neg hw] at h ⊢
     exact step _ _ h
end
section
variable {P:Program} {C:Cx} {σ:St} {Q:Exit→St→Prop}
theorem W.drawT {id:Nat} {L:List Oper} (k0:Nat) (hm:P.follows .mixedOrders=true) (hB:Region.lexB .any L.toArray=true) (hT:tailB L.toArray k0=true)
  (h:WA P C (L.take k0).toArray σ (fun e s=>e=.normal∧WL P C L.toArray (L.drop k0) s Q)):W P C (.region id L.toArray true) σ Q:=by
 refine W.of_wa hm fun G a w ok=>?_
 obtain ⟨l,hl⟩:∃ l,L.take k0=l:=⟨_,rfl⟩
 obtain ⟨s,hs⟩:∃ s,L.drop k0=s:=⟨_,rfl⟩
 have hL:L=l++s:=by rw [← hl,← hs,List.take_append_drop]
 rw [hl,hs] at h
 simp only [Region.lexB,Bool.and_eq_true] at hB
 obtain ⟨FA,_⟩:=lex_facts (ops:=L.toArray) L.toArray.size 0 (Array.replicate L.toArray.size false) (by simp) (by simp) (fun i hi=>by simp [Array.getD_eq_getD_getElem?,hi] at hi ⊢;simp [hi]) hB.2
 simp only [tailB,Bool.and_eq_true] at hT
 obtain ⟨⟨T0,T1⟩,T2⟩:=hT
 have hk:l.length≤k0:=by rw [← hl];simp;omega
 by_cases hkL:k0≤L.length
 ·have hlk:l.length=k0:=by rw [← hl];simp;omega
  subst hL
  have:=wpAny_app (P:=P) (Q:=Post C Q) (Q1:=Post C (fun e s'=>e=.normal∧WL P C (l++s).toArray s s' Q)) (l:=l) (s:=s) (fun j oj ho=>FA j oj (Nat.zero_le _) ho)
   (fun j hj hjn i hij=>by
    have q:=List.all_eq_true.1 T1 j (List.mem_range.2 hjn)
    have e:Nat.blt j k0=false:=by
     cases hb:Nat.blt j k0 with
     | false=>rfl
     | true=>have:=of_blt hb;omega
    rw [e,Bool.false_or] at q
    exact List.all_eq_true.1 q i (List.mem_range.2 hij))
   (fun j o g b ho hgd=>by
    have hj:j<l.length:=(List.getElem?_eq_some_iff.1 ho).1
    have q:=List.all_eq_true.1 T2 j (List.mem_range.2 zqo)
    rw [show (l++s).toArray[j]?=some o by simp [List.getElem?_append_left hj,ho]] at q
    simp only [hgd] at q
    have:=of_blt q
    omega)
   (fun a w ⟨s',G',⟨_,q⟩,o⟩=>q G' a w o)
   (fun e a w he ⟨s',G',⟨q,_⟩,o⟩=>absurd q he)
   l.length (Array.replicate l.length false) (Array.replicate (l++s).length false) a _ (by simp) (by simp) (fun i hi=>by rw [rep_getD,rep_getD]) (fun i _ _=>rep_getD _ _)
   (fun j oj _ hj=>by rw [rep_getD] at hj;cases hj) (by simpa using h G a w ok)
  simpa using this
 ·exact absurd (by simpa using Nat.le_of_ble_eq_true T0) hkL
end
end
section
open Go.RowKit
theorem W.dkT {P:Program} {C:Cx} {σ:St} {Q:Exit→St→Prop} {id:Nat} {L:List Oper} (k0:Nat)(hm:P.follows .mixedOrders=true)(hB:Region.lexB .any L.toArray=true)(hT:tailB L.toArray k0=true)(hB2:Region.lexB .any (L.take k0).toArray=true)
  (h:DK P C (L.take k0).toArray (L.take k0) σ (fun e s=>e=.normal∧WL P C L.toArray (L.drop k0) s Q)):W P C (.region id L.toArray true) σ Q :=
 W.drawT k0 hm hB hT (let⟨_,a,b⟩:=h;WA.draw hB2 a b)
end
end Go.Proofs.YtaeelcfjkhfpkaaGreat
