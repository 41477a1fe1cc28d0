/- A strings.Builder that the call has made: what its methods write and read, all other memory as it stands. -/
import Derived.Test.YtgelfflighgajaaGreatDoorSayVq
set_option maxHeartbeats 4000000
set_option maxRecDepth 100000
set_option linter.unusedVariables false
set_option linter.unusedSimpArgs false
namespace Go.Proofs.YtgelfflighgajaaGreatDoor
open Go.RowKit
def tailB (ops:Array Oper)(k0:Nat):Bool:=Nat.ble k0 ops.size &&
 ((List.range ops.size).all fun j=>Nat.blt j k0 || (List.range j).all fun i=>needs ops i ops.size j) &&
 ((List.range k0).all fun j=>match ops[j]? with
  | some o=>match o.guard with
   | some (g,_)=>Nat.blt g k0
   | none=>true
  | none=>true)
section
variable {P:Program} {ops:Array Oper} {Q Q1:Exit→Act→World→Prop}
theorem Oper.wp_post {o:Oper} {a:Act} {w:World} {K K':Act→World→Prop} (hK:∀ a w,K a w→K' a w)(hQ:∀ e a w,e≠.normal→Q1 e a w→Q e a w)(h:o.wp P a w K Q1):o.wp P a w K' Q:=by
 unfold Oper.wp at *
 generalize (execOp a.eval o).run P w=r at *
 have lets:LetsOut Q1→LetsOut Q:=fun⟨a,w,q⟩=>⟨a,w,hQ _ _ _ (by simp) q⟩
 unfold Oper.upon at *
 split at h
 ·exact hK _ _ h
 ·exact hK _ _ h
 ·exact hK _ _ h
 ·refine Calls.mono h fun e w' he=>?_
  cases e with
  | returned v=>exact hK _ _ he
  | panicked c=>exact hQ _ _ _ (by simp) he
  | outgrown=>exact lets he
 ·exact Rows.mono h fun v w' hv=>hK _ _ hv
 ·exact hQ _ _ _ (by simp) h
 ·exact h.elim
theorem yielded_app {l s:List Oper} {t:Array Value} {g:Nat} (h:g<l.length):yielded (l++s).toArray t g=yielded l.toArray t g:=by
 unfold yielded
 have:(l++s).toArray[g]?=l.toArray[g]?:=by simp [List.getElem?_append_left h]
 rw [this]
theorem wpAny_tail (FA:∀ j oj,ops[j]?=some oj→∀ e∈oj.after,Region.binds .any e=true→e.on<j) {k0:Nat} (hT:∀ j,k0≤j→j<ops.size→∀ i,i<j→needs ops i ops.size j=true) :
  ∀ (f m fuel:Nat) (listed:Array Bool) (a:Act) (w:World),m+f=ops.size→k0≤m→listed.size=ops.size→(∀ i,i<ops.size→listed.getD i false=decide (i<m))→f≤fuel→wpList P ops Q (ops.toList.drop m) a w→wpAny P .any ops Q fuel listed a w:=by
 intro f
 induction f with
 | zero =>
  intro m fuel listed a w hm hk hsz hl hf h
  have hr:Region.ready .any ops listed=[]:=by
   apply List.eq_nil_iff_forall_not_mem.2
   intro j hj
   obtain ⟨h1,oj,h2,_⟩:=mem_ready.1 hj
   have hlt:=(Array.getElem?_eq_some_iff.1 h2).1
   have h3:=hl j hlt
   rw [decide_eq_true (by omega)] at h3
   have:listed.getD j true=listed.getD j false:=by simp [Array.getD_eq_getD_getElem?,hsz,hlt]
   rw [this,h3] at h1;cases h1
  have hd:ops.toList.drop m=[]:=List.drop_eq_nil_of_le (by simp;omega)
  rw [hd] at h
  cases fuel with
  | zero=>exact ⟨hr,h⟩
  | succ fuel=>exact ⟨fun _=>h,fun i hi=>by rw [hr] at hi;cases hi⟩
 | succ f ih =>
  intro m fuel listed a w hm hk hsz hl hf h
  obtain ⟨fuel,rfl⟩:∃ q,fuel=q+1:=⟨fuel-1,by omega⟩
  have hlt:m<ops.size:=by omega
  have hom:ops[m]?=some ops[m]:=Array.getElem?_eq_getElem hlt
  have hrm:m∈Region.ready .any ops listed:=mem_ready.2 ⟨by
   have:listed.getD m true=listed.getD m false:=by simp [Array.getD_eq_getD_getElem?,hsz,hlt]
   rw [this,hl m hlt];simp,_,hom,fun e he hb=>by
   have:=FA m _ hom e he hb
   rw [hl _ (by omega)];simpa using this⟩
  have hd:ops.toList.drop m=ops[m]::ops.toList.drop (m+1):=by
   rw [List.drop_eq_getElem_cons (by simpa using hlt)];simp
  rw [hd] at h
  refine ⟨fun hr=>(by rw [hr] at hrm;cases hrm),fun i hi=>?_⟩
  have him:m=i:=by
   obtain ⟨h1,oi,h2,h3⟩:=mem_ready.1 hi
   have hi2:=(Array.getElem?_eq_some_iff.1 h2).1
   have e1:listed.getD i true=listed.getD i false:=by simp [Array.getD_eq_getD_getElem?,hsz,hi2]
   rw [e1,hl i hi2] at h1
   have hge:m≤i:=by simpa using h1
   by_cases e:m=i
   ·exact e
   ·have:=needs_ready (listed:=listed) (fun j oj ho hj e he hb=>by
      have h5:=FA j oj ho e he hb
      have hjs:=(Array.getElem?_eq_some_iff.1 ho).1
      rw [hl j hjs] at hj
      rw [hl _ (by omega)]
      have h6:=of_decide_eq_true hj
      exact decide_eq_true (by omega)) h2 h3 _ (hT i (by omega) hi2 m (by omega))
    rw [hl m hlt] at this
    simp at this
  subst him
  have step:∀ a w,wpList P ops Q (ops.toList.drop (m+1)) a w→wpAny P .any ops Q fuel (listed.setIfInBounds m true) a w:=fun a w hw =>
   ih (m+1) fuel _ a w (by omega) (by omega) (by simpa using hsz) (fun q hq=>by
    by_cases e:m=q
    ·subst e
     simp [Array.getD_eq_getD_getElem?,hsz,hlt]
    ·have h7:(listed.setIfInBounds m true).getD q false=listed.getD q false:=by simp [Array.getD_eq_getD_getElem?,Array.getElem?_setIfInBounds_ne e]
     rw [h7,hl q hq]
     have:(q<m)↔(q<m+1):=by omega
     simp [this]) (by omega) hw
  unfold wpOp
  simp only [hom]
  simp only [wpList] at h
  by_cases hw:Region.wanted ops[m] (yielded ops a.tmps)=true
  ·rw [if_pos hw] at h ⊢
   exact h.imp (Oper.wp_mono step) id
  ·rw [if_neg hw] at h ⊢
   exact step _ _ h
theorem wpAny_app {l s:List Oper} (FA:∀ j oj,(l++s).toArray[j]?=some oj→∀ e∈oj.after,Region.binds .any e=true→e.on<j) (hT:∀ j,l.length≤j→j<(l++s).toArray.size→∀ i,i<j→needs (l++s).toArray i (l++s).toArray.size j=true)
  (hg:∀ (j:Nat) o g b,l[j]?=some o→o.guard=some (g,b)→g<l.length) (hN:∀ a w,Q1 .normal a w→wpList P (l++s).toArray Q s a w) (hQ:∀ e a w,e≠.normal→Q1 e a w→Q e a w) :
  ∀ (fuel:Nat) (la lb:Array Bool) (a:Act) (w:World),la.size=l.length→lb.size=(l++s).length→(∀ i,i<l.length→lb.getD i false=la.getD i false)→(∀ i,l.length≤i→i<(l++s).length→lb.getD i false=false) →
   (∀ j oj,l[j]?=some oj→la.getD j false=true→∀ e∈oj.after,Region.binds .any e=true→la.getD e.on false=true) →
   wpAny P .any l.toArray Q1 fuel la a w→wpAny P .any (l++s).toArray Q (fuel+s.length) lb a w:=by
 have opl:∀ {j:Nat},j<l.length→(l++s).toArray[j]?=l[j]?:=fun h=>by simp [List.getElem?_append_left h]
 have FAl:∀ j oj,l[j]?=some oj→∀ e∈oj.after,Region.binds .any e=true→e.on<j:=fun j oj ho=>FA j oj ((opl (List.getElem?_eq_some_iff.1 ho).1).trans ho)
 have fin:∀ (fuel:Nat) (la lb:Array Bool) (a:Act) (w:World),la.size=l.length→lb.size=(l++s).length→(∀ i,i<l.length→lb.getD i false=la.getD i false)→(∀ i,l.length≤i→i<(l++s).length→lb.getD i false=false) →
   Region.ready .any l.toArray la=[]→Q1 .normal a w→wpAny P .any (l++s).toArray Q (fuel+s.length) lb a w:=by
  intro fuel la lb a w h1 h2 h3 h4 hr hq
  have hall:∀ n i,i<n→i<l.length→la.getD i false=true:=by
   intro n
   induction n with
   | zero=>intro i h;omega
   | succ n ih =>
    intro i hi hlt
    by_cases e:i<n
    ·exact ih i e hlt
    ·cases hli:la.getD i false with
     | true=>rfl
     | false =>
      have hoi:l.toArray[i]?=some l[i]:=by simp [hlt]
      have:i∈Region.ready .any l.toArray la:=mem_ready.2 ⟨by
       have:la.getD i true=la.getD i false:=by simp [Array.getD_eq_getD_getElem?,h1,hlt]
       rw [this];exact hli,l[i],hoi,fun e he hb=>by
        have:=FAl i l[i] (by simp [hlt]) e he hb
        exact ih e.on (by omega) (by omega)⟩
      rw [hr] at this;cases this
  refine wpAny_tail FA hT s.length l.length _ lb a w (by simp) (Nat.le_refl _) (by simpa using h2) (fun i hi=>?_) (by omega) ?_
  ·by_cases e:i<l.length
   ·rw [h3 i e,hall (i+1) i (by omega) e,decide_eq_true e]
   ·rw [h4 i (by omega) (by simpa using hi),decide_eq_false e]
  ·have:(l++s).toArray.toList.drop l.length=s:=by simp
   rw [this]
   exact hN a w hq
 intro fuel
 induction fuel with
 | zero =>
  intro la lb a w h1 h2 h3 h4 _ h
  exact fin 0 la lb a w h1 h2 h3 h4 h.1 h.2
 | succ fuel ih =>
  intro la lb a w h1 h2 h3 h4 hcl h
  obtain ⟨hn,hs⟩:=h
  by_cases hr:Region.ready .any l.toArray la=[]
  ·exact fin (fuel+1) la lb a w h1 h2 h3 h4 hr (hn hr)
  ·obtain ⟨j0,hj0⟩:=List.exists_mem_of_ne_nil _ hr
   obtain ⟨u1,o0,u2,u3⟩:=mem_ready.1 hj0
   have hj0l:j0<l.length:=by have:=(Array.getElem?_eq_some_iff.1 u2).1;simpa using this
   have hj0n:j0<(l++s).length:=by simp;omega
   have u1':la.getD j0 false=false:=by
    have:la.getD j0 true=la.getD j0 false:=by simp [Array.getD_eq_getD_getElem?,h1,hj0l]
    rw [← this];exact u1
   have hcl2:∀ j oj,(l++s).toArray[j]?=some oj→lb.getD j false=true→∀ e∈oj.after,Region.binds .any e=true→lb.getD e.on false=true:=by
    intro j oj ho hj e he hb
    have hjn:j<(l++s).length:=by have:=(Array.getElem?_eq_some_iff.1 ho).1;simpa using this
    by_cases e2:j<l.length
    ·have ho':l[j]?=some oj:=(opl e2).symm.trans ho
     have:=FAl j oj ho' e he hb
     rw [h3 _ (by omega)]
     rw [h3 _ e2] at hj
     exact hcl j oj ho' hj e he hb
    ·rw [h4 j (by omega) hjn] at hj;cases hj
   rw [show fuel+1+s.length=(fuel+s.length)+1 by omega]
   have hmem:∀ i,i∈Region.ready .any (l++s).toArray lb→i<l.length∧i∈Region.ready .any l.toArray la:=by
    intro i hi
    obtain ⟨v1,oi,v2,v3⟩:=mem_ready.1 hi
    have hin:i<(l++s).toArray.size:=(Array.getElem?_eq_some_iff.1 v2).1
    have hil:i<l.length:=by
     by_cases e:i<l.length
     ·exact e
     ·have:=needs_ready (listed:=lb) hcl2 v2 v3 _ (hT i (by omega) hin j0 (by omega))
      rw [h3 _ hj0l,u1'] at this;cases this
    have v2':l.toArray[i]?=some oi:=by rw [opl hil] at v2;simpa using v2
    refine ⟨hil,mem_ready.2 ⟨?_,oi,v2',fun e he hb=>?_⟩⟩
    ·have q1:lb.getD i true=lb.getD i false:=by simp [Array.getD_eq_getD_getElem?,show i<lb.size by rw [h2];simpa using hin]
     have q2:la.getD i true=la.getD i false:=by simp [Array.getD_eq_getD_getElem?,h1,hil]
     rw [q2,← h3 i hil,← q1];exact v1
    ·have:=FA i oi v2 e he hb
     rw [← h3 _ (by omega)];exact v3 e he hb
   refine ⟨fun hr2=>?_,fun i hi=>?_⟩
   ·have:j0∈Region.ready .any (l++s).toArray lb:=mem_ready.2 ⟨by
     have:lb.getD j0 true=lb.getD j0 false:=by simp [Array.getD_eq_getD_getElem?,show j0<lb.size by rw [h2];exact hj0n]
     rw [this,h3 _ hj0l];exact u1',o0,by rw [opl hj0l];simpa using u2,fun e he hb=>by
      have:=FAl j0 o0 (by simpa using u2) e he hb
      rw [h3 _ (by omega)];exact u3 e he hb⟩
    rw [hr2] at this;cases this
   ·obtain ⟨hil,hia⟩:=hmem i hi
    obtain ⟨v1,oi,v2,v3⟩:=mem_ready.1 hia
    have hli:l[i]?=some oi:=by simpa using v2
    have h:=hs i hia
    have hob:(l++s).toArray[i]?=some oi:=(opl hil).trans hli
    have hset:∀ q,i≠q→∀ (x:Array Bool),(x.setIfInBounds i true).getD q false=x.getD q false:=fun q e x=>by simp [Array.getD_eq_getD_getElem?,Array.getElem?_setIfInBounds_ne e]
    have step:∀ a w,wpAny P .any l.toArray Q1 fuel (la.setIfInBounds i true) a w→wpAny P .any (l++s).toArray Q (fuel+s.length) (lb.setIfInBounds i true) a w:=fun a w k =>
     ih _ _ a w (by simpa using h1) (by simpa using h2) (fun q hq=>by
      by_cases e:i=q
      ·subst e;simp [Array.getD_eq_getD_getElem?,h1,h2,hil];omega
      ·rw [hset q e,hset q e];exact h3 q hq) (fun q hq hq2=>by rw [hset q (by omega)];exact h4 q hq hq2)
      (fun q oq hoq hq e he hb=>by
       have mono:∀ x,la.getD x false=true→(la.setIfInBounds i true).getD x false=true:=fun x hx=>by
        by_cases e:i=x
        ·subst e;simp [Array.getD_eq_getD_getElem?,h1,hil]
        ·rw [hset x e];exact hx
       by_cases e2:i=q
       ·subst e2
        rw [hli] at hoq;cases hoq
        exact mono _ (v3 e he hb)
       ·rw [hset q e2] at hq
        exact mono _ (hcl q oq hoq hq e he hb)) k
    unfold wpOp at h ⊢
    simp only [v2] at h
    simp only [hob]
    have hwant:Region.wanted oi (yielded (l++s).toArray a.tmps)=Region.wanted oi (yielded l.toArray a.tmps):=by
     cases hgd:oi.guard with
     | none=>simp [Region.wanted,hgd]
     | some gb =>
      obtain ⟨g,b⟩:=gb
      simp [Region.wanted,hgd,yielded_app (hg i oi g b hli hgd)]
    rw [hwant]
    by_cases hw:Region.wanted oi (yielded l.toArray a.tmps)=true
    ·rw [if_pos hw] at h ⊢
     rcases h with h|⟨h,hl⟩
     ·exact .inl (Oper.wp_post step hQ h)
     ·exact .inr ⟨h,let ⟨a,w,q⟩:=hl;⟨a,w,hQ _ _ _ (by simp) q⟩⟩
    ·rw [if_neg hw] at h ⊢
     exact step _ _ h
end
section
variable {P:Program} {C:Cx} {σ:St} {Q:Exit→St→Prop}
theorem W.drawT {id:Nat} {L:List Oper} (k0:Nat) (hm:P.follows .mixedOrders=true) (hB:Region.lexB .any L.toArray=true) (hT:tailB L.toArray k0=true)
  (h:WA P C (L.take k0).toArray σ (fun e s=>e=.normal∧WL P C L.toArray (L.drop k0) s Q)):W P C (.region id L.toArray true) σ Q:=by
 refine W.of_wa hm fun G a w ok=>?_
 obtain ⟨l,hl⟩:∃ l,L.take k0=l:=⟨_,rfl⟩
 obtain ⟨s,hs⟩:∃ s,L.drop k0=s:=⟨_,rfl⟩
 have hL:L=l++s:=by rw [← hl,← hs,List.take_append_drop]
 rw [hl,hs] at h
 simp only [Region.lexB,Bool.and_eq_true] at hB
 obtain ⟨FA,_⟩:=lex_facts (ops:=L.toArray) L.toArray.size 0 (Array.replicate L.toArray.size false) (by simp) (by simp) (fun i hi=>by simp [Array.getD_eq_getD_getElem?,hi] at hi ⊢;simp [hi]) hB.2
 simp only [tailB,Bool.and_eq_true] at hT
 obtain ⟨⟨T0,T1⟩,T2⟩:=hT
 have hk:l.length≤k0:=by rw [← hl];simp;omega
 by_cases hkL:k0≤L.length
 ·have hlk:l.length=k0:=by rw [← hl];simp;omega
  subst hL
  have:=wpAny_app (P:=P) (Q:=Post C Q) (Q1:=Post C (fun e s'=>e=.normal∧WL P C (l++s).toArray s s' Q)) (l:=l) (s:=s) (fun j oj ho=>FA j oj (Nat.zero_le _) ho)
   (fun j hj hjn i hij=>by
    have q:=List.all_eq_true.1 T1 j (List.mem_range.2 hjn)
    have e:Nat.blt j k0=false:=by
     cases hb:Nat.blt j k0 with
     | false=>rfl
     | true=>have:=of_blt hb;omega
    rw [e,Bool.false_or] at q
    exact List.all_eq_true.1 q i (List.mem_range.2 hij))
   (fun j o g b ho hgd=>by
    have hj:j<l.length:=(List.getElem?_eq_some_iff.1 ho).1
    have q:=List.all_eq_true.1 T2 j (List.mem_range.2 (by omega))
    rw [show (l++s).toArray[j]?=some o by simp [List.getElem?_append_left hj,ho]] at q
    simp only [hgd] at q
    have:=of_blt q
    omega)
   (fun a w ⟨s',G',⟨_,q⟩,o⟩=>q G' a w o)
   (fun e a w he ⟨s',G',⟨q,_⟩,o⟩=>absurd q he)
   l.length (Array.replicate l.length false) (Array.replicate (l++s).length false) a _ (by simp) (by simp) (fun i hi=>by rw [rep_getD,rep_getD]) (fun i _ _=>rep_getD _ _)
   (fun j oj _ hj=>by rw [rep_getD] at hj;cases hj) (by simpa using h G a w ok)
  simpa using this
 ·exact absurd (by simpa using Nat.le_of_ble_eq_true T0) hkL
end
end Go.Proofs.YtgelfflighgajaaGreatDoor
namespace Go.Proofs.YtgelfflighgajaaGreatDoor
open Go.RowKit
theorem ownsRowF_base {w:World} {B e size n:Nat} {v:Value} {xs:List Value} (h:w.ownsRowF B e size v n xs):w.ownsRowF 0 e size v n xs:=by
 refine ⟨h.1,?_⟩
 rcases h.2 with x|⟨g,cap,cur,fz,e,hb,r⟩
 ·exact .inl x
 ·exact .inr ⟨g,cap,cur,fz,e,Nat.zero_le _,r⟩
theorem append_strF {P:Program} (w:World) (t u ty e:TypeId) (i:TypeInfo) (ht:P.underlying t=some (.slice e)) (hu:P.underlying u=some .string) (hi:P.info? e=some i) (hz:i.zero=some (.int .u8 0)) (hs1:i.size=1) (hby:i.bytes=1)
  (v:Value) (n:Nat) (xs:List Value) (hown:w.ownsRowF 0 e 1 v n xs) (s:ByteArray) (hb:n+s.size≤1000000000) :
  ∃ v' w',(Builtin.append_ #[t,u] ty #[v,.string s]).run P w=.ok v' w'∧w'.ownsRowF 0 e 1 v' (n+s.size) (xs++Lib.strCells s)∧w.grownBy w' v.ownBlock∧∀ g,v'.ownBlock=some g→v.ownBlock=some g∨w.heap.size≤g:=by
 rcases hown.2 with⟨rfl,rfl⟩|⟨g,cap,cur,fz,rfl,hbg,hg,hfz,hnc,hcm,hcs,htake⟩
 ·obtain ⟨v',w',h1,h2,h3,_⟩:=Lib.run_append_own_stringF (P:=P) w w.heap.size t u ty e i ht hu hi hz hs1 hby (.slice none 0 0) 0 xs ⟨hown.1,.inl ⟨rfl,rfl⟩⟩ s (by unfold maxLen;omega) (by omega) (Nat.le_refl _)
  exact ⟨v',w',h1,ownsRowF_base h2,h3,fun g hg=>.inr (h2.lt g hg).1⟩
 ·obtain ⟨v',w',h1,h2,h3,_⟩:=Lib.run_append_own_stringF (P:=P) w 0 t u ty e i ht hu hi hz hs1 hby _ n xs hown s (by unfold maxLen;omega) (by omega) (Nat.zero_le _)
  refine ⟨v',w',h1,h2,h3,fun g' hg'=>?_⟩
  have hxl:xs.length=n:=by simpa using hown.1
  have hcs1:cur.size=cap:=by simpa using hcs
  by_cases hroom:n+s.size≤cap
  ·have hr:=Lib.run_append_room_stringF (P:=P) w t u ty e i ht hu hi hs1 g n cap cur fz hg (by simpa using hfz) s hroom (by omega)
   rw [hr] at h1
   cases h1
   exact .inl hg'
  ·have hr:=Lib.run_append_grow_string (P:=P) w t u ty e i (.int .u8 0) ht hu hi hz ⟨g,0,none⟩ n cap xs (by rw [hs1];simpa using hxl) (hown.cells (g:=g) rfl) s (by omega) (by omega) (by rw [hby];exact growslice_fits (by omega) (by omega))
   rw [hr] at h1
   cases h1
   simp [Value.ownBlock] at hg'
   right;omega
theorem run_appendStr {P:Program} {o:Oper} {a:Act} {w w':World} {x y:Operand} {T U:TypeId} {s:ByteArray} {v v':Value} {N:Act→World→Prop} {Q':Exit→Act→World→Prop} (ho:o.op=.call { callee:=.builtin .append,args:=#[x,y],argTypes:=#[T,U] })(ex:a.eval x=v)(ey:a.eval y=.string s)
  (hrun:(Builtin.append_ #[T,U] o.type #[v,.string s]).run P w=.ok v' w')(hN:N (a.put o.dst v') w'):o.wp P a w N Q':=by
 unfold Oper.wp execOp
 have hargs:(#[x,y]:Array Operand).map a.eval=#[v,.string s]:=by simp [ex,ey]
 simp only [ho,resolve,invoke,builtin,Sem.run_bind,Sem.run_pure,Result.andThen_ok,hargs,hrun,Oper.upon]
 exact hN
theorem strCells_bs (s:List UInt8):Lib.strCells (bs s)=Lib.byteCells s:=by
 unfold Lib.strCells Lib.byteCells
 rfl
theorem bldSize:(Tryz.prog.info? 109).map (·.size)=some 2:=by kernel_rfl
theorem bldLies:liesAt Tryz.prog Tryz.prog.depth 109 (2/Tryz.prog.cellsOf 109) 0 109 1=true:=by kernel_rfl
theorem byteInfo:(Tryz.prog.info? 5).map (fun i=>(i.zero,i.size,i.bytes))=some (some (.int .u8 0),1,1):=by kernel_rfl
theorem byteCellsOf:Tryz.prog.cellsOf 5=1:=by kernel_rfl
theorem bld_copy_used (b:Nat) (w:World) (h0:w.cell? ⟨b,0,none⟩=some (.pointer (some ⟨b,0,none⟩))) :
  Calls Tryz.prog 125 #[.pointer (some ⟨b,0,none⟩)] w fun e w'=>e=.returned (.tuple #[])∧w'=w:=by
 obtain ⟨j,hj,_⟩:=Option.map_eq_some_iff.1 bldSize
 go_enter Tryz.func125,Tryz.ntmps125
 go_wp2
 rw [Lib.run_neq_ptr_same w _ Tryz.underlying107 hj]
 go_wp2
 go_end0
 exact ⟨rfl,rfl⟩
theorem bld_copy_fresh (b:Nat) (w:World) (h0:w.cell? ⟨b,0,none⟩=some (.pointer none)) (hsh:w.shape? b=some (109,2)) (hfz:w.frozen? ⟨b,0,none⟩=false) :
  Calls Tryz.prog 125 #[.pointer (some ⟨b,0,none⟩)] w fun e w'=>e=.returned (.tuple #[])∧w'=w.setCell ⟨b,0,none⟩ (.pointer (some ⟨b,0,none⟩)):=by
 obtain ⟨j,hj,hjs⟩:=Option.map_eq_some_iff.1 bldSize
 go_enter Tryz.func125,Tryz.ntmps125
 go_wp2
 rw [Lib.run_to_unsafe w ⟨b,0,none⟩ Tryz.underlying107 Tryz.underlying266 hj (by rw [hjs];decide) hsh (Nat.zero_lt_succ 1)]
 simp only [Result.andThen]
 rw [Oper.upon_value]
 go_wp2
 rw [run_callFunc_extern Tryz.func184 (by kernel_rfl) (by kernel_rfl) (by kernel_rfl) (e:=Extern.AbiNoEscape.same) (by kernel_rfl)]
 rw [Lib.run_noEscape]
 simp only [Result.andThen]
 rw [Oper.upon_value]
 go_wp2
 rw [Lib.run_from_unsafe w ⟨b,0,none⟩ Tryz.underlying266 Tryz.underlying107 hj hsh bldLies]
 simp only [Result.andThen]
 rw [Oper.upon_value]
 go_wp2
 go_end0
 exact ⟨rfl,rfl⟩
theorem bld_copy (w:World) (b:Nat) (p v:Value) (hp:p=.pointer none∨p=.pointer (some ⟨b,0,none⟩)) (hbk:w.heap[b]?=some (.cells #[p,v] 109 (0,0))) :
  Calls Tryz.prog 125 #[.pointer (some ⟨b,0,none⟩)] w fun e w'=>e=.returned (.tuple #[])∧w'.heap[b]?=some (.cells #[.pointer (some ⟨b,0,none⟩),v] 109 (0,0))∧Kept (fun x=>x=b) w w'∧w'.heap.size=w.heap.size:=by
 have c0:w.cell? ⟨b,0,none⟩=some p:=by rw [Lib.cell_of_heap hbk];rfl
 rcases hp with rfl|rfl
 ·refine (bld_copy_fresh b w c0 (by simp [World.shape?,hbk]) (Lib.frozen_of_heap hbk 0)).mono ?_
  rintro e w' ⟨rfl,rfl⟩
  refine ⟨rfl,heap_setCell_same w b 0 _ _ _ hbk,⟨rfl,rfl,rfl,by simp [World.setCell],fun k hk hne=>heap_setCell_other w _ k _ hne⟩,by simp [World.setCell]⟩
 ·refine (bld_copy_used b w c0).mono ?_
  rintro e w' ⟨rfl,rfl⟩
  exact ⟨rfl,hbk,Kept.refl _ _,rfl⟩
theorem bldW_ok:BldW Tryz.prog 58 109 5:=by
 intro w b φ l s hφ h hl
 obtain ⟨p,v,hp,hbk,hown,hfp⟩:=h
 obtain ⟨i0,hi,hz0,hz1,hz2⟩:=info_parts (P:=Tryz.prog) byteInfo
 have hblt:b < w.heap.size:=(Array.getElem?_eq_some_iff.1 hbk).1
 go_enter Tryz.func58,Tryz.ntmps58
 go_wp2_with (go_at_call 125;refine (bld_copy w b p v hp hbk).mono ?_)
 rintro e w1 ⟨rfl,hb1,hk1,hs1⟩
 have hown1:w1.ownsRowF 0 5 1 v l.length (Lib.byteCells l):=ownsRowF_keep hown fun g hg=>hk1.block g (hown.lt g hg).2 (fun e=>(hfp g hg).2 e)
 have c0:w1.cell? ⟨b,0,none⟩=some (.pointer (some ⟨b,0,none⟩)):=by rw [Lib.cell_of_heap hb1];rfl
 have c1:w1.cell? ⟨b,1,none⟩=some v:=by rw [Lib.cell_of_heap hb1];rfl
 obtain ⟨v',w2,hrun,hown',hgrow,hnew⟩:=append_strF (P:=Tryz.prog) w1 57 9 57 5 i0 Tryz.underlying57 Tryz.underlying9 hi hz0 hz1 hz2 v l.length _ hown1 (bs s) (by rw [bs_size];omega)
 obtain ⟨ao,n',cap,rfl⟩:∃ ao n' cap,v'=.slice ao n' cap:=by
  rcases hown'.2 with ⟨hv,_⟩|⟨g,cap,cur,fz,hv,_⟩
  ·exact ⟨_,_,_,hv⟩
  ·exact ⟨_,_,_,hv⟩
 have hb2:w2.heap[b]?=some (.cells #[.pointer (some ⟨b,0,none⟩),v] 109 (0,0)):=by
  rw [hgrow.block b (by omega) (fun e=>(hfp b e.symm).2 rfl)]
  exact hb1
 have d0:w2.cell? ⟨b,0,none⟩=some (.pointer (some ⟨b,0,none⟩)):=by rw [Lib.cell_of_heap hb2];rfl
 have d1:w2.cell? ⟨b,1,none⟩=some v:=by rw [Lib.cell_of_heap hb2];rfl
 have f1:w2.frozen? ⟨b,1,none⟩=false:=Lib.frozen_of_heap hb2 1
 have hsz:w.heap.size≤w2.heap.size:=by have:=hgrow.size;omega
 have hvb:∀ g,(Value.slice ao n' cap).ownBlock=some g→φ g∨(w.heap.size≤g∧g < w2.heap.size):=fun g hg=>by
  rcases hnew g hg with h|h
  ·exact .inl (hfp g h).1
  ·exact .inr ⟨by omega,(hown'.lt g hg).2⟩
 have hvb2:∀ g,(Value.slice ao n' cap).ownBlock=some g→g≠b:=fun g hg e=>by
  rcases hnew g hg with h|h
  ·exact (hfp g h).2 e
  ·omega
 go_wp2_with (at_builtin;refine wpList_plain rfl fun K hK=>run_appendStr rfl rfl rfl hrun (hK _ _ ?_))
 go_ret2
 refine ⟨by rw [bs_size];rfl,⟨?_,?_,?_,by simp [World.setCell];exact hsz,fun k hk hn=>?_⟩,.pointer (some ⟨b,0,none⟩),.slice ao n' cap,.inr rfl,?_,?_,fun g hg=>⟨?_,hvb2 g hg⟩⟩
 ·exact hgrow.os.trans hk1.os
 ·exact hgrow.tape.trans hk1.tape
 ·exact hgrow.output.trans hk1.output
 ·have hkb:k≠b:=fun e=>hn (e ▸ hφ)
  simp only [World.setCell,Array.getElem?_modify]
  rw [if_neg (fun h=>hkb h.symm),hgrow.block k (by omega) (fun e=>hn (hfp k e.symm).1)]
  exact hk1.block k hk hkb
 ·exact heap_setCell_same w2 b 1 _ _ _ hb2
 ·have:=ownsRowF_keep (w':=w2.setCell ⟨b,1,none⟩ (.slice ao n' cap)) hown' fun g hg=>by
   simp only [World.setCell,Array.getElem?_modify]
   rw [if_neg (fun h=>hvb2 g hg h.symm)]
  rw [bs_size] at this
  simpa [strCells_bs,Lib.byteCells,List.length_append] using this
 ·rcases hvb g hg with h|h
  ·exact .inl h
  ·exact .inr ⟨h.1,by simpa [World.setCell] using h.2⟩
theorem bldS_ok:BldS Tryz.prog 59 109 5:=by
 intro w b φ l hφ h h0
 obtain ⟨p,v,hp,hbk,hown,hfp⟩:=h
 have hl0:l.length≠0:=by simpa using h0
 obtain ⟨g,cap,cur,fz,rfl,hbg,hg,hfz,hnc,hcm,hcs,htake⟩:∃ g cap cur fz,v=.slice (some ⟨g,0,none⟩) l.length cap∧0≤g∧w.heap[g]?=some (.cells cur 5 fz)∧fz.2≤l.length*1∧l.length≤cap∧cap≤maxLen∧cur.size=cap*1∧cur.toList.take (l.length*1)=Lib.byteCells l:=by
  rcases hown.2 with⟨_,hz⟩|⟨g,cap,cur,fz,hv,r⟩
  ·exact absurd hz hl0
  ·exact ⟨g,cap,cur,fz,hv,r⟩
 have hgb:g≠b:=(hfp g rfl).2
 have c1:w.drew.cell? ⟨b,1,none⟩=some (.slice (some ⟨g,0,none⟩) l.length cap):=by
  have:w.drew.heap[b]?=some (.cells #[p,.slice (some ⟨g,0,none⟩) l.length cap] 109 (0,0)):=hbk
  rw [Lib.cell_of_heap this];rfl
 have hUS:(Builtin.unsafeString_ #[202,3] 9 #[.pointer (some ⟨g,0,none⟩),.int .i64 l.length]).run Tryz.prog w.drew=.ok (.string ⟨l.toArray⟩) (w.drew.freeze ⟨g,0,none⟩ l.length):=by
  have hg':w.drew.heap[g]?=some (.cells cur 5 fz):=hg
  refine Lib.run_unsafeString_row w.drew 202 3 9 5 Tryz.underlying202 byteCellsOf g cur.size (by simp [World.shape?,hg']) l h0 (by omega) (by unfold maxLen at hcm;omega) ?_
  intro j x hx
  exact hown.cells (g:=g) rfl j (.int .u8 x.toNat) (by simp [Lib.byteCells,hx])
 have hSD:(Builtin.unsafeSliceData_ #[57] 202 #[.slice (some ⟨g,0,none⟩) l.length cap]).run Tryz.prog w.drew=.ok (.pointer (some ⟨g,0,none⟩)) w.drew :=
  Lib.run_unsafeSliceData_row _ _ _ _ _ _ (by omega)
 have hother:∀ k,k≠g→(w.drew.freeze ⟨g,0,none⟩ l.length).heap[k]?=w.heap[k]?:=fun k hk=>by
  unfold World.freeze
  rw [if_neg hl0]
  simp only [Array.getElem?_modify]
  rw [if_neg (fun h=>hk h.symm)]
  rfl
 have hsize:(w.drew.freeze ⟨g,0,none⟩ l.length).heap.size=w.heap.size:=by
  unfold World.freeze
  rw [if_neg hl0]
  simp only [Array.size_modify]
  rfl
 have hkept:Kept φ w (w.drew.freeze ⟨g,0,none⟩ l.length):=by
  refine ⟨?_,?_,?_,Nat.le_of_eq hsize.symm,fun k hk hn=>hother k fun e=>hn (e ▸ (hfp g rfl).1)⟩
  all_goals (unfold World.freeze;rw [if_neg hl0];rfl)
 have hbld:BldIs (w.drew.freeze ⟨g,0,none⟩ l.length) 109 5 b (fun x=>φ x∨(w.heap.size≤x∧x<(w.drew.freeze ⟨g,0,none⟩ l.length).heap.size)) l:=by
  have hA:Lib.BuilderAtF 109 5 0 b p (Lib.byteCells l) w.drew:=⟨Nat.zero_le _,_,hbk,by rw [Lib.byteCells_length];exact hown,fun e=>(hfp b e).2 rfl⟩
  obtain ⟨_,v2,hb2,hown2,_⟩:=hA.froze (g:=g) (cap:=cap) (by rw [Lib.byteCells_length];exact c1)
  rw [Lib.byteCells_length] at hb2 hown2
  rw [hother b (fun e=>hgb e.symm),hbk] at hb2
  have ev:v2=.slice (some ⟨g,0,none⟩) l.length cap:=by
   simp only [Option.some.injEq,Obj.cells.injEq] at hb2
   have:=hb2.1
   simp at this
   exact this.symm
  subst ev
  exact ⟨p,_,hp,(hother b (fun e=>hgb e.symm)).trans hbk,hown2,fun x hx=>⟨.inl (hfp x hx).1,(hfp x hx).2⟩⟩
 have mixed:Tryz.prog.follows .mixedOrders=true:=by kernel_rfl
 go_enter Tryz.func59,Tryz.ntmps59
 go_wp2
 go_region_o
 all_goals (go_wp2;go_ret;exact ⟨rfl,hkept,hbld⟩)
end Go.Proofs.YtgelfflighgajaaGreatDoor
