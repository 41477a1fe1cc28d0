/- The reference's piece in the making: its beginning. (RWN.) -/
import Derived.Test.YtaeelcfjkhfpkaaGreatFDubNq
import Derived.Test.YtaeelcfjkhfpkaaGreatYZNq
import Derived.Test.YtaeelcfjkhfpkaaGreatU5Nq
set_option maxHeartbeats 8000000
set_option maxRecDepth 100000
set_option linter.unusedVariables false
set_option linter.unusedSimpArgs false
namespace Go.Proofs.YtaeelcfjkhfpkaaGreat
section
open Go.RowKit
theorem z49i {z:Int} (h:I64 z:=by unfold I64;omega):I64 z:=h
section
variable {P:Program} {C:Cx} {ops:Array Oper} {o:Oper} {rest:List Oper} {σ:St} {Q:Exit→St→Prop} {d:Tmp}
theorem DK.len {m m':Nat} (hd:dstD C.N ops σ o=some d)(h:lenV P (σ.only (o.looksAt ops)) o.op=some m)(hm:m=m')(k:DK P C ops rest (σ.put d (.sc (.int .i64 m'))) Q):DK P C ops (o::rest) σ Q:=by
 subst hm;exact DK.vl hd (lenV_of h) k
end
end
section
open Go.RowKit
theorem sc_int {k:IntKind} {a b:Int} (h:a=b):AV.sc (.int k a)=.sc (.int k b):=by rw [h]
end
section
open Go.RowKit
def tailB (ops:Array Oper)(k0:Nat):Bool:=Nat.ble k0 ops.size &&
 ((List.range ops.size).all fun j=>Nat.blt j k0|| (List.range j).all fun i=>needs ops i ops.size j) &&
 ((List.range k0).all fun j=>match ops[j]? with
  | some o=>match o.guard with
   | some (g,_)=>Nat.blt g k0
   | none=>true
  | none=>true)
section
variable {P:Program} {ops:Array Oper} {Q Q1:Exit→Act→World→Prop}
theorem Oper.wp_post {o:Oper} {a:Act} {w:World} {K K':Act→World→Prop} (hK:∀ a w,K a w→K' a w)(hQ:∀ e a w,e≠.normal→Q1 e a w→Q e a w)(h:o.wp P a w K Q1):o.wp P a w K' Q:=by
 unfold Oper.wp at *
 generalize (execOp a.eval o).run P w=r at *
 have lets:LetsOut Q1→LetsOut Q:=fun⟨a,w,q⟩=>⟨a,w,hQ _ _ _ (by simp) q⟩
 unfold Oper.upon at *
 split at h
 ·exact hK _ _ h
 ·exact hK _ _ h
 ·exact hK _ _ h
 ·refine Calls.mono h fun e w' he=>?_
  cases e with
  | returned v=>exact hK _ _ he
  | panicked c=>exact hQ _ _ _ (by simp) he
  | outgrown=>exact lets he
 ·exact Rows.mono h fun v w' hv=>hK _ _ hv
 ·exact hQ _ _ _ (by simp) h
 ·exact h.elim
theorem yielded_app {l s:List Oper} {t:Array Value} {g:Nat} (h:g<l.length):yielded (l++s).toArray t g=yielded l.toArray t g:=by
 unfold yielded
 have:(l++s).toArray[g]?=l.toArray[g]?:=by simp [List.getElem?_append_left h]
 rw [this]
theorem wpAny_tail (FA:∀ j oj,ops[j]?=some oj→∀ e∈oj.after,Region.binds .any e=true→e.on<j) {k0:Nat} (hT:∀ j,k0≤j→j<ops.size→∀ i,i<j→needs ops i ops.size j=true) :
  ∀ (f m fuel:Nat) (listed:Array Bool) (a:Act) (w:World),m+f=ops.size→k0≤m→listed.size=ops.size→(∀ i,i<ops.size→listed.getD i false=decide (i<m))→f≤fuel→wpList P ops Q (ops.toList.drop m) a w→wpAny P .any ops Q fuel listed a w:=by
 intro f
 induction f with
 | zero =>
  intro m fuel listed a w hm hk hsz hl hf h
  have hr:Region.ready .any ops listed=[]:=by
   apply List.eq_nil_iff_forall_not_mem.2
   intro j hj
   obtain ⟨h1,oj,h2,_⟩:=mem_ready.1 hj
   have hlt:=(Array.getElem?_eq_some_iff.1 h2).1
   have h3:=hl j hlt
   rw [decide_eq_true (by omega)] at h3
   have:listed.getD j true=listed.getD j false:=by simp [Array.getD_eq_getD_getElem?,hsz,hlt]
   rw [this,h3] at h1;cases h1
  have hd:ops.toList.drop m=[]:=List.drop_eq_nil_of_le (by simp;omega)
  rw [hd] at h
  cases fuel with
  | zero=>exact ⟨hr,h⟩
  | succ fuel=>exact ⟨fun _=>h,fun i hi=>by rw [hr] at hi;cases hi⟩
 | succ f ih =>
  intro m fuel listed a w hm hk hsz hl hf h
  obtain ⟨fuel,rfl⟩:∃ q,fuel=q+1:=⟨fuel-1,by omega⟩
  have hlt:m<ops.size:=by omega
  have hom:ops[m]?=some ops[m]:=Array.getElem?_eq_getElem hlt
  have hrm:m∈Region.ready .any ops listed:=mem_ready.2 ⟨by
   have:listed.getD m true=listed.getD m false:=by simp [Array.getD_eq_getD_getElem?,hsz,hlt]
   rw [this,hl m hlt];simp,_,hom,fun e he hb=>by
   have:=FA m _ hom e he hb
   rw [hl _ (by omega)];simpa using this⟩
  have hd:ops.toList.drop m=ops[m]::ops.toList.drop (m+1):=by
   rw [List.drop_eq_getElem_cons (by simpa using hlt)];simp
  rw [hd] at h
  refine ⟨fun hr=>(by rw [hr] at hrm;cases hrm),fun i hi=>?_⟩
  have him:m=i:=by
   obtain ⟨h1,oi,h2,h3⟩:=mem_ready.1 hi
   have hi2:=(Array.getElem?_eq_some_iff.1 h2).1
   have e1:listed.getD i true=listed.getD i false:=by simp [Array.getD_eq_getD_getElem?,hsz,hi2]
   rw [e1,hl i hi2] at h1
   have hge:m≤i:=by simpa using h1
   by_cases e:m=i
   ·exact e
   ·have:=needs_ready (listed:=listed) (fun j oj ho hj e he hb=>by
      have h5:=FA j oj ho e he hb
      have hjs:=(Array.getElem?_eq_some_iff.1 ho).1
      rw [hl j hjs] at hj
      rw [hl _ (by omega)]
      have h6:=of_decide_eq_true hj
      exact decide_eq_true zqo) h2 h3 _ (hT i zqo hi2 m zqo)
    rw [hl m hlt] at this
    simp at this
  subst him
  have step:∀ a w,wpList P ops Q (ops.toList.drop (m+1)) a w→wpAny P .any ops Q fuel (listed.setIfInBounds m true) a w:=fun a w hw =>
   ih (m+1) fuel _ a w (by omega) (by omega) (by simpa using hsz) (fun q hq=>by
    by_cases e:m=q
    ·subst e
     simp [Array.getD_eq_getD_getElem?,hsz,hlt]
    ·have h7:(listed.setIfInBounds m true).getD q false=listed.getD q false:=by simp [Array.getD_eq_getD_getElem?,Array.getElem?_setIfInBounds_ne e]
     rw [h7,hl q hq]
     have:(q<m)↔(q<m+1):=by omega
     simp [this]) (by omega) hw
  unfold wpOp
  simp only [hom]
  simp only [wpList] at h
  by_cases hw:Region.wanted ops[m] (yielded ops a.tmps)=true
  ·rw [if_pos hw] at h ⊢
   exact h.imp (Oper.wp_mono step) id
  ·rw [if_neg hw] at h ⊢
   exact step _ _ h
theorem wpAny_app {l s:List Oper} (FA:∀ j oj,(l++s).toArray[j]?=some oj→∀ e∈oj.after,Region.binds .any e=true→e.on<j) (hT:∀ j,l.length≤j→j<(l++s).toArray.size→∀ i,i<j→needs (l++s).toArray i (l++s).toArray.size j=true)
  (hg:∀ (j:Nat) o g b,l[j]?=some o→o.guard=some (g,b)→g<l.length) (hN:∀ a w,Q1 .normal a w→wpList P (l++s).toArray Q s a w) (hQ:∀ e a w,e≠.normal→Q1 e a w→Q e a w) :
  ∀ (fuel:Nat) (la lb:Array Bool) (a:Act) (w:World),la.size=l.length→lb.size=(l++s).length→(∀ i,i<l.length→lb.getD i false=la.getD i false)→(∀ i,l.length≤i→i<(l++s).length→lb.getD i false=false) →
   (∀ j oj,l[j]?=some oj→la.getD j false=true→∀ e∈oj.after,Region.binds .any e=true→la.getD e.on false=true) →
   wpAny P .any l.toArray Q1 fuel la a w→wpAny P .any (l++s).toArray Q (fuel+s.length) lb a w:=by
 have opl:∀ {j:Nat},j<l.length→(l++s).toArray[j]?=l[j]?:=fun h=>by simp [List.getElem?_append_left h]
 have FAl:∀ j oj,l[j]?=some oj→∀ e∈oj.after,Region.binds .any e=true→e.on<j:=fun j oj ho=>FA j oj ((opl (List.getElem?_eq_some_iff.1 ho).1).trans ho)
 have fin:∀ (fuel:Nat) (la lb:Array Bool) (a:Act) (w:World),la.size=l.length→lb.size=(l++s).length→(∀ i,i<l.length→lb.getD i false=la.getD i false)→(∀ i,l.length≤i→i<(l++s).length→lb.getD i false=false) →
   Region.ready .any l.toArray la=[]→Q1 .normal a w→wpAny P .any (l++s).toArray Q (fuel+s.length) lb a w:=by
  intro fuel la lb a w h1 h2 h3 h4 hr hq
  have hall:∀ n i,i<n→i<l.length→la.getD i false=true:=by
   intro n
   induction n with
   | zero=>intro i h;omega
   | succ n ih =>
    intro i hi hlt
    by_cases e:i<n
    ·exact ih i e hlt
    ·cases hli:la.getD i false with
     | true=>rfl
     | false =>
      have hoi:l.toArray[i]?=some l[i]:=by simp [hlt]
      have:i∈Region.ready .any l.toArray la:=mem_ready.2 ⟨by
       have:la.getD i true=la.getD i false:=by simp [Array.getD_eq_getD_getElem?,h1,hlt]
       rw [this];exact hli,l[i],hoi,fun e he hb=>by
        have:=FAl i l[i] (by simp [hlt]) e he hb
        exact ih e.on zqo zqo⟩
      rw [hr] at this;cases this
  refine wpAny_tail FA hT s.length l.length _ lb a w (by simp) (Nat.le_refl _) (by simpa using h2) (fun i hi=>?_) (by omega) ?_
  ·by_cases e:i<l.length
   ·rw [h3 i e,hall (i+1) i (by omega) e,decide_eq_true e]
   ·rw [h4 i (by omega) (by simpa using hi),decide_eq_false e]
  ·have:(l++s).toArray.toList.drop l.length=s:=by simp
   rw [this]
   exact hN a w hq
 intro fuel
 induction fuel with
 | zero =>
  intro la lb a w h1 h2 h3 h4 _ h
  exact fin 0 la lb a w h1 h2 h3 h4 h.1 h.2
 | succ fuel ih =>
  intro la lb a w h1 h2 h3 h4 hcl h
  obtain ⟨hn,hs⟩:=h
  by_cases hr:Region.ready .any l.toArray la=[]
  ·exact fin (fuel+1) la lb a w h1 h2 h3 h4 hr (hn hr)
  ·obtain ⟨j0,hj0⟩:=List.exists_mem_of_ne_nil _ hr
   obtain ⟨u1,o0,u2,u3⟩:=mem_ready.1 hj0
   have hj0l:j0<l.length:=by have:=(Array.getElem?_eq_some_iff.1 u2).1;simpa using this
   have hj0n:j0<(l++s).length:=by simp;omega
   have u1':la.getD j0 false=false:=by
    have:la.getD j0 true=la.getD j0 false:=by simp [Array.getD_eq_getD_getElem?,h1,hj0l]
    rw [← this];exact u1
   have hcl2:∀ j oj,(l++s).toArray[j]?=some oj→lb.getD j false=true→∀ e∈oj.after,Region.binds .any e=true→lb.getD e.on false=true:=by
    intro j oj ho hj e he hb
    have hjn:j<(l++s).length:=by have:=(Array.getElem?_eq_some_iff.1 ho).1;simpa using this
    by_cases e2:j<l.length
    ·have ho':l[j]?=some oj:=(opl e2).symm.trans ho
     have:=FAl j oj ho' e he hb
     rw [h3 _ (by omega)]
     rw [h3 _ e2] at hj
     exact hcl j oj ho' hj e he hb
    ·rw [h4 j (by omega) hjn] at hj;cases hj
   rw [show fuel+1+s.length=(fuel+s.length)+1 by omega]
   have hmem:∀ i,i∈Region.ready .any (l++s).toArray lb→i<l.length∧i∈Region.ready .any l.toArray la:=by
    intro i hi
    obtain ⟨v1,oi,v2,v3⟩:=mem_ready.1 hi
    have hin:i<(l++s).toArray.size:=(Array.getElem?_eq_some_iff.1 v2).1
    have hil:i<l.length:=by
     by_cases e:i<l.length
     ·exact e
     ·have:=needs_ready (listed:=lb) hcl2 v2 v3 _ (hT i zqo hin j0 zqo)
      rw [h3 _ hj0l,u1'] at this;cases this
    have v2':l.toArray[i]?=some oi:=by rw [opl hil] at v2;simpa using v2
    refine ⟨hil,mem_ready.2 ⟨?_,oi,v2',fun e he hb=>?_⟩⟩
    ·have q1:lb.getD i true=lb.getD i false:=by simp [Array.getD_eq_getD_getElem?,show i<lb.size by rw [h2];simpa using hin]
     have q2:la.getD i true=la.getD i false:=by simp [Array.getD_eq_getD_getElem?,h1,hil]
     rw [q2,← h3 i hil,← q1];exact v1
    ·have:=FA i oi v2 e he hb
     rw [← h3 _ (by omega)];exact v3 e he hb
   refine ⟨fun hr2=>?_,fun i hi=>?_⟩
   ·have:j0∈Region.ready .any (l++s).toArray lb:=mem_ready.2 ⟨by
     have:lb.getD j0 true=lb.getD j0 false:=by simp [Array.getD_eq_getD_getElem?,show j0<lb.size by rw [h2];exact hj0n]
     rw [this,h3 _ hj0l];exact u1',o0,by rw [opl hj0l];simpa using u2,fun e he hb=>by
      have:=FAl j0 o0 (by simpa using u2) e he hb
      rw [h3 _ (by omega)];exact u3 e he hb⟩
    rw [hr2] at this;cases this
   ·obtain ⟨hil,hia⟩:=hmem i hi
    obtain ⟨v1,oi,v2,v3⟩:=mem_ready.1 hia
    have hli:l[i]?=some oi:=by simpa using v2
    have h:=hs i hia
    have hob:(l++s).toArray[i]?=some oi:=(opl hil).trans hli
    have hset:∀ q,i≠q→∀ (x:Array Bool),(x.setIfInBounds i true).getD q false=x.getD q false:=fun q e x=>by simp [Array.getD_eq_getD_getElem?,Array.getElem?_setIfInBounds_ne e]
    have step:∀ a w,wpAny P .any l.toArray Q1 fuel (la.setIfInBounds i true) a w→wpAny P .any (l++s).toArray Q (fuel+s.length) (lb.setIfInBounds i true) a w:=fun a w k =>
     ih _ _ a w (by simpa using h1) (by simpa using h2) (fun q hq=>by
      by_cases e:i=q
      ·subst e;simp [Array.getD_eq_getD_getElem?,h1,h2,hil];omega
      ·rw [hset q e,hset q e];exact h3 q hq) (fun q hq hq2=>by rw [hset q (by omega)];exact h4 q hq hq2)
      (fun q oq hoq hq e he hb=>by
       have mono:∀ x,la.getD x false=true→(la.setIfInBounds i true).getD x false=true:=fun x hx=>by
        by_cases e:i=x
        ·subst e;simp [Array.getD_eq_getD_getElem?,h1,hil]
        ·rw [hset x e];exact hx
       by_cases e2:i=q
       ·subst e2
        rw [hli] at hoq;cases hoq
        exact mono _ (v3 e he hb)
       ·rw [hset q e2] at hq
        exact mono _ (hcl q oq hoq hq e he hb)) k
    unfold wpOp at h ⊢
    simp only [v2] at h
    simp only [hob]
    have hwant:Region.wanted oi (yielded (l++s).toArray a.tmps)=Region.wanted oi (yielded l.toArray a.tmps):=by
     cases hgd:oi.guard with
     | none=>simp [Region.wanted,hgd]
     | some gb =>
      obtain ⟨g,b⟩:=gb
      simp [Region.wanted,hgd,yielded_app (hg i oi g b hli hgd)]
    rw [hwant]
    by_cases hw:Region.wanted oi (yielded l.toArray a.tmps)=true
    ·rw [if_pos hw] at h ⊢
     rcases h with h|⟨h,hl⟩
     ·exact .inl (Oper.wp_post step hQ h)
     ·exact .inr ⟨h,let ⟨a,w,q⟩:=hl;⟨a,w,hQ _ _ _ (by simp) q⟩⟩
    ·rw [if_neg hw] at h ⊢
     exact step _ _ h
end
section
variable {P:Program} {C:Cx} {σ:St} {Q:Exit→St→Prop}
theorem W.drawT {id:Nat} {L:List Oper} (k0:Nat) (hm:P.follows .mixedOrders=true) (hB:Region.lexB .any L.toArray=true) (hT:tailB L.toArray k0=true)
  (h:WA P C (L.take k0).toArray σ (fun e s=>e=.normal∧WL P C L.toArray (L.drop k0) s Q)):W P C (.region id L.toArray true) σ Q:=by
 refine W.of_wa hm fun G a w ok=>?_
 obtain ⟨l,hl⟩:∃ l,L.take k0=l:=⟨_,rfl⟩
 obtain ⟨s,hs⟩:∃ s,L.drop k0=s:=⟨_,rfl⟩
 have hL:L=l++s:=by rw [← hl,← hs,List.take_append_drop]
 rw [hl,hs] at h
 simp only [Region.lexB,Bool.and_eq_true] at hB
 obtain ⟨FA,_⟩:=lex_facts (ops:=L.toArray) L.toArray.size 0 (Array.replicate L.toArray.size false) (by simp) (by simp) (fun i hi=>by simp [Array.getD_eq_getD_getElem?,hi] at hi ⊢;simp [hi]) hB.2
 simp only [tailB,Bool.and_eq_true] at hT
 obtain ⟨⟨T0,T1⟩,T2⟩:=hT
 have hk:l.length≤k0:=by rw [← hl];simp;omega
 by_cases hkL:k0≤L.length
 ·have hlk:l.length=k0:=by rw [← hl];simp;omega
  subst hL
  have:=wpAny_app (P:=P) (Q:=Post C Q) (Q1:=Post C (fun e s'=>e=.normal∧WL P C (l++s).toArray s s' Q)) (l:=l) (s:=s) (fun j oj ho=>FA j oj (Nat.zero_le _) ho)
   (fun j hj hjn i hij=>by
    have q:=List.all_eq_true.1 T1 j (List.mem_range.2 hjn)
    have e:Nat.blt j k0=false:=by
     cases hb:Nat.blt j k0 with
     | false=>rfl
     | true=>have:=of_blt hb;omega
    rw [e,Bool.false_or] at q
    exact List.all_eq_true.1 q i (List.mem_range.2 hij))
   (fun j o g b ho hgd=>by
    have hj:j<l.length:=(List.getElem?_eq_some_iff.1 ho).1
    have q:=List.all_eq_true.1 T2 j (List.mem_range.2 zqo)
    rw [show (l++s).toArray[j]?=some o by simp [List.getElem?_append_left hj,ho]] at q
    simp only [hgd] at q
    have:=of_blt q
    omega)
   (fun a w ⟨s',G',⟨_,q⟩,o⟩=>q G' a w o)
   (fun e a w he ⟨s',G',⟨q,_⟩,o⟩=>absurd q he)
   l.length (Array.replicate l.length false) (Array.replicate (l++s).length false) a _ (by simp) (by simp) (fun i hi=>by rw [rep_getD,rep_getD]) (fun i _ _=>rep_getD _ _)
   (fun j oj _ hj=>by rw [rep_getD] at hj;cases hj) (by simpa using h G a w ok)
  simpa using this
 ·exact absurd (by simpa using Nat.le_of_ble_eq_true T0) hkL
end
end
section
open Go.RowKit
theorem W.dkT {P:Program} {C:Cx} {σ:St} {Q:Exit→St→Prop} {id:Nat} {L:List Oper} (k0:Nat)(hm:P.follows .mixedOrders=true)(hB:Region.lexB .any L.toArray=true)(hT:tailB L.toArray k0=true)(hB2:Region.lexB .any (L.take k0).toArray=true)
  (h:DK P C (L.take k0).toArray (L.take k0) σ (fun e s=>e=.normal∧WL P C L.toArray (L.drop k0) s Q)):W P C (.region id L.toArray true) σ Q :=
 W.drawT k0 hm hB hT (let⟨_,a,b⟩:=h;WA.draw hB2 a b)
end
section
open Go.RowKit
section
variable {P:Program} {C:Cx} {σ σ':St} {o:Oper} {d:Tmp} {ops:Array Oper} {rest:List Oper} {Q:Exit→St→Prop}
theorem oneB_cells {av:AV} (h:av.oneB=true):av.cellB=true∧av.cells=[av]:=by
 cases av<;>first|exact⟨rfl,rfl⟩|exact⟨h,rfl⟩|cases h
theorem putL_one (j:Nat)(av:AV):∀ cells:List AV,j<cells.length→putL j [av] cells=cells.set j av:=by
 intro cells h
 apply List.ext_getElem?
 intro i
 rw [putL_at (by simp;omega),List.getElem?_set]
 by_cases e:j=i
 ·subst e
  simp [h]
 ·rw [if_neg e,if_neg (by simp;omega)]
end
end
section
open Go.RowKit
section
variable {P:Program} {C:Cx} {σ:St} {o:Oper} {d:Tmp} {ops:Array Oper} {rest:List Oper} {Q:Exit→St→Prop} {mem:List Bool} {Mc:List (Nat×AO)} {nk0 k:Nat}
theorem W.meet2 {Q1 Q2 Q3:Exit→St→Prop} {r x y:Code} (σm:St)(h:W P C r σ (QThen (fun s=>W P C x s (QThen (fun s=>Tr C s σm) Q2)) Q1))(K:W P C y σm Q3):W P C r σ (QThen (fun s=>W P C x s (QThen (fun s=>W P C y s Q3) Q2)) Q1) :=
 W.mono h fun e s q=>by
  cases e with
  | normal=>exact W.meet σm q K
  | _=>exact q
end
end
section
open Go.RowKit
section
variable {P:Program} {o:Oper} {a:Act} {w:World} {K K1 K2:Act→World→Prop} {Q:Exit→Act→World→Prop}
theorem run_v (s:Sem Value)(n:Next)(w':World)(h:(do pure (Next.value (← s)):Sem Next).run P w=.ok n w'):∃ x,n=.value x:=by
 rw [Sem.run_bind]at h
 cases hs:s.run P w with
 | ok x w1=>rw [hs]at h;simp only [Result.andThen,Sem.run_pure]at h;cases h;exact⟨x,rfl⟩
 | halt x w1=>rw [hs]at h;simp only [Result.andThen]at h;cases h
theorem run_u(s:Sem Unit)(n:Next)(w':World)(h:(do s;pure Next.skip:Sem Next).run P w=.ok n w'):n=.skip:=by
 rw [Sem.run_bind]at h
 cases hs:s.run P w with
 | ok x w1=>rw [hs]at h;simp only [Result.andThen,Sem.run_pure]at h;cases h;rfl
 | halt x w1=>rw [hs]at h;simp only [Result.andThen]at h;cases h
end
section
variable {P:Program} {ops A B:Array Oper} {π ρ π' ρ':Nat→Nat} {i j k:Nat} {L LA LB:Array Bool} {a:Act} {w:World} {K K1 K2:Act→World→Prop} {Q:Exit→Act→World→Prop}
theorem getD_tf {L:Array Bool} {p:Nat} (h:p<L.size):L.getD p true=L.getD p false:=by simp [Array.getD_eq_getD_getElem?,h]
theorem ready_lt(h:k∈Region.ready .any ops L):k<ops.size:=by
 obtain⟨_,o,ho,_⟩:=mem_ready.1 h
 exact(Array.getElem?_eq_some_iff.1 ho).1
end
end
section
open Go.RowKit
def aft (π:List Nat)(i j p:Nat)(o:Oper):List Edge:=((o.after.toList.filter (Region.binds .any)).map fun (e:Edge)=>(⟨π.getD e.on 0,.data⟩:Edge))++(bif Nat.beq p j then [(⟨π.getD i 0,.data⟩:Edge)]else [])
def reo (L:List Oper) (π ρ:List Nat) (i j:Nat):List Oper:=(List.range L.length).map fun q =>
 { L.getD (ρ.getD q 0) default with after:=(aft π i j (ρ.getD q 0) (L.getD (ρ.getD q 0) default)).toArray }
end
section
open Go.RowKit
theorem eqn_crs (x y:Int) (b:Bool) (w:World):(Op.equalIn 10000 70 (.agg #[.int .i64 x,.int .i64 y,.bool b]) (.agg #[.int .i64 x,.int .i64 y,.bool b])).run Tryz.prog w=.ok true w:=by
 rw [run_equalIn_agg w 9999 _ _ _ zqk zqk]
 refine Eq.trans (congrArg (fun fs=>Sem.run _ (Op.eqFields 9999 _ _ fs) w) (rfl:(Tryz.prog.fieldsOf 70).toList=[_,_,_])) ?_
 simp [go_sem]
theorem eqn_sign (x:Int) (a b:Bool) (w:World):(Op.equalIn 10000 42 (.agg #[.int .i64 x,.bool a,.bool b]) (.agg #[.int .i64 x,.bool a,.bool b])).run Tryz.prog w=.ok true w:=by
 rw [run_equalIn_agg w 9999 _ _ _ zqk zqk]
 refine Eq.trans (congrArg (fun fs=>Sem.run _ (Op.eqFields 9999 _ _ fs) w) (rfl:(Tryz.prog.fieldsOf 42).toList=[_,_,_])) ?_
 simp [go_sem]
theorem eqn_stp (x y z u v:Int) (w:World):(Op.equalIn 10000 48 (.agg #[.int .i64 x,.int .i64 y,.int .i64 z,.int .i64 u,.int .i64 v]) (.agg #[.int .i64 x,.int .i64 y,.int .i64 z,.int .i64 u,.int .i64 v])).run Tryz.prog w=.ok true w:=by
 rw [run_equalIn_agg w 9999 _ _ _ zqk zqk]
 refine Eq.trans (congrArg (fun fs=>Sem.run _ (Op.eqFields 9999 _ _ fs) w) (rfl:(Tryz.prog.fieldsOf 48).toList=[_,_,_,_,_])) ?_
 simp [go_sem]
theorem eqn_lck (x y z:Int) (w:World):(Op.equalIn 10000 72 (.agg #[.int .i64 x,.int .i64 y,.int .i64 z]) (.agg #[.int .i64 x,.int .i64 y,.int .i64 z])).run Tryz.prog w=.ok true w:=by
 rw [run_equalIn_agg w 9999 _ _ _ zqk zqk]
 refine Eq.trans (congrArg (fun fs=>Sem.run _ (Op.eqFields 9999 _ _ fs) w) (rfl:(Tryz.prog.fieldsOf 72).toList=[_,_,_])) ?_
 simp [go_sem]
theorem sameIns_FS (cs:List (Int×Int×Bool)) (st:List Int) (h1:cs.length≤64) (h2:st.length≤64):Ctr Tryz.prog 29 [.ag (eIns cs st),.ag (eIns cs st)] (.sc (.bool true)):=by
 refine zqe Tryz.func29 Tryz.ntmps29 fun w0 F0=>?_;dsimp only [St.init,number,Nat.reduceAdd]
 repeat (first|refine W.go rfl ?_|refine WL.ev rfl ?_|refine WL.len rfl rfl zql ?_)
 refine (?_:WL _ _ _ _ _ _)
 refine WL.partG rfl rfl rfl rfl (fun hp=>absurd hp (by simp)) (fun hp=>?_)
 repeat (first|refine WL.ev rfl ?_|refine WL.gyes rfl rfl rfl rfl ?_|refine WL.len rfl rfl zql ?_)
 refine (?_:W _ _ _ _ _)
 (refine W.cond rfl (fun hif=>?_) (fun hif=>?_)<;>(try simp only [decide_eq_true_eq,decide_eq_false_iff_not,Int.not_lt,Int.not_le,Bool.not_eq_true',Bool.not_eq_false'] at hif))
 ·exact absurd hif (by simp)
 repeat refine W.go rfl ?_
 refine (?_:W _ _ _ _ _)
 refine W.loop (fun k:Nat=>k≤cs.length) (fun k=>⟨[(2,.pt 0 0 0),(3,.pt 1 0 0),(5,.sc (.int .i64 k))],[(0,.box 26 (eIns cs st)),(1,.box 26 (eIns cs st))],2⟩) (fun k=>cs.length - k) 0 zqo (zqt id) fun k hk=>?_
 repeat (first|refine W.go rfl ?_|refine WL.ev rfl ?_|refine WL.len rfl rfl zql ?_)
 refine (?_:W _ _ _ _ _)
 (refine W.cond rfl (fun hif=>?_) (fun hif=>?_)<;>(try simp only [decide_eq_true_eq,decide_eq_false_iff_not,Int.not_lt,Int.not_le,Bool.not_eq_true',Bool.not_eq_false'] at hif))
 ·have hk2:k < cs.length:=by omega
  repeat refine W.go rfl ?_
  refine (?_:W _ _ _ _ _)
  refine W.drawK zqk zqk ?_
  repeat (first|refine DK.st rfl ?_|refine DK.idx rfl rfl zqo zqm ?_)
  refine DK.vl rfl (WV.ane (b:=true) rfl rfl rfl rfl rfl zqk (fun w=>eqn_crs _ _ _ w)) ?_
  repeat refine DK.nil ?_
  repeat (first|refine W.go rfl ?_|refine WL.ev rfl ?_|refine WL.ar rfl rfl z49i ?_|refine W.condF rfl ?_)
  exact ⟨k+1,by omega,by omega,(zqt id)⟩
 repeat refine W.go rfl ?_
 refine (?_:W _ _ _ _ _)
 refine W.loop (fun k:Nat=>k≤st.length) (fun k=>⟨[(2,.pt 0 0 0),(3,.pt 1 0 0),(6,.sc (.int .i64 k))],[(0,.box 26 (eIns cs st)),(1,.box 26 (eIns cs st))],2⟩) (fun k=>st.length - k) 0 zqo (zqt id) fun k hk=>?_
 repeat (first|refine W.go rfl ?_|refine WL.ev rfl ?_|refine WL.len rfl rfl zql ?_)
 refine (?_:W _ _ _ _ _)
 (refine W.cond rfl (fun hif=>?_) (fun hif=>?_)<;>(try simp only [decide_eq_true_eq,decide_eq_false_iff_not,Int.not_lt,Int.not_le,Bool.not_eq_true',Bool.not_eq_false'] at hif))
 ·have hk2:k < st.length:=by omega
  repeat refine W.go rfl ?_
  refine (?_:W _ _ _ _ _)
  refine W.drawK zqk zqk ?_
  repeat (first|refine DK.ff rfl (by first|(simp;done)|fail) ?_|refine DK.st rfl ?_|refine DK.idx rfl rfl (by omega) zqm ?_|refine DK.nil ?_)
  repeat (first|refine W.go rfl ?_|refine WL.ev rfl ?_|refine WL.ar rfl rfl z49i ?_|refine W.condF rfl ?_)
  exact ⟨k+1,by omega,by omega,(zqt id)⟩
 repeat refine W.go rfl ?_
 refine (?_:W _ _ _ _ _)
 exact W.ret zqr
theorem sameEv_FS (e:Ev) (h:e.stops.length≤64):Ctr Tryz.prog 68 [.ag (eEv e),.ag (eEv e)] (.sc (.bool true)):=by
 refine zqe Tryz.func68 Tryz.ntmps68 fun w0 F0=>?_;dsimp only [St.init,number,Nat.reduceAdd]
 repeat refine W.go rfl ?_
 refine (?_:WL _ _ _ _ _ _)
 refine WL.partG rfl rfl rfl rfl (fun hp=>absurd hp (by simp)) (fun hp=>?_)
 repeat (first|refine WL.ev rfl ?_|refine WL.gyes rfl rfl rfl rfl ?_)
 refine (?_:WL _ _ _ _ _ _)
 refine WL.vl rfl (WV.ane (b:=true) rfl rfl rfl rfl rfl zqk (fun w=>eqn_sign _ _ _ w)) ?_
 repeat (first|refine WL.ev rfl ?_|refine WL.gyes rfl rfl rfl rfl ?_)
 refine (?_:WL _ _ _ _ _ _)
 refine WL.partG rfl rfl rfl rfl (fun hp=>absurd hp (by simp)) (fun hp=>?_)
 repeat (first|refine WL.ev rfl ?_|refine WL.gyes rfl rfl rfl rfl ?_|refine WL.len rfl rfl zql ?_)
 refine (?_:W _ _ _ _ _)
 (refine W.cond rfl (fun hif=>?_) (fun hif=>?_)<;>(try simp only [decide_eq_true_eq,decide_eq_false_iff_not,Int.not_lt,Int.not_le,Bool.not_eq_true',Bool.not_eq_false'] at hif))
 ·exact absurd hif (by simp)
 repeat refine W.go rfl ?_
 refine (?_:W _ _ _ _ _)
 refine W.loop (fun k:Nat=>k≤e.stops.length) (fun k=>⟨[(2,.pt 0 0 0),(3,.pt 1 0 0),(5,.sc (.int .i64 k))],[(0,.box 45 (eEv e)),(1,.box 45 (eEv e))],2⟩) (fun k=>e.stops.length - k) 0 zqo (zqt id) fun k hk=>?_
 repeat (first|refine W.go rfl ?_|refine WL.ev rfl ?_|refine WL.len rfl rfl zql ?_)
 refine (?_:W _ _ _ _ _)
 (refine W.cond rfl (fun hif=>?_) (fun hif=>?_)<;>(try simp only [decide_eq_true_eq,decide_eq_false_iff_not,Int.not_lt,Int.not_le,Bool.not_eq_true',Bool.not_eq_false'] at hif))
 ·have hk2:k < e.stops.length:=by omega
  repeat refine W.go rfl ?_
  refine (?_:W _ _ _ _ _)
  refine W.drawK zqk zqk ?_
  repeat (first|refine DK.st rfl ?_|refine DK.idx rfl rfl zqo zqm ?_)
  refine DK.vl rfl (WV.ane (b:=true) rfl rfl rfl rfl rfl zqk (fun w=>eqn_stp _ _ _ _ _ w)) ?_
  repeat refine DK.nil ?_
  repeat (first|refine W.go rfl ?_|refine WL.ev rfl ?_|refine WL.ar rfl rfl z49i ?_|refine W.condF rfl ?_)
  exact ⟨k+1,by omega,by omega,(zqt id)⟩
 repeat refine W.go rfl ?_
 refine (?_:W _ _ _ _ _)
 exact W.ret zqr
theorem same_FS (p:Pce) (hO:PcOk p):Ctr Tryz.prog 18 [ePce p,ePce p] (.sc (.bool true)):=by
 refine zqe Tryz.func18 Tryz.ntmps18 fun w0 F0=>?_;dsimp only [St.init,number,Nat.reduceAdd]
 have hn3:=hO.n3
 repeat refine W.go rfl ?_
 refine (?_:WL _ _ _ _ _ _)
 refine WL.opv rfl rfl rfl (WV.call rfl (callF Tryz.func29 rfl rfl) rfl rfl (sameIns_FS p.cs p.st hO.n1 hO.n2)) ?_
 repeat (first|refine WL.ev rfl ?_|refine WL.gyes rfl rfl rfl rfl ?_|refine WL.len rfl rfl zql ?_)
 refine (?_:W _ _ _ _ _)
 refine (?_:W _ _ _ _ _)
 (refine W.cond rfl (fun hif=>?_) (fun hif=>?_)<;>(try simp only [decide_eq_true_eq,decide_eq_false_iff_not,Int.not_lt,Int.not_le,Bool.not_eq_true',Bool.not_eq_false'] at hif))
 ·exact absurd hif (by simp)
 repeat refine W.go rfl ?_
 refine (?_:W _ _ _ _ _)
 refine W.loop (fun k:Nat=>k≤p.evs.length) (fun k=>⟨[(2,.pt 0 0 0),(3,.pt 1 0 0),(5,.sc (.int .i64 k))],[(0,.box 29 [.ls 3 (p.cs.map eCrs),.ls 1 (p.st.map eInt),.ls 6 (p.evs.map eEv)]),(1,.box 29 [.ls 3 (p.cs.map eCrs),.ls 1 (p.st.map eInt),.ls 6 (p.evs.map eEv)])],2⟩) (fun k=>p.evs.length - k) 0 zqo (zqt id) fun k hk=>?_
 repeat (first|refine W.go rfl ?_|refine WL.ev rfl ?_|refine WL.len rfl rfl zql ?_)
 refine (?_:W _ _ _ _ _)
 (refine W.cond rfl (fun hif=>?_) (fun hif=>?_)<;>(try simp only [decide_eq_true_eq,decide_eq_false_iff_not,Int.not_lt,Int.not_le,Bool.not_eq_true',Bool.not_eq_false'] at hif))
 ·have hk2:k < p.evs.length:=by omega
  have h20:=hO.n4 k hk2
  repeat refine W.go rfl ?_
  refine (?_:W _ _ _ _ _)
  refine W.drawK zqk zqk ?_
  repeat (first|refine DK.st rfl ?_|refine DK.idx rfl rfl zqo zqm ?_)
  refine DK.vl rfl (WV.call rfl (callF Tryz.func68 rfl rfl) rfl rfl (sameEv_FS _ zqo)) ?_
  repeat (first|refine DK.ff rfl (by first|(simp;done)|fail) ?_|refine DK.nil ?_)
  repeat (first|refine W.go rfl ?_|refine WL.ev rfl ?_|refine WL.ar rfl rfl z49i ?_|refine W.condF rfl ?_)
  exact ⟨k+1,by omega,by omega,(zqt id)⟩
 repeat refine W.go rfl ?_
 refine (?_:W _ _ _ _ _)
 exact W.ret zqr
theorem sameLk_FS (l:List Lck) (h:l.length≤30000):Ctr Tryz.prog 19 [.ls 3 (l.map eLk),.ls 3 (l.map eLk)] (.sc (.bool true)):=by
 refine zqe Tryz.func19 Tryz.ntmps19 fun w0 F0=>?_;dsimp only [St.init,number,Nat.reduceAdd]
 repeat (first|refine W.go rfl ?_|refine WL.ev rfl ?_|refine WL.len rfl rfl zql ?_)
 refine (?_:W _ _ _ _ _)
 (refine W.cond rfl (fun hif=>?_) (fun hif=>?_)<;>(try simp only [decide_eq_true_eq,decide_eq_false_iff_not,Int.not_lt,Int.not_le,Bool.not_eq_true',Bool.not_eq_false'] at hif))
 ·exact absurd hif (by simp)
 repeat refine W.go rfl ?_
 refine (?_:W _ _ _ _ _)
 refine W.loop (fun k:Nat=>k≤l.length) (fun k=>⟨[(0,.ls 3 (l.map eLk)),(1,.ls 3 (l.map eLk)),(5,.sc (.int .i64 k))],[],0⟩) (fun k=>l.length - k) 0 zqo (zqt id) fun k hk=>?_
 repeat (first|refine W.go rfl ?_|refine WL.ev rfl ?_|refine WL.len rfl rfl zql ?_)
 refine (?_:W _ _ _ _ _)
 (refine W.cond rfl (fun hif=>?_) (fun hif=>?_)<;>(try simp only [decide_eq_true_eq,decide_eq_false_iff_not,Int.not_lt,Int.not_le,Bool.not_eq_true',Bool.not_eq_false'] at hif))
 ·have hk2:k < l.length:=by omega
  repeat refine W.go rfl ?_
  refine (?_:W _ _ _ _ _)
  refine W.drawK zqk zqk ?_
  repeat (first|refine DK.st rfl ?_|refine DK.idx rfl rfl zqo zqm ?_)
  refine DK.vl rfl (WV.ane (b:=true) rfl rfl rfl rfl rfl zqk (fun w=>eqn_lck _ _ _ w)) ?_
  repeat refine DK.nil ?_
  repeat (first|refine W.go rfl ?_|refine WL.ev rfl ?_|refine WL.ar rfl rfl z49i ?_|refine W.condF rfl ?_)
  exact ⟨k+1,by omega,by omega,(zqt id)⟩
 repeat refine W.go rfl ?_
 refine (?_:W _ _ _ _ _)
 exact W.ret zqr
end
section
open Go.RowKit
def ptE (C:Cg)(i k j:Nat)(e:Ev):Ev:={ e with stops:=if j<i then pcS C e.stops else if j=i then pcS C (e.stops.take k)else [] }
def ptL (C:Cg)(evs:List Ev)(i k:Nat):List Ev:=evs.mapIdx (ptE C i k)
def kpL (C:Cg)(evs:List Ev)(i k:Nat):List (List Stp):=evs.mapIdx fun j e=>if j<i then kpS C e.stops else if j=i then kpS C (e.stops.take k)else []
def pcL(C:Cg)(evs:List Ev):List Ev:=evs.map fun e=>{ e with stops:=pcS C e.stops }
def kpA (C:Cg)(evs:List Ev):List (List Stp):=evs.map fun e=>kpS C e.stops
theorem ptL_len(C:Cg)(evs:List Ev)(i k:Nat):(ptL C evs i k).length=evs.length:=List.length_mapIdx
theorem kpL_len(C:Cg)(evs:List Ev)(i k:Nat):(kpL C evs i k).length=evs.length:=List.length_mapIdx
theorem ptL_get {C:Cg} {evs:List Ev} {i k j:Nat} (h:j<evs.length):(ptL C evs i k)[j]'(by rw [ptL_len];exact h)=ptE C i k j evs[j]:=by unfold ptL;rw [List.getElem_mapIdx]
theorem kpL_get {C:Cg} {evs:List Ev} {i k j:Nat} (h:j<evs.length):(kpL C evs i k)[j]'(by rw [kpL_len];exact h)=if j<i then kpS C evs[j].stops else if j=i then kpS C (evs[j].stops.take k)else []:=by unfold kpL;rw [List.getElem_mapIdx]
theorem ptL_0 (C:Cg)(evs:List Ev):ptL C evs 0 0=evs.map fun e=>{ e with stops:=[] }:=by
 apply List.ext_getElem (by rw [ptL_len,List.length_map])
 intro j h1 h2
 have hj:j<evs.length:=by rw [ptL_len]at h1;exact h1
 rw [ptL_get hj,List.getElem_map]
 unfold ptE
 by_cases e:j=0
 ·subst e;rfl
 ·rw [if_neg (by omega),if_neg e]
theorem kpL_0 (C:Cg)(evs:List Ev):kpL C evs 0 0=evs.map fun _=>[]:=by
 apply List.ext_getElem (by rw [kpL_len,List.length_map])
 intro j h1 h2
 have hj:j<evs.length:=by rw [kpL_len]at h1;exact h1
 rw [kpL_get hj,List.getElem_map]
 by_cases e:j=0
 ·subst e;rfl
 ·rw [if_neg (by omega),if_neg e]
theorem ptL_all (C:Cg)(evs:List Ev):ptL C evs evs.length 0=pcL C evs:=by
 unfold pcL
 apply List.ext_getElem (by rw [ptL_len,List.length_map])
 intro j h1 h2
 have hj:j<evs.length:=by rw [ptL_len]at h1;exact h1
 rw [ptL_get hj,List.getElem_map]
 unfold ptE
 rw [if_pos hj]
theorem kpL_all (C:Cg)(evs:List Ev):kpL C evs evs.length 0=kpA C evs:=by
 unfold kpA
 apply List.ext_getElem (by rw [kpL_len,List.length_map])
 intro j h1 h2
 have hj:j<evs.length:=by rw [kpL_len]at h1;exact h1
 rw [kpL_get hj,List.getElem_map,if_pos hj]
theorem ptL_next {C:Cg} {evs:List Ev} {i k:Nat} (h:i<evs.length)(hk:k=evs[i].stops.length):ptL C evs i k=ptL C evs (i+1) 0:=by
 apply List.ext_getElem (by rw [ptL_len,ptL_len])
 intro j h1 h2
 have hj:j<evs.length:=by rw [ptL_len] at h1;exact h1
 rw [ptL_get hj,ptL_get hj]
 unfold ptE
 congr 1
 by_cases e:j<i
 ·rw [if_pos e,if_pos (by omega)]
 ·rw [if_neg e]
  by_cases e2:j=i
  ·subst e2
   rw [if_pos rfl,if_pos (by omega),hk,List.take_length]
  ·rw [if_neg e2,if_neg (by omega)]
   by_cases e3:j=i+1
   ·rw [if_pos e3];rfl
   ·rw [if_neg e3]
theorem kpL_next {C:Cg} {evs:List Ev} {i k:Nat} (h:i<evs.length)(hk:k=evs[i].stops.length):kpL C evs i k=kpL C evs (i+1) 0:=by
 apply List.ext_getElem (by rw [kpL_len,kpL_len])
 intro j h1 h2
 have hj:j<evs.length:=by rw [kpL_len] at h1;exact h1
 rw [kpL_get hj,kpL_get hj]
 by_cases e:j<i
 ·rw [if_pos e,if_pos (by omega)]
 ·rw [if_neg e]
  by_cases e2:j=i
  ·subst e2
   rw [if_pos rfl,if_pos (by omega),hk,List.take_length]
  ·rw [if_neg e2,if_neg (by omega)]
   by_cases e3:j=i+1
   ·rw [if_pos e3];rfl
   ·rw [if_neg e3]
theorem pcS_snoc {C:Cg} {l:List Stp} {k:Nat} (h:k<l.length):pcS C (l.take (k+1))=pcS C (l.take k)++(match C.pl l[k]with|some y=>[y]|none=>[]):=by
 unfold pcS
 rw [List.take_succ_eq_append_getElem h,List.filterMap_append]
 congr 1
 rw [List.filterMap_cons,List.filterMap_nil]
 cases C.pl l[k]<;>rfl
theorem kpS_snoc {C:Cg} {l:List Stp} {k:Nat} (h:k<l.length):kpS C (l.take (k+1))=kpS C (l.take k)++(if (C.ch l[k]).2=true then []else [l[k]]):=by
 unfold kpS
 rw [List.take_succ_eq_append_getElem h,List.filter_append]
 congr 1
 rw [List.filter_cons,List.filter_nil]
 cases (C.ch l[k]).2<;>rfl
theorem pl_lost {C:Cg} {evs:List Ev} {i k:Nat} (h:i<evs.length)(hk:k<evs[i].stops.length)(hl:(C.ch evs[i].stops[k]).2=true):ptL C evs i (k+1)=ptL C evs i k∧kpL C evs i (k+1)=kpL C evs i k:=by
 have hp:C.pl evs[i].stops[k]=none:=if_pos hl
 constructor
 ·apply List.ext_getElem (by rw [ptL_len,ptL_len])
  intro j h1 h2
  have hj:j<evs.length:=by rw [ptL_len]at h1;exact h1
  rw [ptL_get hj,ptL_get hj]
  unfold ptE
  congr 1
  by_cases e2:j=i
  ·subst e2
   rw [if_neg (Nat.lt_irrefl _),if_neg (Nat.lt_irrefl _),if_pos rfl,if_pos rfl,pcS_snoc hk,hp]
   simp
  ·rw [if_neg e2,if_neg e2]
 ·apply List.ext_getElem (by rw [kpL_len,kpL_len])
  intro j h1 h2
  have hj:j<evs.length:=by rw [kpL_len]at h1;exact h1
  rw [kpL_get hj,kpL_get hj]
  by_cases e2:j=i
  ·subst e2
   rw [if_neg (Nat.lt_irrefl _),if_neg (Nat.lt_irrefl _),if_pos rfl,if_pos rfl,kpS_snoc hk,if_pos hl,List.append_nil]
  ·rw [if_neg e2,if_neg e2]
theorem pl_kept {C:Cg} {evs:List Ev} {i k:Nat} (h:i<evs.length)(hk:k<evs[i].stops.length)(hl:(C.ch evs[i].stops[k]).2=false) :
  ptL C evs i (k+1)=(ptL C evs i k).set i { evs[i]with stops:=pcS C (evs[i].stops.take k)++[(C.ch evs[i].stops[k]).1] }∧kpL C evs i (k+1)=(kpL C evs i k).set i (kpS C (evs[i].stops.take k)++[evs[i].stops[k]]):=by
 have hp:C.pl evs[i].stops[k]=some (C.ch evs[i].stops[k]).1:=if_neg (by rw [hl];simp)
 constructor
 ·apply List.ext_getElem (by rw [ptL_len,List.length_set,ptL_len])
  intro j h1 h2
  have hj:j<evs.length:=by rw [ptL_len]at h1;exact h1
  rw [ptL_get hj,List.getElem_set,ptL_get hj]
  unfold ptE
  by_cases e2:i=j
  ·subst e2
   rw [if_neg (Nat.lt_irrefl _),if_pos rfl,if_pos rfl,pcS_snoc hk,hp]
  ·rw [if_neg e2]
   congr 1
   rw [if_neg (show ¬ j=i from fun e=>e2 e.symm),if_neg (show ¬ j=i from fun e=>e2 e.symm)]
 ·apply List.ext_getElem (by rw [kpL_len,List.length_set,kpL_len])
  intro j h1 h2
  have hj:j<evs.length:=by rw [kpL_len]at h1;exact h1
  rw [kpL_get hj,List.getElem_set,kpL_get hj]
  by_cases e2:i=j
  ·subst e2
   rw [if_neg (Nat.lt_irrefl _),if_pos rfl,if_pos rfl,kpS_snoc hk,if_neg (by rw [hl];simp)]
  ·rw [if_neg e2,if_neg (show ¬ j=i from fun e=>e2 e.symm),if_neg (show ¬ j=i from fun e=>e2 e.symm)]
theorem ptL_at {C:Cg} {evs:List Ev} {i k:Nat} (h:i<evs.length):(ptL C evs i k)[i]?=some { evs[i]with stops:=pcS C (evs[i].stops.take k) }:=by
 rw [List.getElem?_eq_getElem (by rw [ptL_len];exact h),ptL_get h]
 unfold ptE
 rw [if_neg (Nat.lt_irrefl _),if_pos rfl]
theorem kpL_at {C:Cg} {evs:List Ev} {i k:Nat} (h:i<evs.length):(kpL C evs i k)[i]?=some (kpS C (evs[i].stops.take k)):=by
 rw [List.getElem?_eq_getElem (by rw [kpL_len];exact h),kpL_get h,if_neg (Nat.lt_irrefl _),if_pos rfl]
theorem nwS_pl(C:Cg)(l:List Stp):nwS C l=(pcS C l).map C.mr:=by rw [nwS_fr,pcS_fr,List.map_map];rfl
theorem kpS_len(C:Cg)(l:List Stp):(kpS C l).length≤l.length:=List.length_filter_le _ _
theorem pcS_len(C:Cg)(l:List Stp):(pcS C l).length≤l.length:=List.length_filterMap_le _ _
theorem pcS_frl(C:Cg)(l:List Stp):(pcS C l).length=(kpS C l).length:=by rw [pcS_fr,List.length_map]
theorem kpS_asc {C:Cg} {l:List Stp} (h:l.Pairwise fun x y=>x.1<y.1):(kpS C l).Pairwise fun x y=>x.1<y.1:=h.filter _
def baE (C:Cg)(ties:Bool)(j:Nat)(e:Ev):Ev:={ e with stops:=pcS C e.stops,tie:=if e.stops.length=0 then e.tie else if (pcS C e.stops).length=0 then (decide (0<j) && ties)else e.tie }
def baL(C:Cg)(ties:Bool)(evs:List Ev)(n:Nat):List Ev:=evs.mapIdx fun j e=>if j<n then baE C ties j e else { e with stops:=pcS C e.stops }
theorem baL_len(C:Cg)(ties:Bool)(evs:List Ev)(n:Nat):(baL C ties evs n).length=evs.length:=List.length_mapIdx
theorem baL_0 (C:Cg)(ties:Bool)(evs:List Ev):baL C ties evs 0=pcL C evs:=by
 unfold pcL
 apply List.ext_getElem (by rw [baL_len,List.length_map])
 intro j h1 h2
 simp only [baL,List.getElem_mapIdx,List.getElem_map]
 rw [if_neg (Nat.not_lt_zero _)]
theorem baL_get {C:Cg} {ties:Bool} {evs:List Ev} {n j:Nat} (h:j<evs.length):(baL C ties evs n)[j]'(by rw [baL_len];exact h)=if j<n then baE C ties j evs[j]else { evs[j]with stops:=pcS C evs[j].stops }:=by
 unfold baL;rw [List.getElem_mapIdx]
theorem baL_set {C:Cg} {ties:Bool} {evs:List Ev} {n:Nat} (h:n<evs.length):baL C ties evs (n+1)=(baL C ties evs n).set n (baE C ties n evs[n]):=by
 apply List.ext_getElem (by rw [baL_len,List.length_set,baL_len])
 intro j h1 h2
 have hj:j<evs.length:=by rw [baL_len]at h1;exact h1
 rw [baL_get hj,List.getElem_set,baL_get hj]
 by_cases e:n=j
 ·subst e
  rw [if_pos (by omega),if_pos rfl]
 ·rw [if_neg e]
  by_cases e2:j<n
  ·rw [if_pos e2,if_pos (by omega)]
  ·rw [if_neg e2,if_neg (by omega)]
def baA (C:Cg)(ties:Bool)(evs:List Ev):List Ev:=evs.mapIdx (baE C ties)
theorem baL_all (C:Cg)(ties:Bool)(evs:List Ev):baL C ties evs evs.length=baA C ties evs:=by
 unfold baA
 apply List.ext_getElem (by rw [baL_len,List.length_mapIdx])
 intro j h1 h2
 have hj:j<evs.length:=by rw [baL_len]at h1;exact h1
 rw [baL_get hj,if_pos hj,List.getElem_mapIdx]
theorem baA_nw {C:Cg} {ties:Bool} (hm:∀ y,C.mr y=y)(ht:∀ i e,C.tie i e=e.tie)(hb:∀ i,C.bare i=(decide (0<i) && ties))(evs:List Ev):baA C ties evs=nwL C evs:=by
 have hs:∀ l,pcS C l=nwS C l:=fun l=>by
  rw [nwS_pl]
  rw [List.map_congr_left (fun y _=>hm y),List.map_id']
 unfold baA nwL
 congr 1
 funext j e
 unfold baE nwE nwT
 rw [hs,ht,hb]
theorem kpS_no {C:Cg} {l:List Stp} (ha:l.Pairwise fun x y=>x.1<y.1) {x:Stp} (hx:x∈l)(h:(C.ch x).2=true):∀ z∈kpS C l,z.1≠x.1:=by
 intro z hz e
 obtain⟨a,b⟩:=List.mem_filter.1 hz
 have:=mem_crs ha a hx e
 subst this
 rw [h]at b;cases b
end
section
open Go.RowKit
def atF(F:List Stp)(c:Int):Nat→Int
 | 0=>-1
 | j+1=>match F[j]? with
  | some z=>if z.1=c then(j:Int)else atF F c j
  | none=>atF F c j
theorem atF_yes1 {F:List Stp} {c:Int} {j:Nat} (h:j<F.length)(e:F[j].1=c):atF F c (j+1)=j:=by
 show (match F[j]? with|some z=>if z.1=c then (j:Int)else atF F c j|none=>atF F c j)=_
 rw [List.getElem?_eq_getElem h]
 exact if_pos e
theorem atF_no1 {F:List Stp} {c:Int} {j:Nat} (h:j<F.length)(e:F[j].1≠c):atF F c (j+1)=atF F c j:=by
 show (match F[j]? with|some z=>if z.1=c then (j:Int)else atF F c j|none=>atF F c j)=_
 rw [List.getElem?_eq_getElem h]
 exact if_neg e
theorem atF_none {F:List Stp} {c:Int} (h:∀ z∈F,z.1≠c):∀ n,n≤F.length→atF F c n=-1
 | 0,_=>rfl
 | n+1,hn=>by
  rw [atF_no1 (show n<F.length by omega) (h _ (List.getElem_mem _))]
  exact atF_none h n zqo
theorem atF_at {F:List Stp} (ha:F.Pairwise fun x y=>x.1<y.1) {k:Nat} (hk:k<F.length):∀ n,k<n→n≤F.length→atF F F[k].1 n=k
 | 0,h,_=>absurd h (Nat.not_lt_zero _)
 | n+1,h,hn=>by
  by_cases e:n=k
  ·subst e;exact atF_yes1 hk rfl
  ·have h2:=List.pairwise_iff_getElem.1 ha k n hk (by omega) (by omega)
   rw [atF_no1 (show n<F.length by omega) (by omega)]
   exact atF_at ha hk n zqo zqo
theorem atF_kept {C:Cg} {l:List Stp} (ha:l.Pairwise fun x y=>x.1<y.1) {k:Nat} (h:k<l.length)(hc:(C.ch l[k]).2=false):atF (kpS C l) l[k].1 (kpS C l).length=((kpS C (l.take k)).length:Nat):=by
 have h1:=kp_pos h hc
 obtain⟨h2,h3⟩:=List.getElem?_eq_some_iff.1 h1
 have:=atF_at (kpS_asc ha) h2 (kpS C l).length h2 (Nat.le_refl _)
 rw [h3] at this
 exact this
theorem atF_lost {C:Cg} {l:List Stp} (ha:l.Pairwise fun x y=>x.1<y.1) {x:Stp} (hx:x∈l)(hc:(C.ch x).2=true):atF (kpS C l) x.1 (kpS C l).length=-1 :=
 atF_none (kpS_no ha hx hc) _ (Nat.le_refl _)
theorem lsL_ev {C:Cg} {H:Nat→Stp→Int} {evs:List Ev} {k:Nat} (h:k<evs.length) :
  lsL C H evs (k+1)=((lsL C H evs k++(if evs[k].stops.length=0∧evs[k].tie=true∧nwT C k evs[k]=false then [((k:Int),(0:Int),(7:Int))] else []))++(if evs[k].stops.length=0∧evs[k].tie=false∧nwT C k evs[k]=true then [((k:Int),(0:Int),(8:Int))] else []))++evs[k].stops.flatMap (lsS C H k):=by
 rw [lsL_at h]
 generalize evs[k]=e
 unfold lsE
 rw [← List.append_assoc]
 refine congrArg (·++e.stops.flatMap (lsS C H k)) ?_
 rw [List.append_assoc]
 refine congrArg (lsL C H evs k++·) ?_
 unfold lsH evT nwT
 by_cases h0:e.stops.length=0
 ·simp only [if_pos h0]
  cases e.tie<;>cases C.tie k e<;>simp [h0]
 ·simp [h0]
end
section
open Go.RowKit
section
variable {B:World→View→Prop} {gl:Nat} {P:Program} {C:Cx} {σ:St} {o:Oper} {d:Tmp} {ops:Array Oper} {rest:List Oper} {Q:Exit→St→Prop}
theorem set_same_ {α:Type} {l:List α} {i:Nat} {x:α} (h:l[i]?=some x):l.set i x=l:=by
 obtain⟨hi,rfl⟩:=List.getElem?_eq_some_iff.1 h
 exact List.set_getElem_self hi
end
end
section
open Go.RowKit
section
variable {B:World→View→Prop} {gl:Nat} {P:Program} {C:Cx} {σ σ':St} {G G':Gh} {a:Act} {w w':World} {o:Oper} {d:Tmp} {ops:Array Oper} {rest:List Oper} {Q:Exit→St→Prop}
theorem WO.stQ {T T' n:Nat} {x y:Operand} {k i j:Nat} {ob:AO} {rows:List (List AV)} {r:List AV} {av:AV} (ho:o.op=.store T x y) (hds:o.dst=none) (hn:sizeB P T=some 1) (hx:σ.ev x=some (.pt k i j)) (hk:look k σ.M=some ob) (hob:ob=.rwn T' n rows∨∃ y,ob=.rwo T' n rows i j y) (hy:σ.ev y=some av)
  (h1:av.oneB=true) (hr:rows[i]?=some r) (hj:j < r.length):WO P C o σ (σ.upd k (.rwo T' n rows i j av)):=by
 intro G a w ok N Q' hN
 obtain ⟨p,ep,p1,p2,p3⟩:=(ok.evr hx).2.pt_of
 obtain ⟨hb,hr2⟩:=ok.evr hy
 obtain ⟨hB,hcl⟩:=oneB_cells h1
 obtain ⟨c1,c2⟩:=cells_of hr2 hB
 rw [hcl] at c1 c2
 obtain ⟨v,hv⟩:∃ v,a.eval y=v:=⟨_,rfl⟩
 rw [hv] at c1 c2
 have c1':v.cells.size=1:=c1
 have hone:∀ u∈v.cells.toList,u.oneCell'=true:=fun u hu=>by
  obtain ⟨q,hq,rfl⟩:=List.getElem_of_mem hu
  have hq':q < v.cells.size:=by simpa using hq
  obtain rfl:q=0:=by omega
  exact oneB_of (c2 0 av _ rfl (by simp at hq;simp [hq])) h1
 obtain rfl:=addr_eq p1 p2 p3
 obtain ⟨hn',hg,X,hR,hXO⟩:G.n k=n∧(∀ g,(G.h k).ownBlock=some g→g=G.b k)∧∃ X,RowIs w T' n rows (G.h k) (G.fp k) X∧∀ q s χ y z,¬ (q=i∧s=j)→X q s χ y z→OW G.F w y z χ:=by
  rcases hob with e|⟨y0,e⟩
  ·subst e
   obtain ⟨q1,q2,q3⟩:=(ok.ob k _ hk).2.2
   exact ⟨q1,q2,_,q3,fun q s χ y z _ h=>h⟩
  ·subst e
   obtain ⟨q1,q2,q3⟩:=(ok.ob k _ hk).2.2
   refine ⟨q1,q2,_,q3,fun q s χ y z hne h=>?_⟩
   unfold XQ at h
   rw [if_neg hne] at h
   exact h
 obtain ⟨g,cur,hvg,hφg,hh⟩:=hR.blk (by have:=(List.getElem?_eq_some_iff.1 hr).1;omega)
 have hgb:=hg g hvg
 have hpu:putL j [r[j]] r=r:=by rw [putL_one _ _ _ hj];exact set_same_ (List.getElem?_eq_getElem hj)
 obtain ⟨q1,q2⟩:=hR.put (X':=XQ G (w.setRow g (putL (i*n+j) v.cells.toList cur.toList).toArray) i j av) hr (j:=j) (l:=[r[j]]) (by simp;omega) (us:=v.cells.toList) (by simpa using c1') hone hh hvg (fun s x u ψ hs hu=>by
  have hs0:s < 1:=by simpa using (List.getElem?_eq_some_iff.1 hs).1
  obtain rfl:s=0:=by omega
  unfold XQ
  rw [if_pos ⟨rfl,Nat.add_zero j⟩]
  exact c2 0 av u rfl (by simpa using hu)) (fun q s ψ x u hz hne h=>by
  have hn:¬ (q=i∧s=j):=fun e=>hne ⟨e.1,Nat.le_of_eq e.2.symm,by rw [e.2];exact Nat.lt_succ_self j⟩
  unfold XQ
  rw [if_neg hn]
  exact OW.keep (fun _ _ h=>h) (hXO q s ψ x u hn h) fun z hz'=>setRow_other w _ z _ (hz z hz'))
 rw [hpu,set_same_ hr] at q2
 have hle:i*G.n k+j+v.cells.toList.length≤cur.size:=by rw [hn'];exact q1
 have hst:=run_storeCells_at P g (i*G.n k+j) T' v.cells.toList 0 cur w hh (by simpa using hle) hone
 rw [Nat.add_zero,← putL_eq _ _ _ (by simpa using hle)] at hst
 unfold Oper.wp execOp
 simp only [ho,ep,hv,Instr.storeAt,Instr.sureAddr,storeVar,Sem.run_bind,Sem.run_pure,Result.andThen_ok,run_sizeB hn,← hgb,hst]
 rw [if_neg (by rw [c1'];simp)]
 simp only [Sem.run_bind,Sem.run_pure,Result.andThen_ok,hst,Oper.upon]
 rw [hds]
 refine hN G _ _ (ok.write _ hk hφg ?_ hb)
 exact ⟨hn',hg,by rw [hn'];exact q2⟩
theorem WL.stR {q n i j hi hj:Nat} {T':TypeId} {rows:List (List AV)} {r:List AV} {av:AV} {t:List (Nat×AV)} {M M':List (Nat×AO)} {nk:Nat} (hg:o.guard=none) (hds:o.dst=none) (h:stRV P ⟨t,M,nk⟩ o.op=some (q,T',n,rows,i,j,hi,hj,av)) (e1:hi=i) (e2:hj=j) (hM:remS q M=some M') (hr:rows[i]?=some r) (hjr:j < r.length)
  (k:WL P C ops rest ⟨t,(q,.rwo T' n rows i j av)::M',nk⟩ Q):WL P C ops (o::rest) ⟨t,M,nk⟩ Q:=by
 rw [remS_eq hM] at k
 subst e1 e2
 clear hM
 refine WL.op hg ?_ k
 unfold stRV at h
 split at h
 ·rename_i T x y ho
  split at h
  ·rename_i k' i' j' av' hx hy
   split at h
   ·rename_i T2 n' rows' hi' hj' y' hm hk
    cases hb:av'.oneB with
    | false=>rw [hb] at h;cases h
    | true =>
     rw [hb] at h
     cases h
     exact wo_rem (WO.stQ (σ:=⟨t,M,nk⟩) ho hds hm hx hk (.inr ⟨_,rfl⟩) hy hb hr hjr)
   ·cases h
  ·cases h
 ·cases h
theorem DK.ldQ {rows:List (List AV)} {i j hi hj:Nat} {r:List AV} {av:AV} (hd:dstD C.N ops σ o=some d)(h:ldqV P (σ.only (o.looksAt ops)) o.op=some (rows,i,j,hi,hj,av))(e1:i=hi)(e2:j=hj)(hr:rows[i]?=some r)(hjr:j<r.length)(k:DK P C ops rest (σ.put d av) Q):DK P C ops (o::rest) σ Q:=DK.vl hd (ldqV_O h e1 e2 hr hjr) k
end
end
section
open Go.RowKit
section
variable {B:World→View→Prop} {gl:Nat} {P:Program} {C:Cx} {σ:St} {o:Oper} {d:Tmp} {av:AV} {ops:Array Oper} {rest l:List Oper} {Q:Exit→St→Prop} {mem:List Bool} {Mc McB:List (Nat×AO)} {e0 nk0 k:Nat}
theorem WL.stW {q n i j:Nat} {T':TypeId} {rows:List (List AV)} {r:List AV} {av:AV} {t:List (Nat×AV)} {M M':List (Nat×AO)} {nk:Nat} (hg:o.guard=none) (hds:o.dst=none) (h:stQV P ⟨t,M,nk⟩ o.op=some (q,T',n,rows,i,j,av)) (hM:remS q M=some M') (hr:rows[i]?=some r) (hj:j+1≤r.length) (hp:av.pu0=true)
  (k:WL P C ops rest ⟨t,(q,.rwn T' n (rows.set i (putL j [av] r)))::M',nk⟩ Q):WL P C ops (o::rest) ⟨t,M,nk⟩ Q:=by
 rw [remS_eq hM] at k
 clear hM
 refine WL.op hg ?_ k
 unfold stQV at h
 split at h
 ·rename_i T x y ho
  split at h
  ·rename_i k' i' j' av' hx hy
   split at h
   ·rename_i T2 n' rows' hm hk
    cases hb:av'.oneB with
    | false=>rw [hb] at h;cases h
    | true =>
     rw [hb] at h
     cases h
     obtain ⟨hB,hcl⟩:=oneB_cells hb
     refine wo_rem (WO.store (σ:=⟨t,M,nk⟩) ho hds hm hx hk hy hB hcl rfl (by simp [hb]) ?_)
     simp only [AO.put,hr]
     rw [if_pos ⟨by simpa using hj,by simp [hp]⟩]
   ·cases h
  ·cases h
 ·cases h
end
end
section
open Go.RowKit
section
variable {P:Program} {C:Cx} {σ:St}
theorem OW.nil_ (F:View) (w:World) (T n:Nat) (φ:Nat→Prop):OW F w (.ow T n []) (.slice none 0 0) φ :=
 RowIs.ow ⟨by simp,[],fun _ _ _=>False,⟨by simp,.inl ⟨rfl,rfl⟩⟩,rfl,by simp,(fun g hg=>by cases hg),fun _ _ _ h=>h.elim,fun _ _ _ _ _ h=>h.elim,fun i r r' h=>by simp at h,fun i r r' j av u h=>by simp at h⟩
theorem Tr.nilOw (k:Nat) {T m:Nat} (T' n':Nat) (hk:look k σ.M=some (.row T 1 (List.replicate m [.sc (.slice none 0 0)]))):Tr C σ (σ.upd k (.rwn T 1 (List.replicate m [.ow T' n' []]))):=fun G a w ok=>by
 obtain ⟨g1,g2,g3,g4,q1,vs,Φ,q2,q3,q4,q5,q6,q7,q8,q9⟩:=ok.ob k _ hk
 refine ⟨G,ok.reob hk ⟨g1,trivial,g3,g4,?_⟩⟩
 have hat:∀ i r,(List.replicate m [AV.ow T' n' []])[i]?=some r→r=[AV.ow T' n' []]∧(List.replicate m [AV.sc (.slice none 0 0)])[i]?=some [AV.sc (.slice none 0 0)]:=fun i r h=>by
  obtain ⟨hl,he⟩:=List.getElem?_eq_some_iff.1 h
  rw [List.getElem_replicate]at he
  have hl2:i<m:=by simpa using hl
  exact ⟨he.symm,by rw [List.getElem?_replicate,if_pos hl2]⟩
 refine ⟨fun r hr=>by rw [List.eq_of_mem_replicate hr];rfl,vs,Φ,q2,by rw [q3];simp,q4,q5,q6,q7,fun i r v hr hv=>?_,fun i r v j av u hr hv hj hu=>?_⟩
 ·obtain ⟨rfl,h2⟩:=hat i r hr
  have:=q8 i _ v h2 hv
  exact this
 ·obtain ⟨rfl,h2⟩:=hat i r hr
  match j,hj with
  | 0,hj =>
   cases hj
   have:=(q9 i _ v 0 _ u h2 hv rfl hu).sc_eq
   rw [this];exact OW.nil_ _ _ _ _ _
  | j+1,hj=>simp at hj
variable {ops:Array Oper} {o:Oper} {rest:List Oper} {d:Tmp} {Q:Exit→St→Prop}
theorem WL.lda {T:TypeId} {rows:List (List AV)} {i j:Nat} {r:List AV} {av:AV} (hd:dstB C.N o=some d)(h:ldaV P σ o.op=some (T,rows,i,j))(hi:rows[i]?=some r)(ht:takeO P T (r.drop j)=some av)(k:WL P C ops rest (σ.put d av) Q):WL P C ops (o::rest) σ Q:=WL.vl hd (ldaV_of h hi ht) k
end
end
section
open Go.RowKit
theorem rtC_ch (cs0 cs:List (Int×Int×Bool))(st:List Int)(c:Int)(x:Stp):((rtC cs0 cs st c).ch x).1.1=x.1∧((rtC cs0 cs st c).ch x).1.2.2=x.2.2:=by
 show (if x.1=c then rtF cs0 cs st c x else (x,false)).1.1=x.1∧(if x.1=c then rtF cs0 cs st c x else (x,false)).1.2.2=x.2.2
 split
 ·unfold rtF
  split<;>exact⟨rfl,rfl⟩
 ·exact⟨rfl,rfl⟩
end
section
open Go.RowKit
def bgE(e:Ev):Ev:={ e with stops:=[] }
theorem Tr.nilOwJ {C:Cx} {σ:St} (k j:Nat) {T n:Nat} {rows:List (List AV)} (T' n':Nat) (hk:look k σ.M=some (.row T n rows)) (hj:∀ r∈rows,r[j]?=some (.sc (.slice none 0 0))) :
  Tr C σ (σ.upd k (.rwn T n (rows.map fun r=>r.set j (.ow T' n' [])))):=fun G a w ok=>by
 obtain ⟨g1,g2,g3,g4,q1,vs,Φ,q2,q3,q4,q5,q6,q7,q8,q9⟩:=ok.ob k _ hk
 refine ⟨G,ok.reob hk ⟨g1,trivial,g3,g4,?_⟩⟩
 have hat:∀ (i:Nat)r,(rows.map fun r=>r.set j (.ow T' n' []))[i]?=some r→∃ r0,rows[i]?=some r0∧r=r0.set j (.ow T' n' []):=fun i r h=>by
  rw [List.getElem?_map]at h
  cases h0:rows[i]? with
  | none=>rw [h0]at h;cases h
  | some r0=>rw [h0]at h;cases h;exact ⟨r0,rfl,rfl⟩
 refine ⟨fun r hr=>?_,vs,Φ,q2,by rw [q3,List.length_map],q4,q5,q6,q7,fun i r v hr hv=>?_,fun i r v j' av u hr hv hj' hu=>?_⟩
 ·obtain ⟨r0,h0,rfl⟩:=List.mem_map.1 hr
  rw [List.length_set];exact q1 r0 h0
 ·obtain ⟨r0,h0,rfl⟩:=hat i r hr
  rw [List.length_set];exact q8 i r0 v h0 hv
 ·obtain ⟨r0,h0,rfl⟩:=hat i r hr
  have hm:=hj r0 (List.mem_of_getElem? h0)
  by_cases e:j=j'
  ·subst e
   rw [List.getElem?_set_self (by exact (List.getElem?_eq_some_iff.1 hm).1)]at hj'
   cases hj'
   have:=(q9 i r0 v j _ u h0 hv hm hu).sc_eq
   rw [this];exact OW.nil_ _ _ _ _ _
  ·rw [List.getElem?_set_ne e]at hj'
   exact .pu _ _ _ (q9 i r0 v j' _ u h0 hv hj' hu)
def eEvN (e:Ev):List AV:=[.sc (.bool e.bar),.sc (.int .i64 e.val),.sc (.bool e.dot),.sc (.bool e.three),.sc (.bool e.tie),.sc (.slice none 0 0)]
theorem eEvN_set (l:List Ev):((l.map eEvN).map fun r=>r.set 5 (.ow 48 5 []))=(l.map bgE).map eEvO:=by
 rw [List.map_map,List.map_map];rfl
def eFr (l:List Stp):List AV:=[.ow 48 5 (l.map eStp)]
theorem bg_G (p:Pce) (hO:PcOk p) (cs:List (Int×Int×Bool)) (st:List Int) (h1:cs.length≤64) (h2:st.length≤64) :
  Cto truB 0 Tryz.prog 59 [ePce p,.ag [.ls 3 (cs.map eCrs),.ls 1 (st.map eInt)]] [] 0 (.ag [.ls 3 (cs.map eCrs),.ls 1 (st.map eInt),.sl 0,.sl 1])
   [(0,.rwn 45 6 ((p.evs.map bgE).map eEvO)),(1,.rwn 43 1 ((p.evs.map fun _=>([]:List Stp)).map eFr)),(2,.box 100 [.ls 3 (cs.map eCrs),.ls 1 (st.map eInt),.sl 0,.sl 1])] 3:=by
 have hC:Ctr Tryz.prog 35 [.ag [.ls 3 (cs.map eCrs),.ls 1 (st.map eInt)]] (.ag [.ls 3 (cs.map eCrs),.ls 1 (st.map eInt)]):=insCopy_FS cs st h1 h2
 have hPe:ePce p=.ag [.ls 3 (p.cs.map eCrs),.ls 1 (p.st.map eInt),.ls 6 (p.evs.map eEv)]:=rfl
 have hn:=hO.n3
 rw [hPe]
 have hEv:∀ k (h:k < p.evs.length),(p.evs.map eEv)[((k:Nat):Int).toNat]?=some [.sc (.bool p.evs[k].bar),.sc (.int .i64 p.evs[k].val),.sc (.bool p.evs[k].dot),.sc (.bool p.evs[k].three),.sc (.bool p.evs[k].tie),.ls 5 (p.evs[k].stops.map eStp)]:=fun k h=>by
  rw [Int.toNat_natCast,List.getElem?_map,List.getElem?_eq_getElem h];rfl
 have hEl:(p.evs.map eEv).length=p.evs.length:=List.length_map _
 obtain ⟨EV,hEV⟩:∃ z,p.evs.map eEv=z:=⟨_,rfl⟩
 rw [hEV] at hEv hEl ⊢
 refine Cto.intro truS Tryz.func59 rfl Tryz.ntmps59 (Nat.le_of_ble_eq_true rfl) rfl fun w0 F0 fp pg hB=>?_
 dsimp only [number,Nat.reduceAdd]
 repeat refine W.go rfl ?_
 refine (?_:WL _ _ _ _ _ _)
 refine WL.vl rfl (zqc Tryz.func35 hC) ?_
 repeat (first|refine W.go rfl ?_|refine WL.ev rfl ?_)
 refine (?_:W _ _ _ _ _)
 refine W.tr (Tr.nilBox (k:=3) (j:=2) 45 6 rfl rfl rfl rfl) ?_
 refine W.tr (Tr.nilBox (k:=3) (j:=3) 43 1 rfl rfl rfl rfl) ?_
 dsimp only [St.put,St.new,St.upd,Nat.reduceAdd]
 refine W.loop (fun k:Nat=>k≤p.evs.length) (fun k=>⟨[(2,.pt 0 0 0),(4,.pt 2 0 0),(5,.pt 3 0 0),(6,.sc (.int .i64 k))],[(0,.box 29 [.ls 3 (p.cs.map eCrs),.ls 1 (p.st.map eInt),.ls 6 EV]),(2,.box 100 [.sc (.slice none 0 0),.sc (.slice none 0 0),.sc (.slice none 0 0),.sc (.slice none 0 0)]),(3,.box 100 [.ls 3 (cs.map eCrs),.ls 1 (st.map eInt),.sl 4,.sl 5]),(4,.row 45 6 ((p.evs.take k).map eEvN)),(5,.row 43 1 (List.replicate k [.sc (.slice none 0 0)]))],6⟩) (fun k=>p.evs.length - k) 0 zqo (zqt id) fun k hk=>?_
 by_cases hlt:k < p.evs.length
 ·have hr1:(p.evs.take k).map eEvN++[eEvN p.evs[k]]=(p.evs.take (k+1)).map eEvN:=by
   rw [List.take_succ_eq_append_getElem hlt,List.map_append];rfl
  have hr2:List.replicate k [AV.sc (.slice none 0 0)]++[[AV.sc (.slice none 0 0)]]=List.replicate (k+1) [AV.sc (.slice none 0 0)]:=by rw [List.replicate_succ']
  have l1:((p.evs.take k).map eEvN).length=k:=by rw [List.length_map,List.length_take];omega
  have l2:(List.replicate k [AV.sc (.slice none 0 0)]).length=k:=List.length_replicate
  obtain ⟨R1,hR1⟩:∃ z,(p.evs.take k).map eEvN=z:=⟨_,rfl⟩
  obtain ⟨R2,hR2⟩:∃ z,List.replicate k [AV.sc (.slice none 0 0)]=z:=⟨_,rfl⟩
  rw [hR1] at hr1 l1 ⊢
  rw [hR2] at hr2 l2 ⊢
  clear hR1 hR2
  have hat:=hEv k hlt
  have hr1':R1++[[.sc (.bool p.evs[k].bar),.sc (.int .i64 p.evs[k].val),.sc (.bool p.evs[k].dot),.sc (.bool p.evs[k].three),.sc (.bool p.evs[k].tie),.sc (.slice none 0 0)]]=(p.evs.take (k+1)).map eEvN:=hr1
  repeat (first|refine W.gob rfl ?_|refine WL.nil ?_|refine WL.bt rfl rfl rfl zqo ?_|refine WL.e1 rfl ?_|refine WL.len rfl rfl zql ?_|refine W.condT rfl ?_)
  refine (?_:WL _ _ _ _ _ _)
  refine WL.idx rfl rfl zqo hat ?_
  repeat (first|refine W.gob rfl ?_|refine WL.nil ?_|refine WL.e1 rfl ?_|refine WL.ar rfl rfl z49i ?_|refine WL.app rfl rfl rfl zqs ?_)
  exact ⟨k+1,by omega,by omega,(zqu (fun q=>bif Nat.beq q 4 then 8 else bif Nat.beq q 5 then 10 else q) (by repeat (first|exact trivial|refine ⟨⟨?_,?_,?_⟩,?_⟩|rfl|exact congrArg (fun q=>some (AO.row _ _ q)) hr1'|exact congrArg (fun q=>some (AO.rwn _ _ q)) hr1'|exact congrArg (fun q=>some (AO.row _ _ q)) hr2|exact congrArg (fun q=>some (AO.rwn _ _ q)) hr2)) rfl)⟩
 ·obtain rfl:k=p.evs.length:=by omega
  rw [List.take_length]
  have hs:=eEvN_set p.evs
  have hj:∀ r∈p.evs.map eEvN,r[5]?=some (.sc (.slice none 0 0)):=fun r hr=>by
   obtain ⟨e,_,rfl⟩:=List.mem_map.1 hr;rfl
  have hrep:List.replicate p.evs.length [AV.ow 48 5 []]=(p.evs.map fun _=>([]:List Stp)).map eFr:=by
   rw [List.map_map]
   exact (List.map_const' ..).symm.trans (List.map_congr_left fun _ _=>rfl)
  obtain ⟨RN,hRN⟩:∃ z,p.evs.map eEvN=z:=⟨_,rfl⟩
  rw [hRN] at hs hj ⊢
  rw [← hs,← hrep]
  repeat (first|refine W.gob rfl ?_|refine WL.nil ?_|refine WL.bf rfl rfl rfl zqo ?_|refine WL.e1 rfl ?_|refine WL.len rfl rfl zql ?_|refine W.condF rfl ?_)
  refine (?_:W _ _ _ _ _)
  refine W.tr (Tr.nilOwJ 4 5 48 5 rfl hj) ?_
  refine W.tr (Tr.nilOw 5 48 5 rfl) ?_
  dsimp only [St.upd]
  refine W.tr (σ':=⟨[(4,.pt 2 0 0)],[(0,.rwn 45 6 (RN.map fun r=>r.set 5 (.ow 48 5 []))),(1,.rwn 43 1 (List.replicate p.evs.length [.ow 48 5 []])),(2,.box 100 [.ls 3 (cs.map eCrs),.ls 1 (st.map eInt),.sl 0,.sl 1])],3⟩) (zqt (fun q=>bif Nat.beq q 0 then 4 else bif Nat.beq q 1 then 5 else bif Nat.beq q 2 then 2 else q)) ?_
  exact W.ret (finM rfl rfl rfl rfl rfl)
end
end Go.Proofs.YtaeelcfjkhfpkaaGreat
