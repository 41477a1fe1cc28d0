/- Check of an instrument: the program. -/
import Derived.Test.YthohlofpphjofaaGreatDoorEMGq
import Derived.Test.YthohlofpphjofaaGreatDoorPl4Gq
set_option maxHeartbeats 1600000
set_option maxRecDepth 100000
set_option linter.unusedVariables false
set_option linter.unusedSimpArgs false
namespace Go.Proofs.YthohlofpphjofaaGreatDoor
theorem Qp {p:Prop}(h:p:=by simpa using h2):p:=h
theorem U2 {p:Prop}(h:p:=by
 clear hs2 hn3
 exact afi):p:=h
theorem aep {p:Prop}(h:p:=by
 rw [World.cell?_alloc_lt _ _ _ (by rw [block_of_add];omega),hc]):p:=h
theorem afn {p:Prop}(h:p:=by
 clear hn1 hn2 hI
 go_enter Tryz.func103,Tryz.ntmps103
 go_wp2
 go_ret
 exact Ret.mk' rfl jD):p:=h
theorem afi {p:Prop}(h:p:=by
 go_wp2
 go_ret
 exact Ret.mk' (by rw [HE3.out];rfl) jD):p:=h
section
open Go.RowKit
def tailB (ops:Array Oper)(k0:Nat):Bool:=Nat.ble k0 ops.size &&
 ((List.range ops.size).all fun j=>Nat.blt j k0|| (List.range j).all fun i=>needs ops i ops.size j) &&
 ((List.range k0).all fun j=>match ops[j]? with
  | some o=>match o.guard with
   | some (g,_)=>Nat.blt g k0
   | none=>true
  | none=>true)
section
variable {P:Program} {ops:Array Oper} {Q Q1:Exit→Act→World→Prop}
theorem Oper.wp_post {o:Oper} {a:Act} {w:World} {K K':Act→World→Prop} (hK:∀ a w,K a w→K' a w)(hQ:∀ e a w,e≠.normal→Q1 e a w→Q e a w)(h:o.wp P a w K Q1):o.wp P a w K' Q:=by
 unfold Oper.wp at *
 generalize (execOp a.eval o).run P w=r at *
 have lets:LetsOut Q1→LetsOut Q:=fun⟨a,w,q⟩=>⟨a,w,hQ _ _ _ (by simp) q⟩
 unfold Oper.upon at *
 grind[Calls.mono,Rows.mono]
theorem yielded_app {l s:List Oper} {t:Array Value} {g:Nat} (h:g<l.length):yielded (l++s).toArray t g=yielded l.toArray t g:=by
 simp_all[yielded,sS]
theorem wpAny_tail (FA:∀ j oj,ops[j]?=some oj→∀ e∈oj.after,Region.binds .any e=true→e.on<j) {k0:Nat} (hT:∀ j,k0≤j→j<ops.size→∀ i,i<j→needs ops i ops.size j=true) :
  ∀ (f m fuel:Nat) (listed:Array Bool) (a:Act) (w:World),m+f=ops.size→k0≤m→listed.size=ops.size→(∀ i,i<ops.size→listed.getD i false=decide (i<m))→f≤fuel→wpList P ops Q (ops.toList.drop m) a w→wpAny P .any ops Q fuel listed a w:=by
 intro f
 induction f with
 | zero =>
  intro m fuel listed a w hm hk hsz hl hf h
  have hr:Region.ready .any ops listed=[]:=by
   apply List.eq_nil_iff_forall_not_mem.2
   grind[mem_ready]
  have hd:ops.toList.drop m=[]:=qN (by simp;omega)
  rw [hd] at h
  cases fuel with
  | zero=>exact ⟨hr,h⟩
  | succ fuel=>exact ⟨fun _=>h,fun i hi=>by simp_all⟩
 | succ f ih =>
  intro m fuel listed a w hm hk hsz hl hf h
  obtain ⟨fuel,rfl⟩:∃ q,fuel=q+1:=⟨fuel-1,by omega⟩
  have hlt:m<ops.size:=by omega
  have hom:ops[m]?=some ops[m]:=pq hlt
  have hrm:m∈Region.ready .any ops listed:=mem_ready.2 ⟨by
   simp_all,_,hom,fun e he hb=>by
   grind⟩
  have hd:ops.toList.drop m=ops[m]::ops.toList.drop (m+1):=by
   rw [kV (by simpa using hlt)];simp
  rw [hd] at h
  refine ⟨fun hr=>(by rw [hr] at hrm;cases hrm),fun i hi=>?_⟩
  have him:m=i:=by
   obtain ⟨h1,oi,h2,h3⟩:=mem_ready.1 hi
   have hi2:=(Array.getElem?_eq_some_iff.1 h2).1
   have e1:listed.getD i true=listed.getD i false:=by simp [bV,hsz,hi2]
   rw [e1,hl i hi2] at h1
   have hge:m≤i:=by simpa using h1
   by_cases e:m=i
   ·exact e
   ·have:=needs_ready (listed:=listed) (fun j oj ho hj e he hb=>by
      have h5:=FA j oj ho e he hb
      have hjs:=(Array.getElem?_eq_some_iff.1 ho).1
      rw [hl j hjs] at hj
      rw [hl _ (by omega)]
      have h6:=nC hj
      exact fQ aj) h2 h3 _ (hT i aj hi2 m aj)
    rw [hl m hlt] at this
    simp at this
  subst him
  have step:∀ a w,wpList P ops Q (ops.toList.drop (m+1)) a w→wpAny P .any ops Q fuel (listed.setIfInBounds m true) a w:=fun a w hw =>
   ih (m+1) fuel _ a w (by omega) (by omega) Jq (fun q hq=>by
    by_cases e:m=q
    ·subst e
     simp [bV,hsz,hlt]
    ·have h7:(listed.setIfInBounds m true).getD q false=listed.getD q false:=by simp [bV,nD e]
     rw [h7,hl q hq]
     have:(q<m)↔(q<m+1):=by omega
     simp [this]) (by omega) hw
  grind[wpOp,wpList,Oper.wp_mono]
theorem wpAny_app {l s:List Oper} (FA:∀ j oj,(l++s).toArray[j]?=some oj→∀ e∈oj.after,Region.binds .any e=true→e.on<j) (hT:∀ j,l.length≤j→j<(l++s).toArray.size→∀ i,i<j→needs (l++s).toArray i (l++s).toArray.size j=true)
  (hg:∀ (j:Nat) o g b,l[j]?=some o→o.guard=some (g,b)→g<l.length) (hN:∀ a w,Q1 .normal a w→wpList P (l++s).toArray Q s a w) (hQ:∀ e a w,e≠.normal→Q1 e a w→Q e a w) :
  ∀ (fuel:Nat) (la lb:Array Bool) (a:Act) (w:World),la.size=l.length→lb.size=(l++s).length→(∀ i,i<l.length→lb.getD i false=la.getD i false)→(∀ i,l.length≤i→i<(l++s).length→lb.getD i false=false) →
   (∀ j oj,l[j]?=some oj→la.getD j false=true→∀ e∈oj.after,Region.binds .any e=true→la.getD e.on false=true) →
   wpAny P .any l.toArray Q1 fuel la a w→wpAny P .any (l++s).toArray Q (fuel+s.length) lb a w:=by
 have opl:∀ {j:Nat},j<l.length→(l++s).toArray[j]?=l[j]?:=fun h=>by grind
 have FAl:∀ j oj,l[j]?=some oj→∀ e∈oj.after,Region.binds .any e=true→e.on<j:=fun j oj ho=>FA j oj ((opl (List.getElem?_eq_some_iff.1 ho).1).trans ho)
 have fin:∀ (fuel:Nat) (la lb:Array Bool) (a:Act) (w:World),la.size=l.length→lb.size=(l++s).length→(∀ i,i<l.length→lb.getD i false=la.getD i false)→(∀ i,l.length≤i→i<(l++s).length→lb.getD i false=false) →
   Region.ready .any l.toArray la=[]→Q1 .normal a w→wpAny P .any (l++s).toArray Q (fuel+s.length) lb a w:=by
  intro fuel la lb a w h1 h2 h3 h4 hr hq
  have hall:∀ n i,i<n→i<l.length→la.getD i false=true:=by
   intro n
   induction n with
   | zero=>intro i h;omega
   | succ n ih =>
    intro i hi hlt
    by_cases e:i<n
    ·exact ih i e hlt
    ·cases hli:la.getD i false with
     | true=>rfl
     | false =>
      have hoi:l.toArray[i]?=some l[i]:=by simp [hlt]
      have:i∈Region.ready .any l.toArray la:=mem_ready.2 ⟨by
       have:la.getD i true=la.getD i false:=by simp [bV,h1,hlt]
       rw [this];exact hli,l[i],hoi,fun e he hb=>by
        have:=FAl i l[i] (by simp [hlt]) e he hb
        exact ih e.on aj aj⟩
      rw [hr] at this;cases this
  refine wpAny_tail FA hT s.length l.length _ lb a w (by simp) (Nat.le_refl _) Qp (fun i hi=>?_) (by omega) ?_
  all_goals grind
 intro fuel
 induction fuel with
 | zero =>
  intro la lb a w h1 h2 h3 h4 _ h
  exact fin 0 la lb a w h1 h2 h3 h4 h.1 h.2
 | succ fuel ih =>
  intro la lb a w h1 h2 h3 h4 hcl h
  obtain ⟨hn,hs⟩:=h
  by_cases hr:Region.ready .any l.toArray la=[]
  ·exact fin (fuel+1) la lb a w h1 h2 h3 h4 hr (hn hr)
  ·obtain ⟨j0,hj0⟩:=List.exists_mem_of_ne_nil _ hr
   obtain ⟨u1,o0,u2,u3⟩:=mem_ready.1 hj0
   have hj0l:j0<l.length:=by have:=(Array.getElem?_eq_some_iff.1 u2).1;simpa using this
   have hj0n:j0<(l++s).length:=by simp;omega
   have u1':la.getD j0 false=false:=by
    have:la.getD j0 true=la.getD j0 false:=by simp [bV,h1,hj0l]
    rw [← this];exact u1
   have hcl2:∀ j oj,(l++s).toArray[j]?=some oj→lb.getD j false=true→∀ e∈oj.after,Region.binds .any e=true→lb.getD e.on false=true:=by
    intro j oj ho hj e he hb
    have hjn:j<(l++s).length:=by have:=(Array.getElem?_eq_some_iff.1 ho).1;simpa using this
    by_cases e2:j<l.length
    ·have ho':l[j]?=some oj:=(opl e2).symm.trans ho
     have:=FAl j oj ho' e he hb
     rw [h3 _ (by omega)]
     rw [h3 _ e2] at hj
     exact hcl j oj ho' hj e he hb
    ·rw [h4 j (by omega) hjn] at hj;cases hj
   rw [show fuel+1+s.length=(fuel+s.length)+1 by omega]
   have hmem:∀ i,i∈Region.ready .any (l++s).toArray lb→i<l.length∧i∈Region.ready .any l.toArray la:=by
    intro i hi
    obtain ⟨v1,oi,v2,v3⟩:=mem_ready.1 hi
    have hin:i<(l++s).toArray.size:=(Array.getElem?_eq_some_iff.1 v2).1
    have hil:i<l.length:=by
     by_cases e:i<l.length
     ·exact e
     ·have:=needs_ready (listed:=lb) hcl2 v2 v3 _ (hT i aj hin j0 aj)
      rw [h3 _ hj0l,u1'] at this;cases this
    have v2':l.toArray[i]?=some oi:=by rw [opl hil] at v2;simpa using v2
    refine ⟨hil,mem_ready.2 ⟨?_,oi,v2',fun e he hb=>?_⟩⟩
    ·have q1:lb.getD i true=lb.getD i false:=by simp [bV,show i<lb.size by rw [h2];simpa using hin]
     have q2:la.getD i true=la.getD i false:=by simp [bV,h1,hil]
     rw [q2,← h3 i hil,← q1];exact v1
    ·have:=FA i oi v2 e he hb
     rw [← h3 _ (by omega)];exact v3 e he hb
   refine ⟨fun hr2=>?_,fun i hi=>?_⟩
   ·have:j0∈Region.ready .any (l++s).toArray lb:=mem_ready.2 ⟨by
     have:lb.getD j0 true=lb.getD j0 false:=by simp [bV,show j0<lb.size by rw [h2];exact hj0n]
     rw [this,h3 _ hj0l];exact u1',o0,by rw [opl hj0l];simpa using u2,fun e he hb=>by
      have:=FAl j0 o0 (by simpa using u2) e he hb
      rw [h3 _ (by omega)];exact u3 e he hb⟩
    rw [hr2] at this;cases this
   ·obtain ⟨hil,hia⟩:=hmem i hi
    obtain ⟨v1,oi,v2,v3⟩:=mem_ready.1 hia
    have hli:l[i]?=some oi:=by simpa using v2
    have h:=hs i hia
    have hob:(l++s).toArray[i]?=some oi:=(opl hil).trans hli
    have hset:∀ q,i≠q→∀ (x:Array Bool),(x.setIfInBounds i true).getD q false=x.getD q false:=fun q e x=>by simp [bV,nD e]
    have step:∀ a w,wpAny P .any l.toArray Q1 fuel (la.setIfInBounds i true) a w→wpAny P .any (l++s).toArray Q (fuel+s.length) (lb.setIfInBounds i true) a w:=fun a w k =>
     ih _ _ a w pz Qp (fun q hq=>by
      by_cases e:i=q
      ·subst e;simp [bV,h1,h2,hil];omega
      ·rw [hset q e,hset q e];exact h3 q hq) (fun q hq hq2=>by rw [hset q (by omega)];exact h4 q hq hq2)
      (fun q oq hoq hq e he hb=>by
       have mono:∀ x,la.getD x false=true→(la.setIfInBounds i true).getD x false=true:=fun x hx=>by
        by_cases e:i=x
        ·subst e;simp [bV,h1,hil]
        ·rw [hset x e];exact hx
       by_cases e2:i=q
       ·subst e2
        rw [hli] at hoq;cases hoq
        exact mono _ (v3 e he hb)
       ·rw [hset q e2] at hq
        exact mono _ (hcl q oq hoq hq e he hb)) k
    unfold wpOp at h ⊢
    simp only [v2] at h
    simp only [hob]
    have hwant:Region.wanted oi (yielded (l++s).toArray a.tmps)=Region.wanted oi (yielded l.toArray a.tmps):=by
     cases hgd:oi.guard with
     | none=>simp [Region.wanted,hgd]
     | some gb =>
      obtain ⟨g,b⟩:=gb
      simp [Region.wanted,hgd,yielded_app (hg i oi g b hli hgd)]
    rw [hwant]
    by_cases hw:Region.wanted oi (yielded l.toArray a.tmps)=true
    ·rw [if_pos hw] at h ⊢
     rcases h with h|⟨h,hl⟩
     ·exact .inl (Oper.wp_post step hQ h)
     ·exact .inr ⟨h,let ⟨a,w,q⟩:=hl;⟨a,w,hQ _ _ _ (by simp) q⟩⟩
    ·rw [if_neg hw] at h ⊢
     exact step _ _ h
end
section
variable {P:Program} {C:Cx} {σ:St} {Q:Exit→St→Prop}
theorem W.drawT {id:Nat} {L:List Oper} (k0:Nat) (hm:P.follows .mixedOrders=true) (hB:Region.lexB .any L.toArray=true) (hT:tailB L.toArray k0=true)
  (h:WA P C (L.take k0).toArray σ (fun e s=>e=.normal∧WL P C L.toArray (L.drop k0) s Q)):W P C (.region id L.toArray true) σ Q:=by
 refine W.of_wa hm fun G a w ok=>?_
 obtain ⟨l,hl⟩:∃ l,L.take k0=l:=⟨_,rfl⟩
 obtain ⟨s,hs⟩:∃ s,L.drop k0=s:=⟨_,rfl⟩
 have hL:L=l++s:=by grind[Fb]
 rw [hl,hs] at h
 simp only [Region.lexB,dw] at hB
 obtain ⟨FA,_⟩:=lex_facts (ops:=L.toArray) L.toArray.size 0 (Array.replicate L.toArray.size false) (by simp) (by simp) (fun i hi=>by simp_all) hB.2
 simp only [tailB,dw] at hT
 obtain ⟨⟨T0,T1⟩,T2⟩:=hT
 have hk:l.length≤k0:=by grind
 by_cases hkL:k0≤L.length
 ·have hlk:l.length=k0:=by rw [← hl];simp;omega
  subst hL
  have:=wpAny_app (P:=P) (Q:=Post C Q) (Q1:=Post C (fun e s'=>e=.normal∧WL P C (l++s).toArray s s' Q)) (l:=l) (s:=s) (fun j oj ho=>FA j oj (dD _) ho)
   (fun j hj hjn i hij=>by
    have q:=List.all_eq_true.1 T1 j (List.mem_range.2 hjn)
    have e:Nat.blt j k0=false:=by
     cases hb:Nat.blt j k0 with
     | false=>rfl
     | true=>have:=of_blt hb;omega
    rw [e,E5] at q
    exact List.all_eq_true.1 q i (List.mem_range.2 hij))
   (fun j o g b ho hgd=>by
    have hj:j<l.length:=(List.getElem?_eq_some_iff.1 ho).1
    have q:=List.all_eq_true.1 T2 j (List.mem_range.2 aj)
    rw [show (l++s).toArray[j]?=some o by simp [sS hj,ho]] at q
    simp only [hgd] at q
    have:=of_blt q
    omega)
   (fun a w ⟨s',G',⟨_,q⟩,o⟩=>q G' a w o)
   (fun e a w he ⟨s',G',⟨q,_⟩,o⟩=>absurd q he)
   l.length (Array.replicate l.length false) (Array.replicate (l++s).length false) a _ (by simp) (by simp) (fun i hi=>by rw [rep_getD,rep_getD]) (fun i _ _=>rep_getD _ _)
   (fun j oj _ hj=>by rw [rep_getD] at hj;cases hj) (by simpa using h G a w ok)
  exact jy
 simp_all
end
theorem NM (A1 A2:Option Addr) (cs:List (Int×Int×Bool)) (st:List Int) (n1 n2 c1 c2 B:Nat) (p f:Int) (o:Bool) (w:World) (hI:gV w B A1 A2 cs st) (hB:B≤w.heap.size)
  (hn2:n2=st.length) (hp:0≤p∧p≤127) (hf:0≤f∧f≤st.length) (hl:st.length≤18) (hst:∀ k (h:k < st.length),1≤st[k]∧st[k]≤127) :
  Calls Tryz.prog 171 #[.agg #[.slice A1 n1 c1,.slice A2 n2 c2],.agg #[.int .i64 p,.int .i64 f,.bool o]] w (Ret (.int .i64 (uF st (p,f,o))) w):=by
 by_cases hz:0 < f
 ·obtain ⟨k,rfl⟩:∃ k:Nat,f=(k:Int)+1:=⟨f.toNat - 1,by omega⟩
  have hk:k < st.length:=by omega
  obtain ⟨ad,rfl,hb,hc⟩:=hI.step hk
  have hbd:=hst k hk
  obtain ⟨x,hx⟩:∃ x,st[k]=x:=⟨_,rfl⟩
  rw [hx] at hc hbd
  have hc2:∀ o o':Obj,((w.alloc o).alloc o').cell? (ad.add k)=some (.int .i64 x):=fun o o'=>by
   exact ads
  clear hc
  have e:uF st (p,(k:Int)+1,o)=p+x+if o then 12 else 0:=by
   unfold uF
   simp only [if_pos hz]
   have:((k:Int)+1).toNat - 1=k:=by omega
   rw [this,dI,aB hk,hx];rfl
  rw [e]
  have hk2:k < n2:=by omega
  clear e hx hst hI hn2 hf
  cases o
  all_goals
   go_enter Tryz.func171,Tryz.ntmps171
   go_wp2
   go_ret
   exact Ret.mk' (by simp) jD
 ·obtain rfl:f=0:=by omega
  have e:uF st (p,0,o)=p+if o then 12 else 0:=by unfold uF;simp
  rw [e]
  clear e hst hI hn2 hf
  cases o
  all_goals
   go_enter Tryz.func171,Tryz.ntmps171
   go_wp2
   go_ret
   exact Ret.mk' (by simp) jD
theorem Hg {cs:List (Int×Int×Bool)} {st:List Int} (h:14<cs.length∨18<st.length):gB cs st=2:=if_pos h
theorem X0 {cs:List (Int×Int×Bool)} {st:List Int} (h:¬ (14<cs.length∨18<st.length))(h1:cs.length=0):gB cs st=11:=by unfold gB;rw [if_neg h,if_pos h1]
theorem Rf {cs:List (Int×Int×Bool)} {st:List Int} (h:¬ (14<cs.length∨18<st.length))(h1:gJ 0 st=true):gB cs st=11:=by unfold gB;rw [if_neg h,h1];simp
theorem aaP {cs:List (Int×Int×Bool)} {st:List Int} (h:¬ (14<cs.length∨18<st.length))(h1:¬ cs.length=0)(h2:gJ 0 st=false):gB cs st=tH st cs:=by unfold gB;rw [if_neg h,if_neg h1,h2];simp
theorem NU (A1 A2:Option Addr) (cs:List (Int×Int×Bool)) (st:List Int) (n1 n2 c1 c2:Nat) (w:World) (hI:gV w w.heap.size A1 A2 cs st) (hn1:n1=cs.length) (hn2:n2=st.length) :
  Calls Tryz.prog 103 #[.agg #[.slice A1 n1 c1,.slice A2 n2 c2]] w (Ret (.int .i64 (gB cs st)) w):=by
 by_cases hm1:14 < n1
 ·rw [Hg (.inl (by omega))]
  exact afn
 ·by_cases hm2:18 < n2
  ·rw [Hg (.inr (by omega))]
   exact afn
  ·by_cases hz:n1=0
   ·rw [X0 (by omega) (by omega)]
    subst hz
    exact afn
   ·have hnz:0 < n1:=by omega
    have HI:=Lib.hid hI
    have HN1:=Lib.hid hn1
    have HN2:=Lib.hid hn2
    have HE1:=Lib.hid (fun h=>Rf (cs:=cs) (st:=st) aj h)
    have HE2:=Lib.hid (fun h=>aaP (cs:=cs) (st:=st) aj aj h)
    have h18:st.length≤18:=by omega
    have hi1:n2≤18:=by omega
    have hi2:n1≤14:=by omega
    clear hI hn1 hn2 hz hm1 hm2
    go_enter Tryz.func103,Tryz.ntmps103
    go_wp2
    go_loop [3,25] (fun last i=>∃ (k:Nat) (x:Int),k≤n2∧i=.int .i64 k∧last=.int .i64 x∧gJ 0 st=gJ x (st.drop k)) (fun _ i=>n2 - (intOf i).toNat)
    case atStart=>exact ⟨0,0,dD _,rfl,rfl,rfl⟩
    case round =>
     obtain ⟨k,x,hk,rfl,rfl,hs⟩:=hrel
     have HS:=Lib.hid hs
     clear hs
     by_cases hlt:k < n2
     ·have hk2:k < st.length:=by have:=HN2.out;omega
      obtain ⟨ad,hA,hb,hc⟩:=HI.out.step hk2
      subst hA
      have hs2:=HS.out.trans (P6 hk2)
      obtain ⟨y,hy⟩:∃ y,st[k]=y:=⟨_,rfl⟩
      rw [hy] at hc hs2
      have hc2:∀ o:Obj,(w.alloc o).cell? (ad.add k)=some (.int .i64 y):=fun o=>by
       exact aep
      clear hc hy
      by_cases hb1:y≤x
      ·have HE:=Lib.hid (HE1.out (hs2.trans (by simp [hb1])))
       clear hs2
       exact Jw
      ·by_cases hb2:127 < y
       ·have HE:=Lib.hid (HE1.out (hs2.trans (by simp [hb2])))
        clear hs2
        exact Jw
       ·have HS3:=Lib.hid (hs2.trans (show _=gJ y (st.drop (k+1)) by simp [hb1,hb2]))
        clear hs2
        go_wp2
        go_round
        case rel=>exact ⟨k+1,y,by omega,by go_num,rfl,HS3.out⟩
        case measure=>simp [intOf];omega
     ·have hsF:gJ 0 st=false:=by
       have h:=HS.out
       rw [h,qN (by have:=HN2.out;omega)];rfl
      have HE:=Lib.hid (HE2.out hsF)
      have HBD:=Lib.hid (kE aj hsF)
      clear hsF
      go_wp2
      go_loopw [41] (fun i wr=>∃ k:Nat,k≤n1∧i=.int .i64 k∧tH st cs=tH st (cs.drop k)∧Below w.heap.size w wr∧Blk wr w.heap.size 27 #[.slice A1 n1 c1,.slice A2 n2 c2]) (fun i _=>n1 - (intOf i).toNat)
      case atStart=>exact ⟨0,dD _,rfl,rfl,jD,Blk.new _ _ _⟩
      case round =>
       obtain ⟨j,hj,rfl,hs,hbel,hblk⟩:=hrel
       have HC:=Lib.hid hs
       have HB:=Lib.hid hblk
       have hlt3:w.heap.size < wr.heap.size:=hblk.lt
       have q0:wr.cell? ⟨w.heap.size,0,none⟩=some (.slice A1 n1 c1):=hblk.cell 0
       have q1:wr.cell? ⟨w.heap.size,1,none⟩=some (.slice A2 n2 c2):=hblk.cell 1
       clear hs hblk
       by_cases hlt2:j < n1
       ·have hj2:j < cs.length:=by have:=HN1.out;omega
        have HI2:=Lib.hid (HI.out.below hbel)
        obtain ⟨ad,hA,hb,hc0,hc1,hc2⟩:=HI2.out.aQ hj2
        subst hA
        have hs2:=HC.out.trans (afQ hj2)
        obtain ⟨⟨p,f,o⟩,hx⟩:∃ x,cs[j]=x:=⟨_,rfl⟩
        rw [hx] at hc0 hc1 hc2 hs2
        simp only at hc0 hc1 hc2 hs2
        have HI3:=Lib.hid (fun o=>HI2.out.alloc (hbel.size) o)
        have aoH:∀ o:Obj,Below w.heap.size w (wr.alloc o):=fun o=>hbel.alloc hbel.size o
        have HB4:=Lib.hid (fun o=>HB.out.alloc o)
        have hn3:(st.length:Int)=n2:=by have:=HN2.out;omega
        by_cases b1:f < 0
        ·have HE3:=Lib.hid (HE.out.trans (hs2.trans (if_pos (.inl b1))))
         clear hs2
         exact afi
        ·by_cases b2:(n2:Int) < f
         ·have HE3:=Lib.hid (HE.out.trans (hs2.trans (if_pos (.inr aj))))
          exact U2
         ·rw [if_neg (by omega)] at hs2
          by_cases b3:p < 0
          ·have HE3:=Lib.hid (HE.out.trans (hs2.trans (if_pos (.inl (.inl b3)))))
           exact U2
          ·by_cases b4:127 < p
           ·have HE3:=Lib.hid (HE.out.trans (hs2.trans (if_pos (.inl (.inr b4)))))
            exact U2
           ·have HT:=fun (w':World) (hI:gV w' w.heap.size (some ad) A2 cs st) (hB:w.heap.size≤w'.heap.size)=>NM (some ad) A2 cs st n1 n2 c1 c2 w.heap.size p f o w' hI hB HN2.out aj aj h18 HBD.out
            have hsz:=hbel.size
            by_cases b5:127 < uF st (p,f,o)
            ·have HE3:=Lib.hid (HE.out.trans (hs2.trans (if_pos (.inr b5))))
             clear hs2 hn3
             generalize uF st (p,f,o)=T at *
             have HTT:=Lib.hid HT
             clear HT
             go_wp2_with (go_at_call 171;refine (HTT.out _ (HI3.out _) (by simp;omega)).mono ?_;rintro e w2 ⟨rfl,hb2⟩)
             go_ret
             exact Ret.mk' (by rw [HE3.out];rfl) jD
            ·rw [if_neg (by omega)] at hs2
             have HS4:=Lib.hid hs2
             clear hs2 hn3
             generalize uF st (p,f,o)=T at *
             have HTT:=Lib.hid HT
             clear HT
             go_wp2_with (go_at_call 171;refine (HTT.out _ (HI3.out _) (by simp;omega)).mono ?_;rintro e w2 ⟨rfl,hb2⟩;have K1:=Lib.hid ((HB4.out _).after hb2))
             go_roundw
             case rel=>exact ⟨j+1,by omega,by go_num,HS4.out,jD,K1.out⟩
             case measure=>simp [intOf];omega
       ·have HE3:=Lib.hid (HE.out.trans (HC.out.trans (show tH st (cs.drop j)=0 from by rw [qN (by have:=HN1.out;omega)];rfl)))
        exact afi
end
end Go.Proofs.YthohlofpphjofaaGreatDoor
