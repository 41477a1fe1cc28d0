/- What is read was written: plain words: a whole text. -/
import Derived.Test.YthehkchjdkdbiaaGreatDoorNrTHq
set_option maxHeartbeats 4000000
set_option maxRecDepth 100000
set_option linter.unusedVariables false
set_option linter.unusedSimpArgs false
namespace Go.Proofs.YthehkchjdkdbiaaGreatDoor
section
open Go.RowKit
def rf_st(x:N5):Stp:=(x.1,x.2.1,x.2.2.1,x.2.2.2.1,(x.2.2.2.2:Int))
theorem rf_ins1_map:∀ (l:List N5) (x:N5),rf_ins1 (l.map rf_st) (rf_st x)=(nr_ins1 l x).map rf_st
 | [],x=>rfl
 | y::r,x=>by
  have e:((rf_st y).1<(rf_st x).1)=(y.1<x.1):=by
   show ((y.1:Int)<(x.1:Int))=_
   exact propext Int.ofNat_lt
  show (if (rf_st y).1<(rf_st x).1 then _ else _)=_
  unfold nr_ins1
  by_cases h:y.1<x.1
  ·rw [if_pos (by rw [e];exact h),if_pos h,rf_ins1_map r x];rfl
  ·rw [if_neg (by rw [e];exact h),if_neg h];rfl
theorem rf_spot_up {s:Int} {n m i:Nat} (h:s≠2):rf_spot s n m i=if i<n then ((i:Int)+1)else 0:=by
 unfold rf_spot
 rw [if_neg h]
 by_cases k:i<n
 ·rw [if_pos k,if_neg (by omega)]
 ·rw [if_neg k,if_pos (by omega)]
theorem rf_spot_dn {n m i:Nat} (hi:i<m):rf_spot 2 n m i=if m-1-i<n then (((m-1-i:Nat):Int)+1)else 0:=by
 unfold rf_spot
 rw [if_pos rfl]
 by_cases k:m-1-i<n
 ·rw [if_pos k,if_neg (by omega)];omega
 ·rw [if_neg k,if_pos (by omega)]
theorem rf_rev_at {W:List (List UInt8)} {i:Nat} (hi:i<W.length):(nr_rev 2 W)[W.length-1-i]?=some W[i]:=by
 unfold nr_rev
 rw [if_pos rfl,List.getElem?_reverse (by omega),show W.length-1-(W.length-1-i)=i by omega,List.getElem?_eq_getElem hi]
theorem rf_bad_ch {s:Int} {n:Nat} {W:List (List UInt8)} (h:rf_bad s n W.length):nr_ch s n W=none:=by
 unfold nr_ch
 have hl:(nr_rev s W).length=W.length:=nr_rev_len s W
 rcases h with h|h|⟨h3,h⟩
 ·exact nr_ch_short (by rw [hl];exact h)
 ·have:nr_rev s W=[]:=List.length_eq_zero_iff.1 (hl.trans h)
  rw [this];exact nr_ch_nil rfl
 ·subst h3
  exact nr_ch_word (i:=n) (by rw [hl];exact h) (by unfold nr_wd;rw [if_neg (Nat.lt_irrefl n),nr_spanish];rfl)
theorem rf_ok_ch {s:Int} {n m:Nat} (h:¬ rf_bad s n m):n≤m∧0<m∧(s=3→m=n):=by
 unfold rf_bad at h
 omega
end
section
open Go.RowKit
structure RfCh (s:Int)(n:Nat)(W:List (List UInt8))(P:Nat→Prop)(LL:Nat→List N5)(la:Nat→Nat)(RR:Option (List N5)):Prop where
 start:P 0∧LL 0=[]∧la 0=0
 bad:∀ k (h:k<W.length),P k→¬ (0<rf_spot s n W.length k∧W[k]=[45])→nr_cl s (rf_spot s n W.length k) W[k]=none→RR=none
 dash:∀ k (h:k<W.length),P k→0<rf_spot s n W.length k→W[k]=[45]→P (k+1)∧LL (k+1)=LL k∧la (k+1)=la k
 on:∀ k (h:k<W.length) x,P k→0<rf_spot s n W.length k→W[k]≠[45]→nr_cl s (rf_spot s n W.length k) W[k]=some x→P (k+1)∧LL (k+1)=nr_ins1 (LL k) x∧la (k+1)=la k
 fall:∀ k (h:k<W.length)(x:N5),P k→rf_spot s n W.length k=0→nr_cl s (rf_spot s n W.length k) W[k]=some x→0<la k→(s=2∧la k≤x.1∨s≠2∧x.1≤la k)→RR=none
 out:∀ k (h:k<W.length)(x:N5),P k→rf_spot s n W.length k=0→nr_cl s (rf_spot s n W.length k) W[k]=some x→¬ (0<la k∧(s=2∧la k≤x.1∨s≠2∧x.1≤la k))→P (k+1)∧LL (k+1)=nr_ins1 (LL k) x∧la (k+1)=x.1
 done:P W.length→RR=if LL W.length=[] then none else some (LL W.length)
 len:∀ k,(LL k).length≤k
theorem rf_spot_nn {s:Int} {n m i:Nat} (hi:i<m):0≤rf_spot s n m i:=by
 by_cases h:s=2
 ·subst h;rw [rf_spot_dn hi];split<;>omega
 ·rw [rf_spot_up h];split<;>omega
theorem nr_R_len (s:Int) (n:Nat) (W:List (List UInt8)):∀ k,(nr_R s n W k).length≤W.length-k:=by
 intro k
 unfold nr_R
 generalize W.length-k=d
 induction d generalizing k with
 | zero=>simp
 | succ d ih =>
  rw [List.range'_succ,List.flatMap_cons,List.length_append]
  have:=nr_x_one (s:=s) (n:=n) (W:=W) k
  have:=ih (k+1)
  omega
theorem rf_ch_up {s:Int} {n:Nat} {W:List (List UInt8)} (h2:s≠2) (hn:n≤W.length) (h6:n≤6) (h4:s=4→n=0) :
  RfCh s n W (fun k=>(∀ i (h:i < W.length),i < k→(nr_wd s n i W[i]).isSome=true)∧nr_asc (nr_L s n W k)) (nr_L s n W) (nr_last s n W) (nr_ch s n W):=by
 have hrev:nr_ch s n W=nr_chW s n W:=by unfold nr_ch nr_rev;rw [if_neg h2]
 rw [hrev]
 have hnx:∀ {k:Nat} {P:∀ i,i < W.length→Prop},(∀ i (h:i < W.length),i < k→P i h)→(∀ h:k < W.length,P k h)→∀ i (h:i < W.length),i < k+1→P i h:=fun {k P} h1 h3 i h h5=>by
  by_cases e:i=k
  ·subst e;exact h3 h
  ·exact h1 i h zqo
 refine ⟨⟨⟨fun i h hi=>absurd hi (by omega),List.Pairwise.nil⟩,rfl,nr_last_0 (by omega)⟩,?_,?_,?_,?_,?_,?_,fun k=>nr_L_len s n W k⟩
 ·intro k h hP hd hc
  rw [rf_spot_up h2] at hd hc
  refine nr_ch_word h ?_
  unfold nr_wd
  by_cases hk:k < n
  ·rw [if_pos hk] at hd hc ⊢
   rw [if_neg (fun e=>hd ⟨by omega,e⟩),hc];rfl
  ·rw [if_neg hk] at hc ⊢
   rw [hc];rfl
 ·intro k h hP hs hd
  rw [rf_spot_up h2] at hs
  have hk:k < n:=by
   by_cases hk:k < n
   ·exact hk
   ·rw [if_neg hk] at hs;omega
  have hw:nr_wd s n k W[k]=some none:=by unfold nr_wd;rw [if_pos hk,if_pos hd]
  have e:nr_L s n W (k+1)=nr_L s n W k:=by rw [nr_L_s,nr_x_dash h hw,List.append_nil]
  refine ⟨⟨hnx hP.1 fun _=>by rw [hw];rfl,by rw [e];exact hP.2⟩,e,?_⟩
  rw [nr_last_0 (by omega),nr_last_0 (by omega)]
 ·intro k h x hP hs hd hc
  rw [rf_spot_up h2] at hs hc
  have hk:k < n:=by
   by_cases hk:k < n
   ·exact hk
   ·rw [if_neg hk] at hs;omega
  rw [if_pos hk] at hc
  have hw:nr_wd s n k W[k]=some (some x):=by unfold nr_wd;rw [if_pos hk,if_neg hd,hc];rfl
  have hx:=nr_x_note h hw
  have hx1:=nr_wd_on hk hw
  refine ⟨⟨hnx hP.1 fun _=>by rw [hw];rfl,nr_L_on (by omega)⟩,?_,by rw [nr_last_0 (by omega),nr_last_0 (by omega)]⟩
  rw [nr_L_s,hx,nr_ins1_end]
  intro y hy
  obtain ⟨i,hi,hyi⟩:=nr_L_mem.1 hy
  rw [nr_x_on (by omega) hyi,hx1];omega
 ·intro k h x hP hs hc hla hb
  rw [rf_spot_up h2] at hs hc
  have hk:n≤k:=by
   by_cases hk:k < n
   ·rw [if_pos hk] at hs;omega
   ·omega
  rw [if_neg (by omega)] at hc
  have hw:nr_wd s n k W[k]=some (some x):=by unfold nr_wd;rw [if_neg (by omega),hc];rfl
  have hx:=nr_x_note h hw
  refine nr_ch_no_asc (k:=k+1) zqo fun ha=>?_
  have:=(nr_L_step h6 h4 hk hP.1 zqo hP.2 hx).1 ha
  omega
 ·intro k h x hP hs hc hb
  rw [rf_spot_up h2] at hs hc
  have hk:n≤k:=by
   by_cases hk:k < n
   ·rw [if_pos hk] at hs;omega
   ·omega
  rw [if_neg (by omega)] at hc
  have hw:nr_wd s n k W[k]=some (some x):=by unfold nr_wd;rw [if_neg (by omega),hc];rfl
  have hx:=nr_x_note h hw
  have hx1:=nr_x_bd (s:=s) (n:=n) (W:=W) (i:=k) (x:=x) (by rw [hx];simp)
  have ha:=(nr_L_step h6 h4 hk hP.1 zqo hP.2 hx).2 zqo
  refine ⟨⟨hnx hP.1 fun _=>by rw [hw];rfl,ha⟩,?_,nr_last_s hk hx⟩
  rw [nr_L_s,hx] at ha ⊢
  rw [nr_ins1_end]
  intro y hy
  exact (List.pairwise_append.1 ha).2.2 y hy x (by simp)
 ·intro hP
  by_cases hnil:nr_L s n W W.length=[]
  ·rw [if_pos hnil];exact nr_ch_nil hnil
  ·rw [if_neg hnil];exact nr_ch_yes hn (fun i h=>hP.1 i h h) hP.2 hnil
theorem rf_ch_dn {n:Nat} {W:List (List UInt8)} (hn:n≤W.length) (h6:n≤6) :
  RfCh 2 n W (fun k=>(∀ i (h:i < (nr_rev 2 W).length),W.length - k≤i→(nr_wd 2 n i (nr_rev 2 W)[i]).isSome=true)∧nr_asc (nr_R 2 n (nr_rev 2 W) (W.length - k))) (fun k=>nr_R 2 n (nr_rev 2 W) (W.length - k)) (fun k=>nr_lastR 2 n (nr_rev 2 W) (max (W.length - k) n)) (nr_ch 2 n W):=by
 have hrev:nr_ch 2 n W=nr_chW 2 n (nr_rev 2 W):=rfl
 rw [hrev]
 have hl:(nr_rev 2 W).length=W.length:=nr_rev_len 2 W
 have hget:∀ k (h:k < W.length),∃ h2:W.length - 1 - k < (nr_rev 2 W).length,(nr_rev 2 W)[W.length - 1 - k]=W[k]:=fun k h=>by
  have e:=rf_rev_at h
  have h2:W.length - 1 - k < (nr_rev 2 W).length:=by omega
  rw [List.getElem?_eq_getElem h2] at e
  exact ⟨h2,Option.some.inj e⟩
 obtain ⟨V,hV⟩:∃ z,nr_rev 2 W=z:=⟨_,rfl⟩
 rw [hV] at hl hget ⊢
 have h4:(2:Int)=4→n=0:=fun h=>by cases h
 have hnx:∀ {k:Nat} {P:∀ i,i < V.length→Prop},k < W.length→(∀ i (h:i < V.length),W.length - k≤i→P i h)→(∀ h:W.length - 1 - k < V.length,P (W.length - 1 - k) h)→∀ i (h:i < V.length),W.length - (k+1)≤i→P i h:=fun {k P} hk h1 h3 i h h5=>by
  by_cases e:i=W.length - 1 - k
  ·subst e;exact h3 h
  ·exact h1 i h zqo
 have hR:∀ k,k < W.length→nr_R 2 n V (W.length - (k+1))=nr_x 2 n V (W.length - 1 - k)++nr_R 2 n V (W.length - k):=fun k h=>by
  rw [show W.length - (k+1)=W.length - 1 - k by omega,nr_R_s 2 n V (k:=W.length - 1 - k) (by omega),show W.length - 1 - k+1=W.length - k by omega]
 have hasc1:∀ k,k < W.length→W.length - 1 - k < n→nr_asc (nr_R 2 n V (W.length - k))→nr_asc (nr_R 2 n V (W.length - (k+1)))∧∀ x∈nr_x 2 n V (W.length - 1 - k),∀ y∈nr_R 2 n V (W.length - k),x.1 < y.1:=fun k h hk ha=>by
  have e:=nr_R_on (s:=2) (n:=n) (W:=V) (k:=W.length - 1 - k) h6 h4 hk (by omega) (by rw [show W.length - 1 - k+1=W.length - k by omega];exact ha)
  rw [show W.length - 1 - k+1=W.length - k by omega] at e
  rw [show W.length - (k+1)=W.length - 1 - k by omega]
  exact e
 have hmax:∀ k,k < W.length→W.length - 1 - k < n→max (W.length - (k+1)) n=max (W.length - k) n:=fun k h hk=>by omega
 refine ⟨⟨⟨fun i h hi=>absurd hi zqo,?_⟩,?_,?_⟩,?_,?_,?_,?_,?_,?_,fun k=>?_⟩
 ·rw [Nat.sub_zero,← hl,nr_R_end];exact List.Pairwise.nil
 ·show nr_R 2 n V (W.length - 0)=[]
  rw [Nat.sub_zero,← hl,nr_R_end]
 ·show nr_lastR 2 n V (max (W.length - 0) n)=0
  rw [show max (W.length - 0) n=V.length by omega];exact nr_lastR_0
 ·intro k h hP hd hc
  obtain ⟨h2,hg⟩:=hget k h
  rw [rf_spot_dn h] at hd hc
  refine nr_ch_word h2 ?_
  rw [hg]
  unfold nr_wd
  by_cases hk:W.length - 1 - k < n
  ·rw [if_pos hk] at hd hc ⊢
   rw [if_neg (fun e=>hd ⟨by omega,e⟩),hc];rfl
  ·rw [if_neg hk] at hc ⊢
   rw [hc];rfl
 ·intro k h hP hs hd
  obtain ⟨h2,hg⟩:=hget k h
  rw [rf_spot_dn h] at hs
  have hk:W.length - 1 - k < n:=by
   by_cases hk:W.length - 1 - k < n
   ·exact hk
   ·rw [if_neg hk] at hs;omega
  have hw:nr_wd 2 n (W.length - 1 - k) V[W.length - 1 - k]=some none:=by rw [hg];unfold nr_wd;rw [if_pos hk,if_pos hd]
  refine ⟨⟨hnx h hP.1 fun _=>by rw [hw];rfl,(hasc1 k h hk hP.2).1⟩,?_,?_⟩
  ·show nr_R 2 n V (W.length - (k+1))=nr_R 2 n V (W.length - k)
   rw [hR k h,nr_x_dash h2 hw];rfl
  ·show nr_lastR 2 n V (max (W.length - (k+1)) n)=nr_lastR 2 n V (max (W.length - k) n)
   rw [hmax k h hk]
 ·intro k h x hP hs hd hc
  obtain ⟨h2,hg⟩:=hget k h
  rw [rf_spot_dn h] at hs hc
  have hk:W.length - 1 - k < n:=by
   by_cases hk:W.length - 1 - k < n
   ·exact hk
   ·rw [if_neg hk] at hs;omega
  rw [if_pos hk] at hc
  have hw:nr_wd 2 n (W.length - 1 - k) V[W.length - 1 - k]=some (some x):=by rw [hg];unfold nr_wd;rw [if_pos hk,if_neg hd,hc];rfl
  have hx:=nr_x_note h2 hw
  obtain ⟨a1,a2⟩:=hasc1 k h hk hP.2
  refine ⟨⟨hnx h hP.1 fun _=>by rw [hw];rfl,a1⟩,?_,?_⟩
  ·show nr_R 2 n V (W.length - (k+1))=nr_ins1 (nr_R 2 n V (W.length - k)) x
   rw [nr_ins1_front (a2 x (by rw [hx];simp)),hR k h,hx];rfl
  ·show nr_lastR 2 n V (max (W.length - (k+1)) n)=nr_lastR 2 n V (max (W.length - k) n)
   rw [hmax k h hk]
 ·intro k h x hP hs hc hla hb
  obtain ⟨h2,hg⟩:=hget k h
  rw [rf_spot_dn h] at hs hc
  have hk:n≤W.length - 1 - k:=by
   by_cases hk:W.length - 1 - k < n
   ·rw [if_pos hk] at hs;omega
   ·omega
  rw [if_neg (by omega)] at hc
  have hw:nr_wd 2 n (W.length - 1 - k) V[W.length - 1 - k]=some (some x):=by rw [hg];unfold nr_wd;rw [if_neg (by omega),hc];rfl
  have hx:=nr_x_note h2 hw
  refine nr_ch_asc fun ha=>?_
  have hsuf:=nr_asc_suf (nr_R_suf 2 n V (k:=W.length - 1 - k) zqo) ha
  have hst:=nr_R_out (s:=2) (n:=n) (W:=V) (k:=W.length - 1 - k) hk (by omega) (fun i hi hik=>hP.1 i hi (by omega)) (by rw [show W.length - 1 - k+1=W.length - k by omega];exact hP.2) hx
  rw [show W.length - 1 - k+1=W.length - k by omega] at hst
  have hla2:0 < nr_lastR 2 n V (W.length - k):=by rw [show W.length - k=max (W.length - k) n by omega];exact hla
  have hb2:nr_lastR 2 n V (W.length - k)≤x.1:=by
   rw [show W.length - k=max (W.length - k) n by omega]
   rcases hb with b|b
   ·exact b.2
   ·exact absurd rfl b.1
  have hlt:∀ y∈nr_R 2 n V (W.length - k),x.1 < y.1:=by
   have e:=nr_R_s 2 n V (k:=W.length - 1 - k) zqo
   rw [show W.length - 1 - k+1=W.length - k by omega,hx] at e
   rw [e] at hsuf
   exact fun y hy=>(List.pairwise_append.1 hsuf).2.2 x (by simp) y hy
  have:=hst.2 ⟨hsuf,hlt⟩
  omega
 ·intro k h x hP hs hc hb
  obtain ⟨h2,hg⟩:=hget k h
  rw [rf_spot_dn h] at hs hc
  have hk:n≤W.length - 1 - k:=by
   by_cases hk:W.length - 1 - k < n
   ·rw [if_pos hk] at hs;omega
   ·omega
  rw [if_neg (by omega)] at hc
  have hw:nr_wd 2 n (W.length - 1 - k) V[W.length - 1 - k]=some (some x):=by rw [hg];unfold nr_wd;rw [if_neg (by omega),hc];rfl
  have hx:=nr_x_note h2 hw
  have hst:=nr_R_out (s:=2) (n:=n) (W:=V) (k:=W.length - 1 - k) hk (by omega) (fun i hi hik=>hP.1 i hi (by omega)) (by rw [show W.length - 1 - k+1=W.length - k by omega];exact hP.2) hx
  rw [show W.length - 1 - k+1=W.length - k by omega] at hst
  have hb2:¬ (0 < nr_lastR 2 n V (W.length - k)∧(2=2∧nr_lastR 2 n V (W.length - k)≤x.1∨(2:Int)≠2∧x.1≤nr_lastR 2 n V (W.length - k))):=by
   intro q
   apply hb
   rw [show max (W.length - k) n=W.length - k by omega]
   exact ⟨q.1,q.2.imp (fun a=>⟨rfl,a.2⟩) (fun a=>a)⟩
  obtain ⟨a1,a2⟩:=hst.1 (by
   rcases Nat.eq_zero_or_pos (nr_lastR 2 n V (W.length - k)) with z|z
   ·exact .inl z
   ·exact .inr (by
     rcases Nat.lt_or_ge x.1 (nr_lastR 2 n V (W.length - k)) with y|y
     ·exact y
     ·exact absurd ⟨z,.inl ⟨rfl,y⟩⟩ hb2))
  refine ⟨⟨hnx h hP.1 fun _=>by rw [hw];rfl,by rw [show W.length - (k+1)=W.length - 1 - k by omega];exact a1⟩,?_,?_⟩
  ·show nr_R 2 n V (W.length - (k+1))=nr_ins1 (nr_R 2 n V (W.length - k)) x
   rw [nr_ins1_front a2,hR k h,hx];rfl
  ·show nr_lastR 2 n V (max (W.length - (k+1)) n)=x.1
   rw [show max (W.length - (k+1)) n=W.length - 1 - k by omega]
   exact nr_lastR_s zqo hx
 ·intro hP
  show _=if nr_R 2 n V (W.length - W.length)=[] then none else some (nr_R 2 n V (W.length - W.length))
  have hP1:∀ i (h:i < V.length),(nr_wd 2 n i V[i]).isSome=true:=fun i h=>hP.1 i h zqo
  have hP2:=hP.2
  rw [Nat.sub_self,nr_R_L] at hP2 ⊢
  by_cases hnil:nr_L 2 n V V.length=[]
  ·rw [if_pos hnil];exact nr_ch_nil hnil
  ·rw [if_neg hnil];exact nr_ch_yes (by omega) hP1 hP2 hnil
 ·show (nr_R 2 n V (W.length - k)).length≤k
  have:=nr_R_len 2 n V (W.length - k)
  omega
end
section
open Go.RowKit
theorem rInsert_G (l:List Stp) (x:Stp) (hl:l.length≤400000):Cto truB 0 Tryz.prog 230 [.ls 5 (l.map eStp),.ag (eStp x)] [] 0 (.sl 0) [(0,.row 69 5 ((rf_ins1 l x).map eStp))] 1:=by
 have hspec:=fun k=>rf_ins1_at (l:=l) (x:=x) (k:=k)
 have hml:(l.map eStp).length=l.length:=List.length_map _
 have hatl:∀ k (h:k < l.length),(l.map eStp)[((k:Nat):Int).toNat]?=some (eStp l[k]):=fun k h=>by
  rw [Int.toNat_natCast,List.getElem?_map,List.getElem?_eq_getElem h];rfl
 have hrowk:∀ k (h:k < l.length),(l.map eStp).take (k+1)=(l.map eStp).take k++[eStp l[k]]:=fun k h=>by
  rw [List.take_succ_eq_append_getElem (by rw [hml];exact h)];simp
 obtain ⟨c,f,r,g,h⟩:=x
 have hfin:∀ k,rf_ins1 l (c,f,r,g,h)=l.take k++(c,f,r,g,h)::l.drop k→(rf_ins1 l (c,f,r,g,h)).map eStp=(l.map eStp).take k++[[.sc (.int .i64 c),.sc (.int .i64 f),.sc (.int .i64 r),.sc (.int .i64 g),.sc (.int .i64 h)]]++prt (l.map eStp) (k:Int) ((l.map eStp).length:Int):=fun k e=>by
  rw [e]
  unfold prt
  rw [Int.toNat_natCast,Int.toNat_natCast,List.take_length,List.map_append,List.map_cons,List.map_take,List.map_drop]
  show _++_::_=_
  rw [List.append_assoc];rfl
 obtain ⟨RR,hRR⟩:∃ z,(rf_ins1 l (c,f,r,g,h)).map eStp=z:=⟨_,rfl⟩
 rw [hRR] at hfin ⊢
 obtain ⟨R,hR⟩:∃ z,l.map eStp=z:=⟨_,rfl⟩
 rw [hR] at hml hatl hrowk hfin ⊢
 unfold eStp
 dsimp only at hspec ⊢
 refine Cto.intro truS Tryz.func230 rfl Tryz.ntmps230 (Nat.le_of_ble_eq_true rfl) rfl fun w0 F0 fp pg hB=>?_
 dsimp only [number,Nat.reduceAdd]
 refine zqg48 ?_
 refine W.tr (Tr.nil (t:=5) 69 5 rfl rfl) ?_
 refine W.loop (fun k:Nat=>k≤l.length∧∀ j (hj:j < l.length),j < k→l[j].1 < c) (fun k=>⟨[(0,.ls 5 R),(3,.pt 0 0 0),(5,.sl 1),(6,.sc (.int .i64 (k:Int)))],[(0,.box 69 [.sc (.int .i64 c),.sc (.int .i64 f),.sc (.int .i64 r),.sc (.int .i64 g),.sc (.int .i64 h)]),(1,.row 69 5 (R.take k))],2⟩) (fun k=>l.length - k) 0 ⟨by omega,fun j hj h=>absurd h zqo⟩ (zqt id) fun k hk=>?_
 obtain ⟨hk,hall⟩:=hk
 have htl:(R.take k).length=k:=by rw [List.length_take];omega
 by_cases hlt:k < l.length
 ·have hat:=hatl k hlt
  have hrow:=hrowk k hlt
  by_cases hc:l[k].1 < c
  ·have hnx:∀ j (hj:j < l.length),j < k+1→l[j].1 < c:=fun j hj hjk=>by
    by_cases e:j=k
    ·subst e;exact hc
    ·exact hall j hj zqo
   obtain ⟨⟨c',f',r',g',h'⟩,hx⟩:∃ z,l[k]=z:=⟨_,rfl⟩
   rw [hx] at hat hrow hc
   unfold eStp at hat hrow
   dsimp only at hat hrow hc
   obtain ⟨RK,hRK⟩:∃ z,R.take k=z:=⟨_,rfl⟩
   rw [hRK] at htl hrow ⊢
   clear hall hspec hfin hatl hrowk
   refine zqg48 ?_
   refine W.drawK zqk zqk ?_
   refine zqg49 ?_
   refine DK.idx rfl rfl zqo hat ?_
   refine zqg49 ?_
   refine zqg48 ?_
   refine WL.idx rfl rfl zqo hat ?_
   refine zqg48 ?_
   refine ⟨k+1,⟨by omega,hnx⟩,by omega,?_⟩
   rw [hrow]
   exact (zqu (fun q=>bif Nat.beq q 1 then 3 else q) (by repeat (first|exact trivial|refine ⟨⟨?_,?_,?_⟩,?_⟩|rfl|exact congrArg (fun q=>some (AO.row _ _ q)) (by first|rfl|(simp;done)|(simp [eInt];done)|(simp [eLk];done)))) rfl)
  ·have hres:=hfin k (hspec k hk (fun j hj hjk=>hall j hj hjk) fun _=>hc)
   obtain ⟨⟨c',f',r',g',h'⟩,hx⟩:∃ z,l[k]=z:=⟨_,rfl⟩
   rw [hx] at hat hc
   unfold eStp at hat
   dsimp only at hat hc
   obtain ⟨RK,hRK⟩:∃ z,R.take k=z:=⟨_,rfl⟩
   rw [hRK] at htl hres ⊢
   clear hall hspec hfin hatl hrowk hrow
   rw [hres]
   obtain ⟨PP,hPP⟩:∃ z,prt R (k:Int) (R.length:Int)=z:=⟨_,rfl⟩
   rw [hPP]
   have hPl:PP.length≤400000:=by rw [← hPP];unfold prt;simp;omega
   refine zqg48 ?_
   refine W.drawK zqk zqk ?_
   refine zqg49 ?_
   refine DK.idx rfl rfl zqo hat ?_
   refine zqg49 ?_
   have hPP2:prt R ((RK.length:Nat):Int) (R.length:Int)=PP:=by rw [htl];exact hPP
   refine zqg48 ?_
   refine W.of_wa zqk ?_
   refine WA.dt [false,false,true,true,false,false,false,true,true] [0] [0] 8 zqk zqk zqk ⟨rfl,trivial⟩ ⟨rfl,trivial⟩ ?_
   refine DTK.v0 rfl (stepV_of rfl rfl) ?_
   refine DTK.v0 rfl (stepV_of rfl rfl) ?_
   refine DTK.bd rfl rfl rfl ⟨rfl,trivial⟩ (fun _=>⟨rfl,trivial⟩) ?_
   refine DTK.ap rfl rfl (by show RK.length+1≤1000000000;omega) ⟨rfl,trivial⟩ (fun _=>⟨rfl,trivial⟩) ?_
   refine DTK.v0 rfl (stepV_of rfl rfl) ?_
   refine DTK.v0 rfl (stepV_of rfl rfl) ?_
   refine DTK.v0 rfl (partV_of rfl ⟨by omega,by omega,by omega⟩) ?_
   rw [hPP2]
   refine DTK.ap rfl rfl (by simp;omega) ⟨rfl,trivial⟩ (fun _=>⟨rfl,trivial⟩) ?_
   refine DTK.mv rfl rfl rfl rfl rfl rfl ⟨rfl,trivial⟩ (fun h=>by cases h) ?_
   refine DTK.nil ?_
   refine zqg48 ?_
   refine W.tr (σ':=⟨[(4,.sl 0)],[(0,.row 69 5 (RK++[[.sc (.int .i64 c),.sc (.int .i64 f),.sc (.int .i64 r),.sc (.int .i64 g),.sc (.int .i64 h)]]++PP))],1⟩) (zqu (fun q=>bif Nat.beq q 0 then 4 else q) (by repeat (first|exact trivial|refine ⟨⟨?_,?_,?_⟩,?_⟩|rfl|exact congrArg (fun q=>some (AO.row _ _ q)) (by first|rfl|(simp;done)|(simp [eInt];done)|(simp [eLk];done)))) rfl) ?_
   exact W.ret (finM rfl rfl rfl rfl rfl)
 ·obtain rfl:k=l.length:=by omega
  have hres:=hfin l.length (hspec l.length hk (fun j hj hjk=>hall j hj hjk) fun h=>absurd h zqo)
  obtain ⟨RK,hRK⟩:∃ z,R.take l.length=z:=⟨_,rfl⟩
  rw [hRK] at htl hres ⊢
  clear hall hspec hfin hatl hrowk
  rw [hres]
  obtain ⟨PP,hPP⟩:∃ z,prt R (l.length:Int) (R.length:Int)=z:=⟨_,rfl⟩
  rw [hPP]
  have hPl:PP.length≤400000:=by rw [← hPP];unfold prt;simp;omega
  refine zqg48 ?_
  refine W.drawK zqk zqk ?_
  refine zqg49 ?_
  have hPP2:prt R ((RK.length:Nat):Int) (R.length:Int)=PP:=by rw [htl];exact hPP
  refine zqg48 ?_
  refine W.of_wa zqk ?_
  refine WA.dt [false,false,true,true,false,false,false,true,true] [0] [0] 8 zqk zqk zqk ⟨rfl,trivial⟩ ⟨rfl,trivial⟩ ?_
  refine DTK.v0 rfl (stepV_of rfl rfl) ?_
  refine DTK.v0 rfl (stepV_of rfl rfl) ?_
  refine DTK.bd rfl rfl rfl ⟨rfl,trivial⟩ (fun _=>⟨rfl,trivial⟩) ?_
  refine DTK.ap rfl rfl (by show RK.length+1≤1000000000;omega) ⟨rfl,trivial⟩ (fun _=>⟨rfl,trivial⟩) ?_
  refine DTK.v0 rfl (stepV_of rfl rfl) ?_
  refine DTK.v0 rfl (stepV_of rfl rfl) ?_
  refine DTK.v0 rfl (partV_of rfl ⟨by omega,by omega,by omega⟩) ?_
  rw [hPP2]
  refine DTK.ap rfl rfl (by simp;omega) ⟨rfl,trivial⟩ (fun _=>⟨rfl,trivial⟩) ?_
  refine DTK.mv rfl rfl rfl rfl rfl rfl ⟨rfl,trivial⟩ (fun h=>by cases h) ?_
  refine DTK.nil ?_
  refine zqg48 ?_
  refine W.tr (σ':=⟨[(4,.sl 0)],[(0,.row 69 5 (RK++[[.sc (.int .i64 c),.sc (.int .i64 f),.sc (.int .i64 r),.sc (.int .i64 g),.sc (.int .i64 h)]]++PP))],1⟩) (zqu (fun q=>bif Nat.beq q 0 then 4 else q) (by repeat (first|exact trivial|refine ⟨⟨?_,?_,?_⟩,?_⟩|rfl|exact congrArg (fun q=>some (AO.row _ _ q)) (by first|rfl|(simp;done)|(simp [eInt];done)|(simp [eLk];done)))) rfl) ?_
  exact W.ret (finM rfl rfl rfl rfl rfl)
end
section
open Go.RowKit
def CtoD (P:Program)(f:FuncId)(args:List AV)(M:List (Nat×AO))(nk:Nat)(u u':FrameMode)(M':List (Nat×AO)):Prop :=
 ∀ (w:World)(G:Gh)(vs:List Value),Obs G w M nk→vs.length=args.length→(∀ (i:Nat) av u,args[i]?=some av→vs[i]?=some u→R G av u) →
  CallsD P f vs.toArray u w fun e u2 w'=>u2=u'∧∃ v G',e=.returned v∧Kept (fpM G M) w w'∧View.le G.F G'.F∧(∀ p u,G'.F p=some u→G.F p=some u∨w.heap.size≤p.block∨fpM G M p.block)∧Obs G' w' M' nk ∧
   (∀ k o x,look k M'=some o→G'.fp k x→w.heap.size≤x∨fpM G M x)∧(∀ k,k<nk→G'.b k=G.b k∧G'.n k=G.n k∧G'.h k=G.h k)
theorem CtoD.intro {P:Program} {f:FuncId} {fn:Func} {id:Nat} {o:Oper} {d:Tmp} {c:Code} {args:List AV} {M:List (Nat×AO)} {nk:Nat} {res:AV} {M':List (Nat×AO)} {u u':FrameMode} {rv:Value} (hf:P.funcs[f]?=some fn) (hb:fn.body=some (.seq (.region id #[o] false) c)) {N:Nat} (hN:fn.ntmps=N) (hn:args.length≤N)
  (hp:args.all (AV.inn nk)=true) (hg:o.guard=none) (hd:o.dst=some d) (hdN:Nat.blt d N=true) (ho:∀ (a:Act) w,(execOp a.eval o).run P w=.ok .recover w)
  (hrec:∀ (c₀:Frame) (cs:List Frame),c₀.mode=u→recoverD (c₀::cs)=some (rv,{ c₀ with mode:=u' }::cs)∨(recoverD (c₀::cs)=none∧rv=.nilIface∧u'=u))
  (h:∀ w0 F0 fp pg,W P ⟨w0,F0,N,fp,nk,pg,[]⟩ c ⟨(d,.sc rv)::number 0 args,M,nk⟩ (QFinM P fn ⟨w0,F0,N,fp,nk,pg,[]⟩ res M' nk)):CtoD P f args M nk u u' M':=by
 intro w G vs hO hl hR
 subst hN
 refine callsD_of_wpS hf hb fun c₀ cs hu=>?_
 refine wpS_seq (wpS_region ?_)
 have ok0:Ok ⟨w,G.F,fn.ntmps,fpM G M,nk,G,[]⟩ ⟨number 0 args,M,nk⟩ G { tmps:=vs.toArray++Array.replicate (fn.ntmps - vs.toArray.size) undef,defers:=[] } w :=
  ⟨by simp;omega,⟨rfl,Nat.le_refl _,fun k _=>⟨rfl,rfl,rfl⟩⟩,fun i av hx=>by
   obtain ⟨_,h2⟩:=look_number args 0 i av hx
   simp only [Nat.sub_zero] at h2
   have hi:i < args.length:=(List.getElem?_eq_some_iff.1 h2).1
   have hv:i < vs.length:=by omega
   refine ⟨by show i < fn.ntmps;omega,inn_bd (List.all_eq_true.1 hp av (List.mem_of_getElem? h2)),hR i av _ h2 ?_⟩
   simp [Array.getD_eq_getD_getElem?,Array.getElem?_append_left,hv],
   Kept.refl _ _,hO.fw,fun _ _ h=>h,fun _ _ h=>.inl h,hO.ob,(fun k o x h1 h2=>⟨.inr ⟨k,o,h1,h2⟩,hO.my k o x h1 h2⟩),hO.dj,hO.dF⟩
 have ok1:=ok0.set (d:=some d) (av:=.sc rv) (v:=rv) (.pu _ _ (.sc _)) (.sc _) (fun x hx=>by cases hx;exact of_blt hdN)
 have h1:=h w G.F (fpM G M) G G _ w ok1
 have hw:∀ y,Region.wanted o y=true:=fun y=>by unfold Region.wanted;rw [hg]
 have hfin:∀ u2,u2=u'→Code.wpS P c (bodyPostS P fn c₀ cs fun e u2 w'=>u2=u'∧∃ v G',e=.returned v∧Kept (fpM G M) w w'∧View.le G.F G'.F∧(∀ p u,G'.F p=some u→G.F p=some u∨w.heap.size≤p.block∨fpM G M p.block)∧Obs G' w' M' nk ∧
   (∀ k o x,look k M'=some o→G'.fp k x→w.heap.size≤x∨fpM G M x)∧(∀ k,k < nk→G'.b k=G.b k∧G'.n k=G.n k∧G'.h k=G.h k))
   (({ tmps:=vs.toArray++Array.replicate (fn.ntmps - vs.toArray.size) undef,defers:=[] }:Act).put o.dst rv) ({ c₀ with mode:=u2 }::cs) w:=fun u2 e2=>by
  subst e2
  rw [hd]
  refine wpS_of_wp (wp_mono h1 fun e a w' ⟨σ,G1,⟨he,hfin⟩,ok⟩=>?_)
  obtain ⟨v,G',hr,ok',hbd,hres⟩:=hfin G1 a w' ok
  rcases he with rfl|rfl
  all_goals
   exact ⟨ok'.df.1,_,rfl,v,hr,rfl,v,G',rfl,ok'.bel,ok'.f0,ok'.f1,⟨ok'.fw,ok'.ob,fun k o x h1 h2=>(ok'.my k o x h1 h2).2,ok'.dj,ok'.dF⟩,fun k o x h1 h2=>(ok'.my k o x h1 h2).1,ok'.df.2.2⟩
 show wpOpsS P #[o] _ [0] _ _ _
 unfold wpOpsS
 simp only [List.getElem?_toArray,List.getElem?_cons_zero,hw,if_true,ho]
 rcases hrec c₀ cs hu with e|⟨e,rfl,e2⟩
 ·rw [e]
  exact hfin _ rfl
 ·rw [e]
  exact hfin c₀.mode (hu.trans e2.symm)
def mdOf:Exit→Option FrameMode
 | .normal|.ret=>some .returning
 | .panic ch=>some (.panicking ch)
 | _=>none
section
variable {P:Program} {C:Cx} {σ:St} {G:Gh} {a:Act} {w:World}
theorem wp_dfr (ok:Ok C σ G a w) (hds:C.ds=[]) {id:Nat} {o1 o2:Oper} {Q:Exit→Act→World→Prop} {f:FuncId} {xs:Array Operand} {caps:List AV} {d1:Tmp} (hg1:o1.guard=none) (ho1:o1.op=.makeFunc (.func f) #[] xs) (hd1:o1.dst=some d1) (hN:Nat.blt d1 C.N=true) (hx:σ.evs xs.toList=some caps)
  (hg2:o2.guard=none) (ho2:o2.op=.defer { callee:=.value (.tmp d1),args:=#[],argTypes:=#[] }) (hd2:o2.dst=none)
  (h:∀ G' a' w' cs,Ok ⟨C.w0,C.F0,C.N,C.fp,σ.nk,G',[⟨.fn (.func f) cs,#[]⟩]⟩ (σ.put d1 (.fn f caps)) G' a' w'→cs.size=caps.length→(∀ (i:Nat) av u,caps[i]?=some av→cs[i]?=some u→R G' av u)→Q .normal a' w') :
  (Code.region id #[o1,o2] false).wp P Q a w:=by
 refine wp_region_lit (l:=[o1,o2]) ?_
 refine wpList_plain hg1 fun K hK=>?_
 refine WO.of_wv hd1 hN (WV.mkf ho1 hx) G a w ok K _ fun G' a' w' ok'=>hK _ _ ?_
 refine wpList_plain hg2 fun K' hK'=>?_
 have hs:(σ.put d1 (.fn f caps)).ev (.tmp d1)=some (.fn f caps):=look_set_same
 obtain ⟨cs,e,h1,h2⟩:=(ok'.evr hs).2.fn_of
 unfold Oper.wp execOp
 have e3:(#[]++(#[]:Array Operand).map a'.eval:Array Value)=#[]:=by simp
 simp only [ho2,resolve,e,Deferred.ofValue,Sem.run_bind,Sem.run_pure,Result.andThen_ok,Oper.upon,e3]
 refine hK' _ _ (wpList_nil ?_)
 refine h G' _ w' cs ?_ h1 h2
 rw [hd2]
 exact ⟨ok'.sz,⟨by show _::a'.defers=_;rw [ok'.df.1,hds],Nat.le_refl _,fun k _=>⟨rfl,rfl,rfl⟩⟩,ok'.tm,ok'.bel,ok'.fw,ok'.f0,ok'.f1,ok'.ob,ok'.my,ok'.dj,ok'.dF⟩
theorem Ok.afterD {T:List (Nat×AV)} {Mi Mf:List (Nat×AO)} {nk:Nat} {w':World} {G':Gh} (ok:Ok C ⟨T,Mi,nk⟩ G a w) (h1:Kept (fpM G Mi) w w') (h2:View.le G.F G'.F) (h3:∀ p u,G'.F p=some u→G.F p=some u∨w.heap.size≤p.block∨fpM G Mi p.block) (h4:Obs G' w' Mf nk)
  (h5:∀ k o x,look k Mf=some o→G'.fp k x→w.heap.size≤x∨fpM G Mi x) (h6:∀ k,k<nk→G'.b k=G.b k∧G'.n k=G.n k∧G'.h k=G.h k):Ok C ⟨T,Mf,nk⟩ G' a w':=by
 have hmay:∀ x,w.heap.size≤x∨fpM G Mi x→C.may x:=fun x hx=>hx.elim (fun h=>.inl (Nat.le_trans ok.bel.size h)) fun ⟨k,o,g1,g2⟩=>(ok.my k o x g1 g2).1
 have hle:G.le G' nk:=⟨h2,fun k hk=>(h6 k hk).1,fun k hk=>(h6 k hk).2.1,fun k hk=>(h6 k hk).2.2⟩
 refine ⟨ok.sz,⟨ok.df.1,ok.df.2.1,fun k hk=>?_⟩,fun i av h=>?_,ok.bel.on h1 fun x hx=>hmay x (.inr hx),h4.fw,fun p u x=>h2 p u (ok.f0 p u x),fun p u x=>?_,h4.ob,fun k o x g1 g2=>⟨hmay x (h5 k o x g1 g2),h4.my k o x g1 g2⟩,h4.dj,h4.dF⟩
 ·obtain ⟨g1,g2,g3⟩:=ok.df.2.2 k hk
  obtain ⟨e1,e2,e3⟩:=h6 k (Nat.lt_of_lt_of_le hk ok.df.2.1)
  exact ⟨e1.trans g1,e2.trans g2,e3.trans g3⟩
 ·obtain ⟨g1,g2,g3⟩:=ok.tm i av h
  exact ⟨g1,g2,g3.mono hle g2⟩
 ·rcases h3 p u x with g|g
  ·exact ok.f1 p u g
  ·exact .inr (hmay _ g)
end
def isPt(n:Nat):AV→Bool
 | .pt k _ _=>Nat.blt k n
 | _=>false
theorem Ctg.introD {B:World→View→Prop} {g:Nat} (hS:Stab B g) {P:Program} {f fD:FuncId} {fn:Func} {c0 c1 c2:Code} {id:Nat} {o1 o2:Oper} {args caps:List AV} {res:AV} {xs:Array Operand} {d1:Tmp} {σ0 σ1:St} {T:List (Nat×AV)} {Mi Mf:List (Nat×AO)} {u u':FrameMode} {nk:Nat} (hf:P.funcs[f]?=some fn) (hb:fn.body=some (c0.seq (c1.seq ((Code.region id #[o1,o2] false).seq c2)))) {N:Nat} (hN:fn.ntmps=N) (hn:args.length≤N) (hp:∀ (i:Nat) av,args[i]?=some av→Bd 0 av)
  (hg1:o1.guard=none) (ho1:o1.op=.makeFunc (.func fD) #[] xs) (hd1:o1.dst=some d1) (hdN:Nat.blt d1 N=true) (hx:σ1.evs xs.toList=some caps) (hg2:o2.guard=none) (ho2:o2.op=.defer { callee:=.value (.tmp d1),args:=#[],argTypes:=#[] }) (hd2:o2.dst=none) (hnk:σ1.nk=nk) (hcap:caps.all (isPt nk)=true)
  (hcf:∀ vs w,(callFunc fD vs).run P w=.ok (.enter fD vs) w)
  (h0:∀ w0 F0,Holds B g ⟨w0,F0,N,fun _=>False,0,G0,[]⟩→W P ⟨w0,F0,N,fun _=>False,0,G0,[]⟩ c0 (St.init args) (fun e s=>e=.normal∧Tr ⟨w0,F0,N,fun _=>False,0,G0,[]⟩ s σ0))
  (h1:∀ w0 F0,Holds B g ⟨w0,F0,N,fun _=>False,0,G0,[]⟩→W P ⟨w0,F0,N,fun _=>False,0,G0,[]⟩ c1 σ0 (fun e s=>e=.normal∧Tr ⟨w0,F0,N,fun _=>False,0,G0,[]⟩ s σ1))
  (h2:∀ w0 F0 pg ds,Holds B g ⟨w0,F0,N,fun _=>False,nk,pg,ds⟩→W P ⟨w0,F0,N,fun _=>False,nk,pg,ds⟩ c2 (σ1.put d1 (.fn fD caps)) (fun e s=>mdOf e=some u∧Tr ⟨w0,F0,N,fun _=>False,nk,pg,ds⟩ s ⟨T,Mi,nk⟩))
  (hD:CtoD P fD caps Mi nk u u' Mf) (hs:settle u'=.returning) (hR:∀ C,Fin P fn C ⟨T,Mf,nk⟩ res):Ctg B P f args res:=by
 intro w F vs hB hF hRL
 subst hN hnk
 refine calls_of_wp_defers hf hb ?_
 have hsz:vs.toArray.size=args.length:=by simpa using hRL.1
 have hH:∀ np pg ds,Holds B g ⟨w,F,fn.ntmps,fun _=>False,np,pg,ds⟩:=fun np pg ds=>⟨fun w2 F2 k1 k2=>hS.2 w w2 F F2 (fun i hi=>k1.block i (Nat.lt_of_lt_of_le hi (hS.1 w F hB)) fun h=>h) k2 hB,fun x hx=>hx.elim (fun h=>Nat.le_trans (hS.1 w F hB) h) fun h=>h.elim⟩
 have ok0:Ok ⟨w,F,fn.ntmps,fun _=>False,0,G0,[]⟩ (St.init args) ⟨F,fun _=>0,fun _=>0,fun _=>undef,fun _ _=>False⟩ { tmps:=vs.toArray++Array.replicate (fn.ntmps - vs.toArray.size) undef,defers:=[] } w :=
  ⟨by simp;have:=hRL.1;omega,⟨rfl,Nat.le_refl _,fun k hk=>absurd hk (Nat.not_lt_zero k)⟩,fun i av hx=>by
   obtain ⟨_,h2⟩:=look_number args 0 i av hx
   simp only [Nat.sub_zero] at h2
   have hi:i < args.length:=(List.getElem?_eq_some_iff.1 h2).1
   have hv:i < vs.length:=by rw [hRL.1];exact hi
   refine ⟨by show i < fn.ntmps;omega,hp i av h2,.pu _ _ (hRL.2 i av _ h2 ?_)⟩
   simp [Array.getD_eq_getD_getElem?,Array.getElem?_append_left,hv],
   Kept.refl _ _,hF,fun _ _ h=>h,fun _ _ h=>.inl h,(fun k o h=>by cases h),(fun k o x h=>by cases h),(fun k o k' o' x h=>by cases h),(fun k o x p u h=>by cases h)⟩
 refine wp_seq (wp_mono (h0 w F (hH _ _ _) _ _ _ ok0) fun e a1 w1 ⟨s1,G1',⟨he,hs1⟩,ok1'⟩=>?_)
 subst he
 obtain ⟨G1,ok1⟩:=hs1 _ _ _ ok1'
 refine wp_seq (wp_mono (h1 w F (hH _ _ _) _ _ _ ok1) fun e a2 w2 ⟨s2,G2',⟨he,hs2⟩,ok2'⟩=>?_)
 subst he
 obtain ⟨G2,ok2⟩:=hs2 _ _ _ ok2'
 refine wp_seq (wp_dfr ok2 rfl hg1 ho1 hd1 hdN hx hg2 ho2 hd2 fun G3 a3 w3 cs ok3 hcs hcR=>?_)
 refine wp_mono (h2 w F G3 _ (hH _ _ _) G3 a3 w3 ok3) fun e a4 w4 ⟨s4,G4,⟨he,htr⟩,ok4⟩=>?_
 obtain ⟨G5,ok5⟩:=htr G4 a4 w4 ok4
 have hun:u≠.run:=by
  intro e2;subst e2;cases e<;>cases he
 have hl:Leaves P fn a4.tmps (fun e w'=>∃ v F',e=.returned v∧Below w.heap.size w w'∧View.le F F'∧(∀ p u,F' p=some u→w'.cell? p=some u)∧(∀ p u,F' p=some u→F p=some u∨w.heap.size≤p.block)∧RP F' res v) a4.defers u w4:=by
  rw [ok5.df.1]
  refine leaves_cons (f:=fD) (args:=cs) hun ?_ ?_
  ·simp [invoke,hcf]
  have hO:Obs G5 w4 Mi σ1.nk:=⟨ok5.fw,ok5.ob,fun k o x g1 g2=>(ok5.my k o x g1 g2).2,ok5.dj,ok5.dF⟩
  have hRc:∀ (i:Nat) av u,caps[i]?=some av→cs.toList[i]?=some u→R G5 av u:=fun i av u g1 g2=>by
   have r:=hcR i av u g1 (by simpa using g2)
   have hpt:=List.all_eq_true.1 hcap av (List.mem_of_getElem? g1)
   cases av with
   | pt k i j =>
    have hk:k < σ1.nk:=of_blt hpt
    obtain ⟨p,rfl,e1,e2,e3⟩:=r.pt_of
    obtain ⟨q1,q2,_⟩:=ok5.df.2.2 k hk
    exact .pt k i j p (e1.trans q1.symm) (e2.trans (by rw [q2])) e3
   | _=>cases hpt
  have hc:=hD w4 G5 cs.toList hO (by simpa using hcs) hRc
  rw [Array.toArray_toList] at hc
  refine hc.mono fun e2 u2 w5 ⟨hu2,v,G6,he2,k1,k2,k3,k4,k5,k6⟩=>?_
  subst hu2 he2
  show Leaves P fn a4.tmps _ [] (settle u2) w5
  rw [hs]
  have ok6:=ok5.afterD k1 k2 k3 k4 k5 k6
  obtain ⟨v,F',hr,hle,hfw,hnew,hres⟩:=hR _ G6 a4 w5 ok6
  exact ⟨v,hr,v,F',rfl,ok6.bel.to_below (fun _ h=>h),fun p u x=>hle p u (ok6.f0 p u x),hfw,fun p u x=>(hnew p u x).elim (fun y=>(ok6.f1 p u y).elim .inl fun z=>.inr (z.elim (fun h=>h) fun h=>h.elim)) fun z=>.inr (z.elim (fun h=>h) fun h=>h.elim),hres⟩
 cases e with
 | normal=>cases he;exact hl
 | ret=>cases he;exact hl
 | panic ch=>cases he;exact hl
 | _=>cases he
end
section
open Go.RowKit
def nw_h(s h:Int):Nat:=if h=0 then 0 else if s=1 then h.toNat else 15
def nw_v(s:Int)(lg h:Nat):Int:=if h=0 then 0 else if s=1 then(h:Int)else(lg:Int)
theorem nw_sys {s:Int} (hs:1≤s∧s≤4):s=1∨s=2∨s=3∨s=4:=by omega
theorem nw_fwd {s:Int} {h lg:Nat} (hs:1≤s∧s≤4) (ok:okH s h 15=true) (h1:h≠0→lg≠0) (h2:s=1→h≤lg):okH s (nw_v s lg h) lg=true∧pH s (nw_v s lg h) lg=pH s h 15∧0≤nw_v s lg h∧nw_v s lg h≤lg∧(0<nw_v s lg h↔0<h)∧nw_h s (nw_v s lg h)=if h=0 then 0 else if s=1 then h else 15:=by
 unfold nw_v nw_h
 by_cases h0:h=0
 ·subst h0
  rw [if_pos rfl]
  exact ⟨rfl,rfl,by omega,by omega,by omega,rfl⟩
 rw [if_neg h0]
 have hl:=h1 h0
 by_cases s1:s=1
 ·have h3:=h2 s1
  subst s1
  rw [if_pos rfl]
  refine ⟨?_,?_,by omega,by omega,by omega,?_⟩
  ·unfold okH rH;simp
  ·unfold pH rH
   rw [if_neg (by omega),if_pos rfl,if_neg (by omega),if_pos rfl]
  ·rw [if_neg (by omega),if_neg h0,if_pos rfl];exact Int.toNat_natCast h
 ·rw [if_neg s1]
  unfold okH at ok
  have hne:rH s h 15≠[]:=by
   intro e
   rw [e] at ok
   simp at ok
   exact h0 ok
  unfold rH at hne
  rw [if_neg s1] at hne
  by_cases q:(s=2∨s=4)∧(h:Int)=15
  ·have e2:rH s lg lg=[42]:=by unfold rH;rw [if_neg s1,if_pos ⟨q.1,rfl⟩]
   have e3:rH s h 15=[42]:=by unfold rH;rw [if_neg s1,if_pos q]
   refine ⟨?_,?_,by omega,by omega,by omega,?_⟩
   ·unfold okH
    rw [e2];simp
   ·unfold pH
    rw [if_neg (by omega),if_neg (by omega),e2,e3]
   ·rw [if_neg (by omega),if_neg h0,if_neg s1,if_neg s1]
  ·rw [if_neg q] at hne;exact absurd rfl hne
structure NwS(s:Int)(L:Int→Nat)(x:Stp):Prop where
 c:1≤x.1∧x.1≤14
 f:0≤x.2.1∧x.2.1≤18
 r:0≤x.2.2.1∧x.2.2.1≤3
 g:0≤x.2.2.2.1∧x.2.2.2.1≤4
 h:0≤x.2.2.2.2∧x.2.2.2.2≤(L x.1:Int)
 l:L x.1≤15
 z:0<x.2.2.2.2→x.2.1≠0
 k:stK s L x=true
def nw_W (s:Int)(L:Int→Nat)(n:Nat)(l:List Stp):List (List UInt8):=(List.range n).map (fun j:Nat=>stF s L l ((j:Int)+1))++(l.filter fun x=>decide ((n:Int)<x.1)).map (stT s L)
def nw_body (s:Int)(L:Int→Nat)(n:Nat)(l:List Stp):List (List UInt8):=if s=2 then outL s L n l++staffL s L n l else staffL s L n l++outL s L n l
theorem nw_rev (s:Int)(L:Int→Nat)(n:Nat)(l:List Stp):nr_rev s (nw_body s L n l)=nw_W s L n l:=by
 unfold nr_rev nw_body nw_W outL staffL
 by_cases e:s=2
 ·rw [if_pos e,if_pos e,if_pos e,List.reverse_append,List.reverse_reverse]
  congr 1
  apply List.ext_getElem
  ·simp
  ·intro j h1 h2
   have hj:j<n:=by simpa using h1
   simp only [List.getElem_reverse,List.getElem_map,List.getElem_range,List.length_map,List.length_range,cAt,if_pos e]
   congr 1;omega
 ·rw [if_neg e,if_neg e,if_neg e]
  congr 1
  apply List.map_congr_left
  intro j hj
  simp only [cAt,if_neg e]
section
variable {s:Int} {L:Int→Nat} {n:Nat} {l:List Stp}
def nw_st (s:Int)(L:Int→Nat)(x:N5):Stp:=(x.1,x.2.1,x.2.2.1,x.2.2.2.1,nw_v s (L x.1) x.2.2.2.2)
def NwH(s:Int)(L:Int→Nat)(x:N5):Prop:=(x.2.2.2.2≠0→L x.1≠0)∧(s=1→x.2.2.2.2≤L x.1)
theorem nw_cl_st (hs:1≤s∧s≤4) {crs:Int} {w:List UInt8} {x:N5} (h:nr_cl s crs w=some x) (hh:NwH s L x) (h15:L x.1≤15):NwS s L (nw_st s L x)∧stT s L (nw_st s L x)=w:=by
 obtain ⟨a1,a2,a3,a4⟩:=nr_cl_of h
 obtain ⟨a5,a6,a7⟩:=stM_ok a4
 have a8:=a6
 unfold cellOk at a8
 simp only [Bool.and_eq_true] at a8
 obtain ⟨b1,b2,b3,b4,b5,b6⟩:=nw_fwd hs a8.2 hh.1 hh.2
 obtain ⟨c,f,r,g,k⟩:=x
 dsimp only at a1 a2 a3 a5 a7 a8 b1 b2 b3 b4 b5 h15
 refine ⟨⟨?_,?_,?_,?_,?_,?_,?_,?_⟩,?_⟩
 ·show (1:Int)≤(c:Int)∧(c:Int)≤14;omega
 ·show (0:Int)≤(f:Int)∧(f:Int)≤18;omega
 ·show (0:Int)≤(r:Int)∧(r:Int)≤3;omega
 ·show (0:Int)≤(g:Int)∧(g:Int)≤4;omega
 ·exact ⟨b3,b4⟩
 ·exact h15
 ·exact fun q=>a5.2.2.2 (b5.1 q)
 ·show cellOk s c f r g (nw_v s (L c) k) (L c)=true
  unfold cellOk
  rw [a8.1.1.1,a8.1.1.2,a8.1.2,b1];rfl
 ·show cellS s c f r g (nw_v s (L c) k) (L c)=w
  rw [← a7]
  unfold cellS
  rw [b2]
theorem nw_x_mem {W:List (List UInt8)} {i:Nat} {x:N5} (hi:i<W.length)(h:x∈nr_x s n W i):nr_wd s n i W[i]=some (some x):=by
 rw [nr_x_at hi]at h
 cases hw:nr_wd s n i W[i]with
 | none=>rw [hw]at h;cases h
 | some o =>
  rw [hw]at h
  cases o with
  | none=>cases h
  | some y =>
   obtain rfl:x=y:=by simpa using h
   rfl
theorem nw_wd_cl {i:Nat} {w:List UInt8} {x:N5} (h:nr_wd s n i w=some (some x)):nr_cl s (if i<n then (i:Int)+1 else 0) w=some x:=by
 unfold nr_wd at h
 split at h
 ·rename_i hi
  rw [if_pos hi]
  split at h
  ·cases h
  ·obtain⟨y,hy,e⟩:=Option.map_eq_some_iff.1 h
   cases e;exact hy
 ·rename_i hi
  rw [if_neg hi]
  obtain⟨y,hy,e⟩:=Option.map_eq_some_iff.1 h
  cases e;exact hy
theorem nw_ch_of {V:List (List UInt8)} {nl:List N5} (hs:1≤s∧s≤4) (h6:n≤6) (h4:s=4→n=0) (h:nr_chW s n V=some nl) (hh:∀ x∈nl,NwH s L x) (h15:∀ c,L c≤15) :
  nw_W s L n (nl.map (nw_st s L))=V∧(∀ x∈nl.map (nw_st s L),NwS s L x)∧nr_asc nl∧nl≠[]:=by
 unfold nr_chW at h
 split at h
 ·rename_i hk
  obtain ⟨hn,hok,hasc,hne⟩:=hk
  have hnl:nr_L s n V V.length=nl:=Option.some.inj h
  rw [hnl] at hasc hne
  have hmem:∀ {i:Nat} {x:N5},i<V.length→x∈nr_x s n V i→x∈nl:=fun {i x} hi hx=>by rw [← hnl];exact nr_L_mem.2 ⟨i,hi,hx⟩
  have hcell:∀ {i:Nat} {x:N5} (hi:i<V.length),x∈nr_x s n V i→NwS s L (nw_st s L x)∧stT s L (nw_st s L x)=V[i]:=fun {i x} hi hx=>nw_cl_st hs (nw_wd_cl (nw_x_mem hi hx)) (hh x (hmem hi hx)) (h15 _)
  refine ⟨?_,fun y hy=>?_,hasc,hne⟩
  rotate_left
  ·obtain ⟨x,hx,rfl⟩:=List.mem_map.1 hy
   rw [← hnl] at hx
   obtain ⟨i,hi,hxi⟩:=nr_L_mem.1 hx
   exact (hcell hi hxi).1
  have hout:(nl.map (nw_st s L)).filter (fun x=>decide ((n:Int)<x.1))=(((List.range' n (V.length-n)).flatMap (nr_x s n V)).map (nw_st s L)):=by
   rw [← hnl]
   have e:nr_L s n V V.length=nr_L s n V n++(List.range' n (V.length-n)).flatMap (nr_x s n V):=by
    unfold nr_L
    rw [List.range_eq_range',show V.length=n+(V.length-n) by omega,← List.range'_append_1,List.flatMap_append,← List.range_eq_range']
    simp
   rw [e,List.map_append,List.filter_append]
   have e1:((nr_L s n V n).map (nw_st s L)).filter (fun x=>decide ((n:Int)<x.1))=[]:=by
    rw [List.filter_eq_nil_iff]
    intro y hy
    obtain ⟨x,hx,rfl⟩:=List.mem_map.1 hy
    obtain ⟨i,hi,hxi⟩:=nr_L_mem.1 hx
    have:=nr_x_on hi hxi
    show ¬ decide ((n:Int)<(x.1:Int))=true
    simp;omega
   have e2:(((List.range' n (V.length-n)).flatMap (nr_x s n V)).map (nw_st s L)).filter (fun x=>decide ((n:Int)<x.1))=((List.range' n (V.length-n)).flatMap (nr_x s n V)).map (nw_st s L):=by
    rw [List.filter_eq_self]
    intro y hy
    obtain ⟨x,hx,rfl⟩:=List.mem_map.1 hy
    obtain ⟨i,hi,hxi⟩:=List.mem_flatMap.1 hx
    have hi2:=List.mem_range'_1.1 hi
    have hb:=nr_x_bd hxi
    show decide ((n:Int)<(x.1:Int))=true
    rcases nr_x_out hi2.1 hxi with e4|e4
    ·have:=h4 e4;simp;omega
    ·simp;omega
   rw [e1,e2,List.nil_append]
  have hone:∀ d k,n≤k→k+d=V.length→(((List.range' k d).flatMap (nr_x s n V)).map (nw_st s L)).map (stT s L)=V.drop k:=by
   intro d
   induction d with
   | zero=>intro k _ hk;rw [List.drop_eq_nil_of_le (by omega)];rfl
   | succ d ih =>
    intro k hk hd
    have hkl:k<V.length:=by omega
    obtain ⟨x,hx⟩:=nr_wd_out_some hk (hok k hkl)
    have hxk:=nr_x_note hkl hx
    have ih2:=ih (k+1) zqo zqo
    have hc:=(hcell hkl (x:=x) (by rw [hxk];simp)).2
    rw [List.range'_succ,List.flatMap_cons,hxk,List.map_append,List.map_append,List.drop_eq_getElem_cons hkl]
    show [stT s L (nw_st s L x)]++_=_
    rw [hc]
    exact congrArg (V[k]::·) ih2
  unfold nw_W
  rw [hout]
  have h1:=hone (V.length-n) n (Nat.le_refl n) zqo
  rw [h1]
  have hst:((List.range n).map fun j:Nat=>stF s L (nl.map (nw_st s L)) ((j:Int)+1))=V.take n:=by
   apply List.ext_getElem
   ·simp;omega
   ·intro j j1 j2
    have hj:j<n:=by simpa using j1
    have hjl:j<V.length:=by omega
    rw [List.getElem_map,List.getElem_range,List.getElem_take]
    have huniq:∀ {x y:N5},x∈nl→y∈nl→x.1=y.1→x=y:=fun {x y} hx hy e=>by
     obtain ⟨a,ha,rfl⟩:=List.getElem_of_mem hx
     obtain ⟨b,hb,rfl⟩:=List.getElem_of_mem hy
     rcases Nat.lt_trichotomy a b with q|q|q
     ·have:=List.pairwise_iff_getElem.1 hasc a b ha hb q;omega
     ·subst q;rfl
     ·have:=List.pairwise_iff_getElem.1 hasc b a hb ha q;omega
    cases hw:nr_wd s n j V[j] with
    | none=>have:=hok j hjl;rw [hw] at this;cases this
    | some o =>
     cases o with
     | none =>
      have hd:V[j]=[45]:=by
       unfold nr_wd at hw
       rw [if_pos hj] at hw
       split at hw
       ·assumption
       ·obtain ⟨y,_,e⟩:=Option.map_eq_some_iff.1 hw
        cases e
      have hno:stOn (nl.map (nw_st s L)) ((j:Int)+1)=none:=by
       apply stOn_none
       intro y hy e
       obtain ⟨x,hx,rfl⟩:=List.mem_map.1 hy
       have hx2:=hx
       rw [← hnl] at hx2
       obtain ⟨i,hi,hxi⟩:=nr_L_mem.1 hx2
       have e2:(x.1:Int)=(j:Int)+1:=e
       rcases Nat.lt_or_ge i n with q|q
       ·have:=nr_x_on q hxi
        have:i=j:=by omega
        subst this
        rw [nr_x_dash hjl hw] at hxi
        cases hxi
       ·rcases nr_x_out q hxi with e4|e4
        ·have:=h4 e4;omega
        ·omega
      unfold stF
      rw [hno,hd]
     | some x =>
      have hxk:=nr_x_note hjl hw
      have hxm:=hmem hjl (x:=x) (by rw [hxk];simp)
      have hx1:=nr_wd_on hj hw
      have hc:=(hcell hjl (x:=x) (by rw [hxk];simp)).2
      cases hs2:stOn (nl.map (nw_st s L)) ((j:Int)+1) with
      | none =>
       exfalso
       unfold stOn at hs2
       rw [List.find?_eq_none] at hs2
       have:=hs2 (nw_st s L x) (List.mem_map.2 ⟨x,hxm,rfl⟩)
       apply this
       show ((x.1:Int) == (j:Int)+1)=true
       simp;omega
      | some y =>
       obtain ⟨m1,m2⟩:=stOn_eq hs2
       obtain ⟨z,hz,rfl⟩:=List.mem_map.1 m1
       have m3:(z.1:Int)=(j:Int)+1:=m2
       have:z=x:=huniq hz hxm zqo
       subst this
       unfold stF
       rw [hs2]
       exact hc
  rw [hst,List.take_append_drop]
 ·cases h
end
end
section
open Go.RowKit
def nwB(b:UInt8):Bool:=b != 32 && b != 10 && b != 126 && b != 37
theorem nwB_of {b:UInt8} (h:nwB b=true):b≠32∧b≠10∧b≠126∧b≠37:=by
 unfold nwB at h
 simp only [Bool.and_eq_true,bne_iff_ne]at h
 exact⟨h.1.1.1,h.1.1.2,h.1.2,h.2⟩
theorem nw_join:∀ (ls:List (List UInt8))(tl:List UInt8),joinW (ls++[tl])=rq_joinC 32 ls tl
 | [],tl=>by show tl++[]=tl;rw [List.append_nil]
 | l::ls,tl=>by
  rw [rq_joinC_cons,← nw_join ls tl]
  cases ls with
  | nil=>rfl
  | cons x r=>rfl
theorem nw_join_wds (t:List UInt8):joinW (rq_wds 32 t)=t:=by
 unfold rq_wds
 rw [nw_join,rq_spl_join]
theorem nw_scan {s:Int} {sg:List UInt8} {v i:Nat} (h:scanT (tmM s sg) 0 8=some (v,i)):v≤7∧i<3∧(v≠0∨i=0)∧tOk s v i=true∧tW v i=sg:=by
 rw [scanT_find] at h
 have h1:=List.find?_some h
 have h2:=List.mem_of_find?_eq_some h
 unfold progSigns at h2
 simp only [List.mem_flatMap,List.mem_range,List.mem_map,Prod.mk.injEq] at h2
 obtain⟨a,ha,b,hb,e1,e2⟩:=h2
 unfold tmM at h1
 simp only [Bool.and_eq_true,Bool.or_eq_true,bne_iff_ne,beq_iff_eq] at h1
 exact⟨by omega,by omega,h1.1,h1.2.1,h1.2.2⟩
theorem nw_sg {v i:Nat} (hv:v≤7) (hi:i<3) (h:v≠0∨i=0):sgOk v (sgD i) (sgT i)=true∧sgI (sgD i) (sgT i)=i:=by
 have h3:i=0∨i=1∨i=2:=by omega
 rcases h3 with rfl|rfl|rfl
 ·refine ⟨?_,rfl⟩
  unfold sgOk sgD sgT
  simp;omega
 ·refine ⟨?_,rfl⟩
  unfold sgOk sgD sgT
  simp;omega
 ·refine ⟨?_,rfl⟩
  unfold sgOk sgD sgT
  simp;omega
section
variable {s:Int} {p:Pce} {i:Int} {e:Ev}
theorem colW_eq:colW s p i e=headW s e++(if e.tie=true then [[126]] else if e.stops.length=0 then [[37]] else nw_body s (fun c=>longestN p.evs i c) (staffN s p) e.stops):=rfl
structure NwX (s:Int) (L:Int→Nat) (x:NC):Prop where
 sg:sgOk x.v (sgD x.i) (sgT x.i)=true
 sI:sgI (sgD x.i) (sgT x.i)=x.i
 tie:x.tie=true→x.l=[]
 asc:nr_asc x.l
 st:∀ y∈x.l,NwS s L (nw_st s L y)
theorem nr_rev_inj {s:Int} {a b:List (List UInt8)} (h:nr_rev s a=nr_rev s b):a=b:=by
 unfold nr_rev at h
 split at h
 ·exact List.reverse_inj.1 h
 ·exact h
theorem nw_line {t:List UInt8} {x:NC} (hs:1≤s∧s≤4) (hf:nr_form s (nr_staff s p.cs) t=some x) (hh:∀ y∈x.l,NwH s (fun c=>longestN p.evs i c) y) :
  colS s p i (nr_evW x fun y=>nw_v s (longestN p.evs i y.1) y.2.2.2.2)=t∧lackE s p i (nr_evW x fun y=>nw_v s (longestN p.evs i y.1) y.2.2.2.2)=[]∧NwX s (fun c=>longestN p.evs i c) x:=by
 obtain ⟨n6,n4⟩:nr_staff s p.cs≤6∧(s=4→nr_staff s p.cs=0):=by
  unfold nr_staff
  split
  ·exact ⟨by omega,fun _=>rfl⟩
  ·rename_i h;exact ⟨by omega,fun q=>absurd q h⟩
 have hjoin:=nw_join_wds t
 unfold nr_form at hf
 obtain ⟨ws,hws⟩:∃ z,rq_wds 32 t=z:=⟨_,rfl⟩
 rw [hws] at hf hjoin
 obtain ⟨bar,W,hbar,hW,hf⟩:∃ bar W,ws=(if bar=true then [[124]] else [])++W∧True∧nr_time s (nr_staff s p.cs) bar W=some x:=by
  cases ws with
  | nil=>cases hf
  | cons w r =>
   dsimp only at hf
   by_cases e:w=[124]
   ·rw [if_pos e] at hf
    exact ⟨true,r,by rw [e];rfl,trivial,hf⟩
   ·rw [if_neg e] at hf
    exact ⟨false,w::r,rfl,trivial,hf⟩
 obtain ⟨sg,w1,r1,rfl⟩:∃ sg w1 r1,W=sg::w1::r1:=by
  match W,hf with
  | [],hf=>cases hf
  | [_],hf=>cases hf
  | sg::w1::r1,_=>exact ⟨sg,w1,r1,rfl⟩
 have hf2:(scanT (tmM s sg) 0 8).bind (fun x=>nr_body s (nr_staff s p.cs) bar x.1 x.2 (w1::r1))=some x:=hf
 obtain ⟨⟨v,k⟩,hsc,hb⟩:=Option.bind_eq_some_iff.1 hf2
 dsimp only at hb
 obtain ⟨s1,s2,s3,s4,s5⟩:=nw_scan hsc
 obtain ⟨g1,g2⟩:=nw_sg s1 s2 s3
 have hB:x.bar=bar∧x.v=v∧x.i=k∧(x.tie=true→x.l=[]∧s≠4)∧(x.tie=false→x.l=[]→s≠3)∧nr_asc x.l∧(∀ y∈x.l,NwS s (fun c=>longestN p.evs i c) (nw_st s (fun c=>longestN p.evs i c) y)) ∧
   (if x.tie=true then [[126]] else if x.l=[] then [[37]] else nw_body s (fun c=>longestN p.evs i c) (nr_staff s p.cs) (x.l.map (nw_st s fun c=>longestN p.evs i c)))=w1::r1:=by
  unfold nr_body at hb
  split at hb
  ·rename_i q
   cases hb
   exact ⟨rfl,rfl,rfl,fun _=>⟨rfl,q.2⟩,fun h=>(by cases h),List.Pairwise.nil,fun y hy=>(List.not_mem_nil hy).elim,by rw [if_pos rfl];exact q.1.symm⟩
  ·split at hb
   ·rename_i q
    cases hb
    exact ⟨rfl,rfl,rfl,fun h=>(by cases h),fun _ _=>q.2,List.Pairwise.nil,fun y hy=>(List.not_mem_nil hy).elim,by rw [if_neg (fun h=>by cases h),if_pos rfl];exact q.1.symm⟩
   ·obtain ⟨l,hl,e⟩:=Option.map_eq_some_iff.1 hb
    subst e
    obtain ⟨c1,c2,c3,c4⟩:=nw_ch_of (L:=fun c=>longestN p.evs i c) hs n6 n4 (show nr_chW s (nr_staff s p.cs) (nr_rev s (w1::r1))=some l from hl) hh (fun c=>longestN_le p.evs i c)
    refine ⟨rfl,rfl,rfl,fun h=>(by cases h),fun _ h=>absurd h c4,c3,fun y hy=>c2 _ (List.mem_map.2 ⟨y,hy,rfl⟩),?_⟩
    show (if false=true then [[126]] else if l=[] then [[37]] else _)=_
    rw [if_neg (by decide),if_neg c4]
    rw [← nw_rev] at c1
    exact nr_rev_inj c1
 obtain ⟨e1,e2,e3,e4,e5,e6,e7,e8⟩:=hB
 have hstops:(nr_evW x fun y=>nw_v s (longestN p.evs i y.1) y.2.2.2.2).stops=x.l.map (nw_st s fun c=>longestN p.evs i c):=rfl
 refine ⟨?_,?_,⟨by rw [e2,e3];exact g1,by rw [e3];exact g2,fun h=>(e4 h).1,e6,e7⟩⟩
 ·unfold colS
  rw [colW_eq,hstops]
  have hh2:headW s (nr_evW x fun y=>nw_v s (longestN p.evs i y.1) y.2.2.2.2)=(if bar=true then [[124]] else [])++[sg]:=by
   unfold headW
   show (if x.bar=true then [[124],tW x.v (sgI (sgD x.i) (sgT x.i))] else [tW x.v (sgI (sgD x.i) (sgT x.i))])=_
   rw [e1,e2,e3,g2,s5]
   cases bar<;>rfl
  have hb2:(if (nr_evW x fun y=>nw_v s (longestN p.evs i y.1) y.2.2.2.2).tie=true then [[126]] else if (x.l.map (nw_st s fun c=>longestN p.evs i c)).length=0 then [[37]] else nw_body s (fun c=>longestN p.evs i c) (staffN s p) (x.l.map (nw_st s fun c=>longestN p.evs i c)):List (List UInt8))=w1::r1:=by
   rw [← e8]
   show (if x.tie=true then _ else _)=_
   by_cases q:x.l=[]
   ·rw [q];rfl
   ·rw [if_neg (show ¬ (x.l.map (nw_st s fun c=>longestN p.evs i c)).length=0 by rw [List.length_map];exact fun h=>q (List.eq_nil_of_length_eq_zero h)),if_neg q];rfl
  rw [hh2,hb2,← hjoin,hbar,List.append_assoc];rfl
 ·rw [lackE_eq]
  have a1:lk1 s i (nr_evW x fun y=>nw_v s (longestN p.evs i y.1) y.2.2.2.2).val=[]:=by
   show lk1 s i (x.v:Int)=[]
   unfold lk1
   by_cases q:(x.v:Int)=0
   ·rw [if_pos q]
    have h4:s≠4:=by
     intro h
     rw [h] at s4
     unfold tOk at s4
     rw [if_pos (by omega)] at s4
     simp at s4
    rcases nw_sys hs with rfl|rfl|rfl|rfl<;>first|rfl|exact absurd rfl h4
   ·rw [if_neg q]
  have a2:lk2 s i (nr_evW x fun y=>nw_v s (longestN p.evs i y.1) y.2.2.2.2).three=[]:=by
   show lk2 s i (sgT x.i)=[]
   unfold lk2
   by_cases q:sgT x.i=true
   ·rw [if_pos q]
    have hk:k=2:=by rw [e3] at q;unfold sgT at q;simpa using q
    have h4:s≠4:=by
     intro h
     rw [h,hk] at s4
     unfold tOk at s4
     rw [if_neg (by omega)] at s4
     simp at s4
    rcases nw_sys hs with rfl|rfl|rfl|rfl<;>first|rfl|exact absurd rfl h4
   ·rw [if_neg q]
  have a3:lk3 s i (nr_evW x fun y=>nw_v s (longestN p.evs i y.1) y.2.2.2.2).tie (nr_evW x fun y=>nw_v s (longestN p.evs i y.1) y.2.2.2.2).stops.length=[]:=by
   rw [hstops,List.length_map]
   show lk3 s i x.tie x.l.length=[]
   unfold lk3
   by_cases q:x.tie=true
   ·rw [if_pos q]
    have h4:=(e4 q).2
    rcases nw_sys hs with rfl|rfl|rfl|rfl<;>first|rfl|exact absurd rfl h4
   ·rw [if_neg q]
    by_cases q2:x.l.length=0
    ·rw [if_pos q2]
     have h3:=e5 (by simpa using q) (List.eq_nil_of_length_eq_zero q2)
     rcases nw_sys hs with rfl|rfl|rfl|rfl<;>first|rfl|exact absurd rfl h3
    ·rw [if_neg q2]
  rw [a1,a2,a3,hstops]
  show (x.l.map (nw_st s fun c=>longestN p.evs i c)).flatMap (lackStop s i fun c=>longestN p.evs i c)=[]
  rw [List.flatMap_eq_nil_iff]
  intro y hy
  obtain ⟨z,hz,rfl⟩:=List.mem_map.1 hy
  have hk:=(e7 z hz).k
  unfold stK cellOk at hk
  simp only [Bool.and_eq_true] at hk
  unfold lackStop
  rw [hk.1.1.1,hk.1.1.2,hk.1.2,hk.2]
  rfl
end
end
section
open Go.RowKit
def nw_sn(s:Int):List UInt8:=if s=1 then [102,114,101,110,99,104]else if s=2 then [105,116,97,108,105,97,110]else if s=3 then [115,112,97,110,105,115,104]else [103,101,114,109,97,110]
def nw_l0(s:Int):List UInt8:=[116,97,98,108,97,116,117,114,101,32]++nw_sn s
def nw_cols (s:Int)(p:Pce):List (List UInt8):=p.evs.mapIdx fun i e=>colS s p i e
def nw_T (s:Int)(p:Pce):List UInt8:=rq_joinC 10 (nw_l0 s::fmT p.cs p.st::nw_cols s p) []
theorem nw_l0_of {l:List UInt8} {s:Int} (h:nr_sys l=some s):l=nw_l0 s∧1≤s∧s≤4:=by
 unfold nr_sys at h
 split at h
 ·rename_i h0
  have hl:=(List.take_append_drop 10 l).symm
  rw [h0]at hl
  split at h
  ·rename_i e
   cases h
   exact⟨by rw [hl,← e];rfl,by decide,by decide⟩
  ·split at h
   ·rename_i e
    cases h
    exact⟨by rw [hl,← e];rfl,by decide,by decide⟩
   ·split at h
    ·rename_i e
     cases h
     exact⟨by rw [hl,← e];rfl,by decide,by decide⟩
    ·split at h
     ·rename_i e
      cases h
      exact⟨by rw [hl,← e];rfl,by decide,by decide⟩
     ·cases h
 ·cases h
theorem nw_notes_of {cs:List Crs}:∀ {l:List N5},nr_notes cs l=0→∀ x∈l,nr_note cs x=0
 | [],_,x,hx=>by cases hx
 | y::r,h,x,hx=>by
  unfold nr_notes at h
  by_cases e:nr_note cs y≠0
  ·rw [if_pos e]at h;exact absurd h e
  ·rw [if_neg e]at h
   rcases List.mem_cons.1 hx with rfl|hx
   ·exact Decidable.not_not.1 e
   ·exact nw_notes_of h x hx
theorem nw_note_iff {cs:List Crs} {x:N5} (h1:1≤x.1):nr_note cs x=0↔(x.1≤cs.length∧(x.2.1:Int)≤fretsOf cs x.1):=by
 unfold nr_note fretsOf
 rw [Int.toNat_natCast]
 constructor
 ·intro h
  split at h
  ·cases h
  ·split at h
   ·cases h
   ·omega
 ·intro h
  rw [if_neg (by omega),if_neg (by omega)]
section
variable {s:Int} {p:Pce}
structure NwP(s:Int)(p:Pce):Prop where
 e:pceE p=0
 y:1≤s∧s≤4
 l:∀ i(h:i<p.evs.length),lackE s p i p.evs[i]=[]
theorem nw_cols_len(s:Int)(p:Pce):(nw_cols s p).length=p.evs.length:=List.length_mapIdx
theorem nw_cols_at {i:Nat} (h:i<(nw_cols s p).length):(nw_cols s p)[i]=colS s p i (p.evs[i]'(by rw [← nw_cols_len s p];exact h)):=by
 rw [List.getElem_of_eq (show nw_cols s p=p.evs.mapIdx fun i e=>colS s p i e from rfl) h,List.getElem_mapIdx]
end
end
section
open Go.RowKit
theorem nr_bad_zero {s:Int} {cs:List Crs}:∀ {L:List (List UInt8)} {k:Nat},nr_bad s cs k L=none→∀ i (h:i<L.length),nr_err s cs (k+i) L[i]=0
 | t::r,k,h,i,hi=>by
  unfold nr_bad at h
  by_cases e:nr_err s cs k t≠0
  ·rw [if_pos e] at h;cases h
  ·rw [if_neg e] at h
   cases i with
   | zero=>exact Decidable.not_not.1 e
   | succ i =>
    have:=nr_bad_zero h i (by simpa using hi)
    rw [List.getElem_cons_succ,show k+(i+1)=k+1+i by omega]
    exact this
theorem nr_bad_ne {s:Int} {cs:List Crs}:∀ {L:List (List UInt8)} {k:Nat} {x:Nat×Int},nr_bad s cs k L=some x→x.2≠0
 | t::r,k,x,h=>by
  unfold nr_bad at h
  by_cases e:nr_err s cs k t≠0
  ·rw [if_pos e]at h;cases h;exact e
  ·rw [if_neg e]at h;exact nr_bad_ne h
structure NwR (t:List UInt8)(s:Int)(l1:List UInt8)(F:List (List UInt8)):Prop where
 spl:rq_spl 10 t=(nw_l0 s::l1::F,[])
 y:1≤s∧s≤4
 ins:(nr_ins l1).2=0
 len:F.length≤400
 bad:∀ i (h:i<F.length),nr_err s (nr_ins l1).1.1 i F[i]=0
 hb:nr_hB s (F.map (nr_nc s (nr_ins l1).1.1))=none
 eq:nr_read t=(s,⟨(nr_ins l1).1.1,(nr_ins l1).1.2,nr_fin s (F.map (nr_nc s (nr_ins l1).1.1))⟩,0,0)
theorem nw_read_of {t:List UInt8} (h:(nr_read t).2.2.2=0):∃ s l1 F,NwR t s l1 F:=by
 have e0:nr_read t=nr_one (rq_spl 10 t).2 (rq_spl 10 t).1:=rfl
 obtain⟨⟨F0,tl⟩,hF⟩:∃ z,rq_spl 10 t=z:=⟨_,rfl⟩
 rw [e0,hF]at h
 rw [hF]at e0
 dsimp only at h e0
 cases F0 with
 | nil=>exact absurd h (by show ¬ (4:Int)=0;decide)
 | cons l0 F1 =>
  unfold nr_one at h e0
  dsimp only at h e0
  cases hs:nr_sys l0 with
  | none=>rw [hs]at h;exact absurd h (by show ¬ (4:Int)=0;decide)
  | some s =>
   rw [hs]at h e0
   dsimp only at h e0
   cases F1 with
   | nil=>exact absurd h (by show ¬ (4:Int)=0;decide)
   | cons l1 F =>
    unfold nr_two at h e0
    dsimp only at h e0
    by_cases hi:(nr_ins l1).2≠0
    ·rw [if_pos hi]at h
     exact absurd h hi
    rw [if_neg hi]at h e0
    by_cases hm:400<F.length+(if tl=[]then 0 else 1)
    ·rw [if_pos hm]at h
     exact absurd h (by show ¬ (2:Int)=0;decide)
    rw [if_neg hm]at h e0
    unfold nr_evs at h e0
    cases hb:nr_bad s (nr_ins l1).1.1 0 F with
    | some x =>
     rw [hb]at h
     exact absurd h (nr_bad_ne hb)
    | none =>
     rw [hb]at h e0
     dsimp only at h e0
     by_cases ht:tl≠[]
     ·rw [if_pos ht]at h
      exact absurd h (by show ¬ (4:Int)=0;decide)
     rw [if_neg ht]at h e0
     have ht2:tl=[]:=Decidable.not_not.1 ht
     cases hh:nr_hB s (F.map (nr_nc s (nr_ins l1).1.1))with
     | some i =>
      rw [hh]at h
      exact absurd h (by show ¬ (24:Int)=0;decide)
     | none =>
      rw [hh]at e0
      obtain⟨q1,q2⟩:=nw_l0_of hs
      subst q1
      subst ht2
      refine⟨s,l1,F,hF,q2,Decidable.not_not.1 hi,by simpa using hm,fun i hi=>?_,hh,e0⟩
      have:=nr_bad_zero hb i hi
      rw [Nat.zero_add]at this
      exact this
theorem nw_err_of {s:Int} {cs:List Crs} {k:Nat} {t:List UInt8} (h:nr_err s cs k t=0):nr_form s (nr_staff s cs) t=some (nr_nc s cs t)∧¬ (k=0∧(nr_nc s cs t).v=0)∧¬ (k=0∧(nr_nc s cs t).tie=true)∧∀ y∈(nr_nc s cs t).l,nr_note cs y=0:=by
 unfold nr_err at h
 unfold nr_nc
 cases hf:nr_form s (nr_staff s cs) t with
 | none=>rw [hf] at h;cases h
 | some x =>
  rw [hf] at h
  dsimp only at h
  unfold nr_chk at h
  refine ⟨rfl,?_⟩
  show ¬ (k=0∧x.v=0)∧¬ (k=0∧x.tie=true)∧∀ y∈x.l,nr_note cs y=0
  by_cases h1:(k == 0)=true∧x.v=0
  ·rw [if_pos h1] at h;cases h
  ·rw [if_neg h1] at h
   by_cases h2:((k == 0) && x.tie)=true
   ·rw [if_pos h2] at h;cases h
   ·rw [if_neg h2] at h
    refine ⟨fun q=>h1 ⟨by simpa using q.1,q.2⟩,fun q=>h2 (by rw [q.1,q.2];rfl),nw_notes_of h⟩
theorem nw_ins_chk {l:List UInt8} (h:(nr_ins l).2=0):insE (nr_ins l).1.1 (nr_ins l).1.2=0:=by
 unfold nr_ins at h ⊢
 split at h
 ·rename_i c;exact absurd h c
 ·rename_i c
  split at h
  ·rename_i c2;exact absurd h c2
  ·rename_i c2
   rw [if_neg c,if_neg c2]
   exact Decidable.not_not.1 c2
theorem evsE_zero {p:Pce}:∀ {l:List Ev} {k:Nat},(∀ i (h:i<l.length),evE p ((k+i:Nat):Int) l[i]=0)→evsE p k l=0
 | [],_,_=>rfl
 | e::r,k,h=>by
  have h0:=h 0 (by simp)
  simp only [Nat.add_zero,List.getElem_cons_zero] at h0
  unfold evsE
  rw [if_neg (by rw [h0];decide)]
  exact evsE_zero fun i hi=>by
   have:=h (i+1) (by simpa using hi)
   rw [List.getElem_cons_succ] at this
   rw [← this];congr 2;omega
theorem nw_pceE_of {p:Pce} (h1:insE p.cs p.st=0)(h2:p.evs.length≤400)(h3:∀ i (h:i<p.evs.length),evE p i p.evs[i]=0):pceE p=0:=by
 unfold pceE
 rw [if_neg (by rw [h1];decide),if_neg (by omega)]
 exact evsE_zero fun i hi=>by rw [Nat.zero_add];exact h3 i hi
theorem stopsE_zero {p:Pce} {i:Int}:∀ {l:List Stp} {last:Int},(l.Pairwise fun x y=>x.1<y.1)→(∀ x∈l,last<x.1)→(∀ x∈l,∀ la,la<x.1→stopE p i x la=0)→stopsE p i last l=0
 | [],_,_,_,_=>rfl
 | x::r,last,h1,h2,h3=>by
  unfold stopsE
  rw [if_neg (by rw [h3 x (by simp) last (h2 x (by simp))];decide)]
  exact stopsE_zero (List.pairwise_cons.1 h1).2 (List.pairwise_cons.1 h1).1 fun y hy=>h3 y (by simp [hy])
section
variable {t:List UInt8} {s:Int} {l1:List UInt8} {F:List (List UInt8)}
noncomputable def nw_P (s:Int)(l1:List UInt8)(F:List (List UInt8)):Pce:=⟨(nr_ins l1).1.1,(nr_ins l1).1.2,nr_fin s (F.map (nr_nc s (nr_ins l1).1.1))⟩
theorem nr_fin_len(s:Int)(E:List NC):(nr_fin s E).length=E.length:=List.length_mapIdx
theorem nw_fin_long (s:Int)(E:List NC)(i c:Int):longestN (nr_fin s E) i c=longestN (E.map nr_ev0) i c:=by
 refine nr_longest ?_ i c
 unfold nr_fin
 apply List.ext_getElem
 ·simp
 ·intro k a1 a2
  have hk:k < E.length:=by simpa using a2
  simp only [List.getElem_map,List.getElem_mapIdx]
  unfold nr_crsE nr_ev0 nr_evW restB
  refine Prod.ext ?_ ?_
  ·show List.map _ (List.map _ _)=List.map _ (List.map _ _)
   rw [List.map_map,List.map_map];rfl
  ·show ((List.map _ E[k].l).length == 0 && !E[k].tie)=((List.map _ E[k].l).length == 0 && !E[k].tie)
   rw [List.length_map,List.length_map]
theorem nw_P_len (h:NwR t s l1 F):(nw_P s l1 F).evs.length=F.length:=by
 show (nr_fin s (F.map (nr_nc s (nr_ins l1).1.1))).length=_
 rw [nr_fin_len,List.length_map]
theorem nw_event (h:NwR t s l1 F) {i:Nat} (hi:i < (nw_P s l1 F).evs.length) (hF:i < F.length) :
  colS s (nw_P s l1 F) i (nw_P s l1 F).evs[i]=F[i]∧lackE s (nw_P s l1 F) i (nw_P s l1 F).evs[i]=[]∧evE (nw_P s l1 F) i (nw_P s l1 F).evs[i]=0∧(nw_P s l1 F).evs[i].stops.length≤20:=by
 obtain ⟨e1,e2,e3,e4⟩:=nw_err_of (h.bad i hF)
 have hbn:=h.hb
 unfold nr_hB at hbn
 rw [List.find?_eq_none] at hbn
 have hb:=hbn i (List.mem_range.2 (by rw [List.length_map];exact hF))
 rw [List.getElem?_map,List.getElem?_eq_getElem hF] at hb
 have hb2:∀ y∈(nr_nc s (nr_ins l1).1.1 F[i]).l,nr_hE s (F.map (nr_nc s (nr_ins l1).1.1)) i y=false:=by
  rw [Bool.not_eq_true] at hb
  intro y hy
  have:=List.any_eq_false.1 (show ((nr_nc s (nr_ins l1).1.1 F[i]).l.any (nr_hE s (F.map (nr_nc s (nr_ins l1).1.1)) i))=false from hb) y hy
  simpa using this
 have hlong:∀ c,longestN (nw_P s l1 F).evs i c=longestN ((F.map (nr_nc s (nr_ins l1).1.1)).map nr_ev0) i c:=fun c=>nw_fin_long _ _ _ _
 have hev:(nw_P s l1 F).evs[i]=nr_evW (nr_nc s (nr_ins l1).1.1 F[i]) fun y=>nw_v s (longestN (nw_P s l1 F).evs i y.1) y.2.2.2.2:=by
  have:(nw_P s l1 F).evs[i]=nr_evW (nr_nc s (nr_ins l1).1.1 F[i]) (nr_hV s (F.map (nr_nc s (nr_ins l1).1.1)) i):=by
   rw [List.getElem_of_eq (show (nw_P s l1 F).evs=(F.map (nr_nc s (nr_ins l1).1.1)).mapIdx fun i x=>nr_evW x (nr_hV s (F.map (nr_nc s (nr_ins l1).1.1)) i) from rfl) hi,List.getElem_mapIdx,List.getElem_map]
  rw [this]
  congr 1
  funext y
  rw [hlong];rfl
 have hH:∀ y∈(nr_nc s (nr_ins l1).1.1 F[i]).l,NwH s (fun c=>longestN (nw_P s l1 F).evs i c) y:=fun y hy=>by
  have:=hb2 y hy
  unfold nr_hE nr_lg at this
  rw [← hlong] at this
  refine ⟨fun h0=>?_,fun h1=>?_⟩
  ·intro hz
   rw [decide_eq_true h0,decide_eq_true (show ((longestN (nw_P s l1 F).evs i y.1:Nat):Int)=0 by rw [show longestN (nw_P s l1 F).evs i y.1=0 from hz];rfl)] at this
   simp at this
  ·by_cases h0:y.2.2.2.2=0
   ·rw [h0];exact Nat.zero_le _
   ·rcases Nat.lt_or_ge (longestN (nw_P s l1 F).evs i y.1) y.2.2.2.2 with q|q
    ·rw [decide_eq_true h0,decide_eq_true h1,decide_eq_true (show ((longestN (nw_P s l1 F).evs i y.1:Nat):Int) < ((y.2.2.2.2:Nat):Int) by omega)] at this
     simp at this
    ·exact q
 obtain ⟨c1,c2,c3⟩:=nw_line (p:=nw_P s l1 F) (i:=(i:Int)) h.y e1 hH
 rw [← hev] at c1 c2
 refine ⟨c1,c2,?_,?_⟩
 ·-- the event is valid
  have hstops:(nw_P s l1 F).evs[i].stops=(nr_nc s (nr_ins l1).1.1 F[i]).l.map (nw_st s fun c=>longestN (nw_P s l1 F).evs i c):=by rw [hev];rfl
  have hval:(nw_P s l1 F).evs[i].val=((nr_nc s (nr_ins l1).1.1 F[i]).v:Int):=by rw [hev];rfl
  have htie:(nw_P s l1 F).evs[i].tie=(nr_nc s (nr_ins l1).1.1 F[i]).tie:=by rw [hev];rfl
  have hsg:sgOk (nw_P s l1 F).evs[i].val (nw_P s l1 F).evs[i].dot (nw_P s l1 F).evs[i].three=true:=by rw [hev];exact c3.sg
  unfold evE
  rw [hstops,htie,hval] at *
  rw [if_neg (fun q=>by
   rcases q with q|q
   ·have:=hsg
    rw [q] at this;cases this
   ·exact e2 ⟨by omega,by omega⟩),if_neg (fun q=>by
   have hnil:=c3.tie q.1
   rcases q.2 with k|k
   ·rw [hnil] at k;simp at k
   ·exact e3 ⟨by omega,q.1⟩)]
  refine stopsE_zero ?_ ?_ ?_
  ·rw [List.pairwise_map]
   refine List.Pairwise.imp (fun {a b} hab=>?_) c3.asc
   show ((a.1:Nat):Int) < ((b.1:Nat):Int)
   omega
  ·intro x hx
   obtain ⟨y,hy,rfl⟩:=List.mem_map.1 hx
   have:=(c3.st y hy).c
   show 0 < (y.1:Int)
   have h2:(1:Int)≤(y.1:Int):=this.1
   omega
  ·intro x hx la hla
   obtain ⟨y,hy,rfl⟩:=List.mem_map.1 hx
   obtain ⟨d1,d2,d3,d4,d5,d6,d7,d8⟩:=c3.st y hy
   have h1:1≤y.1:=by have h2:(1:Int)≤(y.1:Int):=d1.1;omega
   obtain ⟨f1,f2⟩:=(nw_note_iff h1).1 (e4 y hy)
   have a1:(nw_st s (fun c=>longestN (nw_P s l1 F).evs i c) y).1=(y.1:Int):=rfl
   have a2:(nw_st s (fun c=>longestN (nw_P s l1 F).evs i c) y).2.1=(y.2.1:Int):=rfl
   have a3:(nw_P s l1 F).cs=(nr_ins l1).1.1:=rfl
   refine stopE_ok ?_ ?_ ?_ ?_ ?_
   ·rw [a1,a3];omega
   ·rw [a1,a2,a3];omega
   ·omega
   ·omega
   ·intro q
    rcases q with q|q
    ·rcases q with q|q
     ·omega
     ·omega
    ·exact d7 q.1 q.2
 ·rw [hev]
  show ((nr_nc s (nr_ins l1).1.1 F[i]).l.map _).length≤20
  rw [List.length_map]
  rcases nr_asc_len (a:=0) c3.asc (fun x hx=>by
   have h2:=(c3.st x hx).c
   have h3:(1:Int)≤(x.1:Int)∧(x.1:Int)≤14:=h2
   omega) with q|q
  ·omega
  ·rw [q];simp
theorem nw_written (h:NwR t s l1 F):NwP s (nw_P s l1 F)∧PcOk (nw_P s l1 F)∧nw_T s (nw_P s l1 F)=rq_joinC 10 (nw_l0 s::fmT (nw_P s l1 F).cs (nw_P s l1 F).st::F) []:=by
 have hl:=nw_P_len h
 have hI:=nw_ins_chk h.ins
 obtain⟨i1,i2,i3,_,_⟩:=insE_len hI
 have hcols:nw_cols s (nw_P s l1 F)=F:=by
  apply List.ext_getElem
  ·rw [nw_cols_len,hl]
  ·intro i a1 a2
   rw [nw_cols_at a1]
   exact (nw_event h _ a2).1
 refine⟨⟨nw_pceE_of hI (by have:=h.len;omega) fun i hi=>(nw_event h hi zqo).2.2.1,h.y,fun i hi=>(nw_event h hi zqo).2.1⟩,⟨?_,?_,?_,fun k hk=>(nw_event h hk zqo).2.2.2⟩,?_⟩
 ·show (nr_ins l1).1.1.length≤64;omega
 ·show (nr_ins l1).1.2.length≤64;omega
 ·have:=h.len;omega
 ·unfold nw_T;rw [hcols]
end
end
end Go.Proofs.YthehkchjdkdbiaaGreatDoor
