/- Lines, numbers: the reference. -/
import Derived.Test.YthehkchjdkdbiaaGreatDoorNrNGq
set_option maxHeartbeats 4000000
set_option maxRecDepth 100000
set_option linter.unusedVariables false
set_option linter.unusedSimpArgs false
namespace Go.Proofs.YthehkchjdkdbiaaGreatDoor
section
open Go.RowKit
theorem nw_fwd {s:Int} {h lg:Nat} (hs:1≤s∧s≤4) (ok:okH s h 15=true) (h1:h≠0→lg≠0) (h2:s=1→h≤lg):okH s (nw_v s lg h) lg=true∧pH s (nw_v s lg h) lg=pH s h 15∧0≤nw_v s lg h∧nw_v s lg h≤lg∧(0<nw_v s lg h↔0<h)∧nw_h s (nw_v s lg h)=if h=0 then 0 else if s=1 then h else 15:=by
 unfold nw_v nw_h
 by_cases h0:h=0
 ·subst h0
  rw [if_pos rfl]
  exact ⟨rfl,rfl,by omega,by omega,by omega,rfl⟩
 rw [if_neg h0]
 have hl:=h1 h0
 by_cases s1:s=1
 ·have h3:=h2 s1
  subst s1
  rw [if_pos rfl]
  refine ⟨?_,?_,by omega,by omega,by omega,?_⟩
  ·unfold okH rH;simp
  ·unfold pH rH
   rw [if_neg (by omega),if_pos rfl,if_neg (by omega),if_pos rfl]
  ·rw [if_neg (by omega),if_neg h0,if_pos rfl];exact Int.toNat_natCast h
 ·rw [if_neg s1]
  unfold okH at ok
  have hne:rH s h 15≠[]:=by
   intro e
   rw [e] at ok
   simp at ok
   exact h0 ok
  unfold rH at hne
  rw [if_neg s1] at hne
  by_cases q:(s=2∨s=4)∧(h:Int)=15
  ·have e2:rH s lg lg=[42]:=by unfold rH;rw [if_neg s1,if_pos ⟨q.1,rfl⟩]
   have e3:rH s h 15=[42]:=by unfold rH;rw [if_neg s1,if_pos q]
   refine ⟨?_,?_,by omega,by omega,by omega,?_⟩
   ·unfold okH
    rw [e2];simp
   ·unfold pH
    rw [if_neg (by omega),if_neg (by omega),e2,e3]
   ·rw [if_neg (by omega),if_neg h0,if_neg s1,if_neg s1]
  ·rw [if_neg q] at hne;exact absurd rfl hne
section
variable {s:Int} {L:Int→Nat} {n:Nat} {l:List Stp}
def NwH(s:Int)(L:Int→Nat)(x:N5):Prop:=(x.2.2.2.2≠0→L x.1≠0)∧(s=1→x.2.2.2.2≤L x.1)
theorem nw_cl_st (hs:1≤s∧s≤4) {crs:Int} {w:List UInt8} {x:N5} (h:nr_cl s crs w=some x) (hh:NwH s L x) (h15:L x.1≤15):NwS s L (nw_st s L x)∧stT s L (nw_st s L x)=w:=by
 obtain ⟨a1,a2,a3,a4⟩:=nr_cl_of h
 obtain ⟨a5,a6,a7⟩:=stM_ok a4
 have a8:=a6
 unfold cellOk at a8
 simp only [Bool.and_eq_true] at a8
 obtain ⟨b1,b2,b3,b4,b5,b6⟩:=nw_fwd hs a8.2 hh.1 hh.2
 obtain ⟨c,f,r,g,k⟩:=x
 dsimp only at a1 a2 a3 a5 a7 a8 b1 b2 b3 b4 b5 h15
 refine ⟨⟨?_,?_,?_,?_,?_,?_,?_,?_⟩,?_⟩
 ·show (1:Int)≤(c:Int)∧(c:Int)≤14;omega
 ·show (0:Int)≤(f:Int)∧(f:Int)≤18;omega
 ·show (0:Int)≤(r:Int)∧(r:Int)≤3;omega
 ·show (0:Int)≤(g:Int)∧(g:Int)≤4;omega
 ·exact ⟨b3,b4⟩
 ·exact h15
 ·exact fun q=>a5.2.2.2 (b5.1 q)
 ·show cellOk s c f r g (nw_v s (L c) k) (L c)=true
  unfold cellOk
  rw [a8.1.1.1,a8.1.1.2,a8.1.2,b1];rfl
 ·show cellS s c f r g (nw_v s (L c) k) (L c)=w
  rw [← a7]
  unfold cellS
  rw [b2]
theorem nw_x_mem {W:List (List UInt8)} {i:Nat} {x:N5} (hi:i<W.length)(h:x∈nr_x s n W i):nr_wd s n i W[i]=some (some x):=by
 rw [nr_x_at hi]at h
 cases hw:nr_wd s n i W[i]with
 | none=>rw [hw]at h;cases h
 | some o =>
  rw [hw]at h
  cases o with
  | none=>cases h
  | some y =>
   obtain rfl:x=y:=by simpa using h
   rfl
theorem nw_wd_cl {i:Nat} {w:List UInt8} {x:N5} (h:nr_wd s n i w=some (some x)):nr_cl s (if i<n then (i:Int)+1 else 0) w=some x:=by
 unfold nr_wd at h
 split at h
 ·rename_i hi
  rw [if_pos hi]
  split at h
  ·cases h
  ·obtain⟨y,hy,e⟩:=Option.map_eq_some_iff.1 h
   cases e;exact hy
 ·rename_i hi
  rw [if_neg hi]
  obtain⟨y,hy,e⟩:=Option.map_eq_some_iff.1 h
  cases e;exact hy
theorem nw_ch_of {V:List (List UInt8)} {nl:List N5} (hs:1≤s∧s≤4) (h6:n≤6) (h4:s=4→n=0) (h:nr_chW s n V=some nl) (hh:∀ x∈nl,NwH s L x) (h15:∀ c,L c≤15) :
  nw_W s L n (nl.map (nw_st s L))=V∧(∀ x∈nl.map (nw_st s L),NwS s L x)∧nr_asc nl∧nl≠[]:=by
 unfold nr_chW at h
 split at h
 ·rename_i hk
  obtain ⟨hn,hok,hasc,hne⟩:=hk
  have hnl:nr_L s n V V.length=nl:=Option.some.inj h
  rw [hnl] at hasc hne
  have hmem:∀ {i:Nat} {x:N5},i<V.length→x∈nr_x s n V i→x∈nl:=fun {i x} hi hx=>by rw [← hnl];exact nr_L_mem.2 ⟨i,hi,hx⟩
  have hcell:∀ {i:Nat} {x:N5} (hi:i<V.length),x∈nr_x s n V i→NwS s L (nw_st s L x)∧stT s L (nw_st s L x)=V[i]:=fun {i x} hi hx=>nw_cl_st hs (nw_wd_cl (nw_x_mem hi hx)) (hh x (hmem hi hx)) (h15 _)
  refine ⟨?_,fun y hy=>?_,hasc,hne⟩
  rotate_left
  ·obtain ⟨x,hx,rfl⟩:=List.mem_map.1 hy
   rw [← hnl] at hx
   obtain ⟨i,hi,hxi⟩:=nr_L_mem.1 hx
   exact (hcell hi hxi).1
  have hout:(nl.map (nw_st s L)).filter (fun x=>decide ((n:Int)<x.1))=(((List.range' n (V.length-n)).flatMap (nr_x s n V)).map (nw_st s L)):=by
   rw [← hnl]
   have e:nr_L s n V V.length=nr_L s n V n++(List.range' n (V.length-n)).flatMap (nr_x s n V):=by
    unfold nr_L
    rw [List.range_eq_range',show V.length=n+(V.length-n) by omega,← List.range'_append_1,List.flatMap_append,← List.range_eq_range']
    simp
   rw [e,List.map_append,List.filter_append]
   have e1:((nr_L s n V n).map (nw_st s L)).filter (fun x=>decide ((n:Int)<x.1))=[]:=by
    rw [List.filter_eq_nil_iff]
    intro y hy
    obtain ⟨x,hx,rfl⟩:=List.mem_map.1 hy
    obtain ⟨i,hi,hxi⟩:=nr_L_mem.1 hx
    have:=nr_x_on hi hxi
    show ¬ decide ((n:Int)<(x.1:Int))=true
    simp;omega
   have e2:(((List.range' n (V.length-n)).flatMap (nr_x s n V)).map (nw_st s L)).filter (fun x=>decide ((n:Int)<x.1))=((List.range' n (V.length-n)).flatMap (nr_x s n V)).map (nw_st s L):=by
    rw [List.filter_eq_self]
    intro y hy
    obtain ⟨x,hx,rfl⟩:=List.mem_map.1 hy
    obtain ⟨i,hi,hxi⟩:=List.mem_flatMap.1 hx
    have hi2:=List.mem_range'_1.1 hi
    have hb:=nr_x_bd hxi
    show decide ((n:Int)<(x.1:Int))=true
    rcases nr_x_out hi2.1 hxi with e4|e4
    ·have:=h4 e4;simp;omega
    ·simp;omega
   rw [e1,e2,List.nil_append]
  have hone:∀ d k,n≤k→k+d=V.length→(((List.range' k d).flatMap (nr_x s n V)).map (nw_st s L)).map (stT s L)=V.drop k:=by
   intro d
   induction d with
   | zero=>intro k _ hk;rw [List.drop_eq_nil_of_le (by omega)];rfl
   | succ d ih =>
    intro k hk hd
    have hkl:k<V.length:=by omega
    obtain ⟨x,hx⟩:=nr_wd_out_some hk (hok k hkl)
    have hxk:=nr_x_note hkl hx
    have ih2:=ih (k+1) zqo zqo
    have hc:=(hcell hkl (x:=x) (by rw [hxk];simp)).2
    rw [List.range'_succ,List.flatMap_cons,hxk,List.map_append,List.map_append,List.drop_eq_getElem_cons hkl]
    show [stT s L (nw_st s L x)]++_=_
    rw [hc]
    exact congrArg (V[k]::·) ih2
  unfold nw_W
  rw [hout]
  have h1:=hone (V.length-n) n (Nat.le_refl n) zqo
  rw [h1]
  have hst:((List.range n).map fun j:Nat=>stF s L (nl.map (nw_st s L)) ((j:Int)+1))=V.take n:=by
   apply List.ext_getElem
   ·simp;omega
   ·intro j j1 j2
    have hj:j<n:=by simpa using j1
    have hjl:j<V.length:=by omega
    rw [List.getElem_map,List.getElem_range,List.getElem_take]
    have huniq:∀ {x y:N5},x∈nl→y∈nl→x.1=y.1→x=y:=fun {x y} hx hy e=>by
     obtain ⟨a,ha,rfl⟩:=List.getElem_of_mem hx
     obtain ⟨b,hb,rfl⟩:=List.getElem_of_mem hy
     rcases Nat.lt_trichotomy a b with q|q|q
     ·have:=List.pairwise_iff_getElem.1 hasc a b ha hb q;omega
     ·subst q;rfl
     ·have:=List.pairwise_iff_getElem.1 hasc b a hb ha q;omega
    cases hw:nr_wd s n j V[j] with
    | none=>have:=hok j hjl;rw [hw] at this;cases this
    | some o =>
     cases o with
     | none =>
      have hd:V[j]=[45]:=by
       unfold nr_wd at hw
       rw [if_pos hj] at hw
       split at hw
       ·assumption
       ·obtain ⟨y,_,e⟩:=Option.map_eq_some_iff.1 hw
        cases e
      have hno:stOn (nl.map (nw_st s L)) ((j:Int)+1)=none:=by
       apply stOn_none
       intro y hy e
       obtain ⟨x,hx,rfl⟩:=List.mem_map.1 hy
       have hx2:=hx
       rw [← hnl] at hx2
       obtain ⟨i,hi,hxi⟩:=nr_L_mem.1 hx2
       have e2:(x.1:Int)=(j:Int)+1:=e
       rcases Nat.lt_or_ge i n with q|q
       ·have:=nr_x_on q hxi
        have:i=j:=by omega
        subst this
        rw [nr_x_dash hjl hw] at hxi
        cases hxi
       ·rcases nr_x_out q hxi with e4|e4
        ·have:=h4 e4;omega
        ·omega
      unfold stF
      rw [hno,hd]
     | some x =>
      have hxk:=nr_x_note hjl hw
      have hxm:=hmem hjl (x:=x) (by rw [hxk];simp)
      have hx1:=nr_wd_on hj hw
      have hc:=(hcell hjl (x:=x) (by rw [hxk];simp)).2
      cases hs2:stOn (nl.map (nw_st s L)) ((j:Int)+1) with
      | none =>
       exfalso
       unfold stOn at hs2
       rw [List.find?_eq_none] at hs2
       have:=hs2 (nw_st s L x) (List.mem_map.2 ⟨x,hxm,rfl⟩)
       apply this
       show ((x.1:Int) == (j:Int)+1)=true
       simp;omega
      | some y =>
       obtain ⟨m1,m2⟩:=stOn_eq hs2
       obtain ⟨z,hz,rfl⟩:=List.mem_map.1 m1
       have m3:(z.1:Int)=(j:Int)+1:=m2
       have:z=x:=huniq hz hxm zqo
       subst this
       unfold stF
       rw [hs2]
       exact hc
  rw [hst,List.take_append_drop]
 ·cases h
end
end
section
open Go.RowKit
theorem nw_join:∀ (ls:List (List UInt8))(tl:List UInt8),joinW (ls++[tl])=rq_joinC 32 ls tl
 | [],tl=>by show tl++[]=tl;rw [List.append_nil]
 | l::ls,tl=>by
  rw [rq_joinC_cons,← nw_join ls tl]
  cases ls with
  | nil=>rfl
  | cons x r=>rfl
theorem nw_join_wds (t:List UInt8):joinW (rq_wds 32 t)=t:=by
 unfold rq_wds
 rw [nw_join,rq_spl_join]
theorem nw_sg {v i:Nat} (hv:v≤7) (hi:i<3) (h:v≠0∨i=0):sgOk v (sgD i) (sgT i)=true∧sgI (sgD i) (sgT i)=i:=by
 have h3:i=0∨i=1∨i=2:=by omega
 rcases h3 with rfl|rfl|rfl
 ·refine ⟨?_,rfl⟩
  unfold sgOk sgD sgT
  simp;omega
 ·refine ⟨?_,rfl⟩
  unfold sgOk sgD sgT
  simp;omega
 ·refine ⟨?_,rfl⟩
  unfold sgOk sgD sgT
  simp;omega
section
variable {s:Int} {p:Pce} {i:Int} {e:Ev}
theorem nr_rev_inj {s:Int} {a b:List (List UInt8)} (h:nr_rev s a=nr_rev s b):a=b:=by
 unfold nr_rev at h
 split at h
 ·exact List.reverse_inj.1 h
 ·exact h
theorem nw_line {t:List UInt8} {x:NC} (hs:1≤s∧s≤4) (hf:nr_form s (nr_staff s p.cs) t=some x) (hh:∀ y∈x.l,NwH s (fun c=>longestN p.evs i c) y) :
  colS s p i (nr_evW x fun y=>nw_v s (longestN p.evs i y.1) y.2.2.2.2)=t∧lackE s p i (nr_evW x fun y=>nw_v s (longestN p.evs i y.1) y.2.2.2.2)=[]∧NwX s (fun c=>longestN p.evs i c) x:=by
 obtain ⟨n6,n4⟩:nr_staff s p.cs≤6∧(s=4→nr_staff s p.cs=0):=by
  unfold nr_staff
  split
  ·exact ⟨by omega,fun _=>rfl⟩
  ·rename_i h;exact ⟨by omega,fun q=>absurd q h⟩
 have hjoin:=nw_join_wds t
 unfold nr_form at hf
 obtain ⟨ws,hws⟩:∃ z,rq_wds 32 t=z:=⟨_,rfl⟩
 rw [hws] at hf hjoin
 obtain ⟨bar,W,hbar,hW,hf⟩:∃ bar W,ws=(if bar=true then [[124]] else [])++W∧True∧nr_time s (nr_staff s p.cs) bar W=some x:=by
  cases ws with
  | nil=>cases hf
  | cons w r =>
   dsimp only at hf
   by_cases e:w=[124]
   ·rw [if_pos e] at hf
    exact ⟨true,r,by rw [e];rfl,trivial,hf⟩
   ·rw [if_neg e] at hf
    exact ⟨false,w::r,rfl,trivial,hf⟩
 obtain ⟨sg,w1,r1,rfl⟩:∃ sg w1 r1,W=sg::w1::r1:=by
  match W,hf with
  | [],hf=>cases hf
  | [_],hf=>cases hf
  | sg::w1::r1,_=>exact ⟨sg,w1,r1,rfl⟩
 have hf2:(scanT (tmM s sg) 0 8).bind (fun x=>nr_body s (nr_staff s p.cs) bar x.1 x.2 (w1::r1))=some x:=hf
 obtain ⟨⟨v,k⟩,hsc,hb⟩:=Option.bind_eq_some_iff.1 hf2
 dsimp only at hb
 obtain ⟨s1,s2,s3,s4,s5⟩:=nw_scan hsc
 obtain ⟨g1,g2⟩:=nw_sg s1 s2 s3
 have hB:x.bar=bar∧x.v=v∧x.i=k∧(x.tie=true→x.l=[]∧s≠4)∧(x.tie=false→x.l=[]→s≠3)∧nr_asc x.l∧(∀ y∈x.l,NwS s (fun c=>longestN p.evs i c) (nw_st s (fun c=>longestN p.evs i c) y)) ∧
   (if x.tie=true then [[126]] else if x.l=[] then [[37]] else nw_body s (fun c=>longestN p.evs i c) (nr_staff s p.cs) (x.l.map (nw_st s fun c=>longestN p.evs i c)))=w1::r1:=by
  unfold nr_body at hb
  split at hb
  ·rename_i q
   cases hb
   exact ⟨rfl,rfl,rfl,fun _=>⟨rfl,q.2⟩,fun h=>(by cases h),List.Pairwise.nil,fun y hy=>(List.not_mem_nil hy).elim,by rw [if_pos rfl];exact q.1.symm⟩
  ·split at hb
   ·rename_i q
    cases hb
    exact ⟨rfl,rfl,rfl,fun h=>(by cases h),fun _ _=>q.2,List.Pairwise.nil,fun y hy=>(List.not_mem_nil hy).elim,by rw [if_neg (fun h=>by cases h),if_pos rfl];exact q.1.symm⟩
   ·obtain ⟨l,hl,e⟩:=Option.map_eq_some_iff.1 hb
    subst e
    obtain ⟨c1,c2,c3,c4⟩:=nw_ch_of (L:=fun c=>longestN p.evs i c) hs n6 n4 (show nr_chW s (nr_staff s p.cs) (nr_rev s (w1::r1))=some l from hl) hh (fun c=>longestN_le p.evs i c)
    refine ⟨rfl,rfl,rfl,fun h=>(by cases h),fun _ h=>absurd h c4,c3,fun y hy=>c2 _ (List.mem_map.2 ⟨y,hy,rfl⟩),?_⟩
    show (if false=true then [[126]] else if l=[] then [[37]] else _)=_
    rw [if_neg (by decide),if_neg c4]
    rw [← nw_rev] at c1
    exact nr_rev_inj c1
 obtain ⟨e1,e2,e3,e4,e5,e6,e7,e8⟩:=hB
 have hstops:(nr_evW x fun y=>nw_v s (longestN p.evs i y.1) y.2.2.2.2).stops=x.l.map (nw_st s fun c=>longestN p.evs i c):=rfl
 refine ⟨?_,?_,⟨by rw [e2,e3];exact g1,by rw [e3];exact g2,fun h=>(e4 h).1,e6,e7⟩⟩
 ·unfold colS
  rw [colW_eq,hstops]
  have hh2:headW s (nr_evW x fun y=>nw_v s (longestN p.evs i y.1) y.2.2.2.2)=(if bar=true then [[124]] else [])++[sg]:=by
   unfold headW
   show (if x.bar=true then [[124],tW x.v (sgI (sgD x.i) (sgT x.i))] else [tW x.v (sgI (sgD x.i) (sgT x.i))])=_
   rw [e1,e2,e3,g2,s5]
   cases bar<;>rfl
  have hb2:(if (nr_evW x fun y=>nw_v s (longestN p.evs i y.1) y.2.2.2.2).tie=true then [[126]] else if (x.l.map (nw_st s fun c=>longestN p.evs i c)).length=0 then [[37]] else nw_body s (fun c=>longestN p.evs i c) (staffN s p) (x.l.map (nw_st s fun c=>longestN p.evs i c)):List (List UInt8))=w1::r1:=by
   rw [← e8]
   show (if x.tie=true then _ else _)=_
   by_cases q:x.l=[]
   ·rw [q];rfl
   ·rw [if_neg (show ¬ (x.l.map (nw_st s fun c=>longestN p.evs i c)).length=0 by rw [List.length_map];exact fun h=>q (List.eq_nil_of_length_eq_zero h)),if_neg q];rfl
  rw [hh2,hb2,← hjoin,hbar,List.append_assoc];rfl
 ·rw [lackE_eq]
  have a1:lk1 s i (nr_evW x fun y=>nw_v s (longestN p.evs i y.1) y.2.2.2.2).val=[]:=by
   show lk1 s i (x.v:Int)=[]
   unfold lk1
   by_cases q:(x.v:Int)=0
   ·rw [if_pos q]
    have h4:s≠4:=by
     intro h
     rw [h] at s4
     unfold tOk at s4
     rw [if_pos (by omega)] at s4
     simp at s4
    rcases nw_sys hs with rfl|rfl|rfl|rfl<;>first|rfl|exact absurd rfl h4
   ·rw [if_neg q]
  have a2:lk2 s i (nr_evW x fun y=>nw_v s (longestN p.evs i y.1) y.2.2.2.2).three=[]:=by
   show lk2 s i (sgT x.i)=[]
   unfold lk2
   by_cases q:sgT x.i=true
   ·rw [if_pos q]
    have hk:k=2:=by rw [e3] at q;unfold sgT at q;simpa using q
    have h4:s≠4:=by
     intro h
     rw [h,hk] at s4
     unfold tOk at s4
     rw [if_neg (by omega)] at s4
     simp at s4
    rcases nw_sys hs with rfl|rfl|rfl|rfl<;>first|rfl|exact absurd rfl h4
   ·rw [if_neg q]
  have a3:lk3 s i (nr_evW x fun y=>nw_v s (longestN p.evs i y.1) y.2.2.2.2).tie (nr_evW x fun y=>nw_v s (longestN p.evs i y.1) y.2.2.2.2).stops.length=[]:=by
   rw [hstops,List.length_map]
   show lk3 s i x.tie x.l.length=[]
   unfold lk3
   by_cases q:x.tie=true
   ·rw [if_pos q]
    have h4:=(e4 q).2
    rcases nw_sys hs with rfl|rfl|rfl|rfl<;>first|rfl|exact absurd rfl h4
   ·rw [if_neg q]
    by_cases q2:x.l.length=0
    ·rw [if_pos q2]
     have h3:=e5 (by simpa using q) (List.eq_nil_of_length_eq_zero q2)
     rcases nw_sys hs with rfl|rfl|rfl|rfl<;>first|rfl|exact absurd rfl h3
    ·rw [if_neg q2]
  rw [a1,a2,a3,hstops]
  show (x.l.map (nw_st s fun c=>longestN p.evs i c)).flatMap (lackStop s i fun c=>longestN p.evs i c)=[]
  rw [List.flatMap_eq_nil_iff]
  intro y hy
  obtain ⟨z,hz,rfl⟩:=List.mem_map.1 hy
  have hk:=(e7 z hz).k
  unfold stK cellOk at hk
  simp only [Bool.and_eq_true] at hk
  unfold lackStop
  rw [hk.1.1.1,hk.1.1.2,hk.1.2,hk.2]
  rfl
end
end
section
open Go.RowKit
theorem nw_l0_of {l:List UInt8} {s:Int} (h:nr_sys l=some s):l=nw_l0 s∧1≤s∧s≤4:=by
 unfold nr_sys at h
 split at h
 ·rename_i h0
  have hl:=(List.take_append_drop 10 l).symm
  rw [h0]at hl
  split at h
  ·rename_i e
   cases h
   exact⟨by rw [hl,← e];rfl,by decide,by decide⟩
  ·split at h
   ·rename_i e
    cases h
    exact⟨by rw [hl,← e];rfl,by decide,by decide⟩
   ·split at h
    ·rename_i e
     cases h
     exact⟨by rw [hl,← e];rfl,by decide,by decide⟩
    ·split at h
     ·rename_i e
      cases h
      exact⟨by rw [hl,← e];rfl,by decide,by decide⟩
     ·cases h
 ·cases h
theorem nw_notes_of {cs:List Crs}:∀ {l:List N5},nr_notes cs l=0→∀ x∈l,nr_note cs x=0
 | [],_,x,hx=>by cases hx
 | y::r,h,x,hx=>by
  unfold nr_notes at h
  by_cases e:nr_note cs y≠0
  ·rw [if_pos e]at h;exact absurd h e
  ·rw [if_neg e]at h
   rcases List.mem_cons.1 hx with rfl|hx
   ·exact Decidable.not_not.1 e
   ·exact nw_notes_of h x hx
end
section
open Go.RowKit
def rq_sP (c:UInt8)(e:Nat)(t:List UInt8)(k:Nat):Bool:=decide (k=e)|| (t.getD k 0 == c)
def rq_sF(c:UInt8)(e:Nat)(t:List UInt8):Nat→Nat
 | 0=>0
 | k+1=>if rq_sP c e t k then k+1 else rq_sF c e t k
def rq_sR (c:UInt8) (e:Nat) (t:List UInt8):Nat→List (List UInt8)
 | 0=>[]
 | k+1=>if rq_sP c e t k then rq_sR c e t k++[cut t ((rq_sF c e t k:Nat):Int) ((k:Nat):Int)]else rq_sR c e t k
theorem rq_sF_le(c:UInt8)(e:Nat)(t:List UInt8):∀ k,rq_sF c e t k≤k
 | 0=>Nat.le_refl _
 | k+1=>by
  have:=rq_sF_le c e t k
  unfold rq_sF;split<;>omega
theorem rq_sR_len(c:UInt8)(e:Nat)(t:List UInt8):∀ k,(rq_sR c e t k).length≤k
 | 0=>Nat.le_refl _
 | k+1=>by
  have:=rq_sR_len c e t k
  unfold rq_sR;split
  ·simp;omega
  ·omega
theorem rq_s_hit {c:UInt8} {e:Nat} {t:List UInt8} {k:Nat} (h:rq_sP c e t k=true):rq_sF c e t (k+1)=k+1∧rq_sR c e t (k+1)=rq_sR c e t k++[cut t ((rq_sF c e t k:Nat):Int) ((k:Nat):Int)] :=
 ⟨if_pos h,if_pos h⟩
theorem rq_s_no {c:UInt8} {e:Nat} {t:List UInt8} {k:Nat} (h:rq_sP c e t k=false):rq_sF c e t (k+1)=rq_sF c e t k∧rq_sR c e t (k+1)=rq_sR c e t k :=
 ⟨if_neg (by simp [h]),if_neg (by simp [h])⟩
theorem rq_fold (c:UInt8) (t:List UInt8) (k:Nat):rq_joinC c ((t.take k).foldl (rq_spS c) ([],[])).1 ((t.take k).foldl (rq_spS c) ([],[])).2=t.take k:=(rq_sp_join c (t.take k) [] []).trans rfl
theorem rq_cur_cut (c:UInt8) (t:List UInt8) {k:Nat} (h:k≤t.length):((t.take k).foldl (rq_spS c) ([],[])).2.length≤k∧cut t ((k-((t.take k).foldl (rq_spS c) ([],[])).2.length:Nat):Int) ((k:Nat):Int)=((t.take k).foldl (rq_spS c) ([],[])).2:=by
 have hj:=rq_fold c t k
 obtain ⟨ls,hls⟩:∃ z,((t.take k).foldl (rq_spS c) ([],[])).1=z:=⟨_,rfl⟩
 obtain ⟨cu,hcu⟩:∃ z,((t.take k).foldl (rq_spS c) ([],[])).2=z:=⟨_,rfl⟩
 rw [hls,hcu]at hj
 rw [hcu]
 obtain ⟨X,hX⟩:∃ z,(ls.flatMap fun l=>l++[c])=z:=⟨_,rfl⟩
 have e:t.take k=X++cu:=by rw [← hj,← hX];rfl
 have hl:k=X.length+cu.length:=by
  have:=congrArg List.length e
  rw [List.length_take,List.length_append]at this;omega
 refine ⟨by omega,?_⟩
 unfold cut
 rw [Int.toNat_natCast,Int.toNat_natCast,show k-cu.length=X.length by omega,show k-X.length=cu.length by omega]
 have e2:t=X++cu++t.drop k:=by rw [← e,List.take_append_drop]
 rw [e2,List.append_assoc,List.drop_left,List.take_left]
theorem rq_s_inv {c:UInt8} {e:Nat} {t:List UInt8}:∀ k,k≤t.length→k≤e→rq_sR c e t k=((t.take k).foldl (rq_spS c) ([],[])).1∧rq_sF c e t k=k-((t.take k).foldl (rq_spS c) ([],[])).2.length
 | 0,_,_=>by simp [rq_sR,rq_sF]
 | k+1,h,he=>by
  obtain ⟨h1,h2⟩:=rq_s_inv (c:=c) (e:=e) (t:=t) k zqo zqo
  have hc:=rq_cur_cut c t (k:=k) zqo
  have hk:k<t.length:=by omega
  rw [List.take_succ_eq_append_getElem hk,List.foldl_append]
  obtain ⟨s,hs⟩:∃ z,(t.take k).foldl (rq_spS c) ([],[])=z:=⟨_,rfl⟩
  rw [hs] at h1 h2 hc ⊢
  have hg:t.getD k 0=t[k]:=by rw [List.getD_eq_getElem?_getD,List.getElem?_eq_getElem hk];rfl
  by_cases hb:t[k]=c
  ·have hp:rq_sP c e t k=true:=by unfold rq_sP;rw [hg,hb];simp
   rw [(rq_s_hit hp).1,(rq_s_hit hp).2,h1,h2,hc.2]
   simp [rq_spS,hb]
  ·have hp:rq_sP c e t k=false:=by unfold rq_sP;rw [hg];simp [hb];omega
   rw [(rq_s_no hp).1,(rq_s_no hp).2,h1,h2]
   simp [rq_spS,hb]
theorem rq_sP_ge {c:UInt8} {e:Nat} {t:List UInt8} {k:Nat} (hk:k<t.length)(hke:k≠e):rq_sP c e t k=decide (((t.getD k 0).toNat:Int)=(c.toNat:Int)):=by
 unfold rq_sP
 rw [decide_eq_false hke,Bool.false_or]
 by_cases h:t.getD k 0=c
 ·rw [h];simp
 ·have:(t.getD k 0).toNat≠c.toNat:=fun e=>h (UInt8.toNat_inj.1 e)
  rw [decide_eq_false (by omega)];simpa using h
theorem rq_lines_end (t:List UInt8):rq_sR 10 (t.length+1) t t.length=(rq_spl 10 t).1∧rq_sF 10 (t.length+1) t t.length=t.length-(rq_spl 10 t).2.length∧(rq_spl 10 t).2.length≤t.length∧cut t ((t.length-(rq_spl 10 t).2.length:Nat):Int) (t.length:Int)=(rq_spl 10 t).2:=by
 obtain ⟨h1,h2⟩:=rq_s_inv (c:=10) (e:=t.length+1) (t:=t) t.length (Nat.le_refl _) zqo
 have hc:=rq_cur_cut 10 t (k:=t.length) (Nat.le_refl _)
 rw [List.take_length] at h1 h2 hc
 exact ⟨h1,h2,hc.1,hc.2⟩
end
section
open Go.RowKit
theorem rLines_FS (t:List UInt8) (hl:t.length≤1000000):Ctr Tryz.prog 16 [.sc (.string (bs t))] (.tu [.ls 1 ((if (rq_spl 10 t).2=[] then (rq_spl 10 t).1 else (rq_spl 10 t).1++[(rq_spl 10 t).2]).map eTx),.sc (.bool (decide ((rq_spl 10 t).2=[])))]):=by
 obtain ⟨q1,q2,q3,q4⟩:=rq_lines_end t
 obtain ⟨tl,htl⟩:∃ z,(rq_spl 10 t).2=z:=⟨_,rfl⟩
 obtain ⟨lz,hlz⟩:∃ z,(rq_spl 10 t).1=z:=⟨_,rfl⟩
 rw [htl] at q2 q3 q4 ⊢
 rw [hlz] at q1 ⊢
 refine zqe Tryz.func16 Tryz.ntmps16 fun w0 F0=>?_;dsimp only [St.init,number,Nat.reduceAdd]
 refine zqg57 ?_
 refine W.tr (Tr.nil (t:=2) 9 1 rfl rfl) ?_
 refine W.loop (fun k:Nat=>k≤t.length) (fun k=>⟨[(0,.sc (.string (bs t))),(2,.sl 0),(4,.sc (.int .i64 (rq_sF 10 (t.length+1) t k:Nat))),(5,.sc (.int .i64 k))],[(0,.row 9 1 ((rq_sR 10 (t.length+1) t k).map eTx))],1⟩) (fun k=>t.length - k) 0 zqo (zqt id) fun k hk=>?_
 have hf:=rq_sF_le 10 (t.length+1) t k
 have hr:=rq_sR_len 10 (t.length+1) t k
 have hmap:∀ (a:List (List UInt8)) x,((a++[x]).map eTx)=a.map eTx++[eTx x]:=fun a x=>by rw [List.map_append];rfl
 by_cases hlt:k < t.length
 rotate_left
 ·obtain rfl:k=t.length:=by omega
  rw [q1] at hr ⊢
  rw [q2] at hf ⊢
  by_cases h0:tl=[]
  ·subst h0
   rw [if_pos rfl,decide_eq_true rfl,List.length_nil,Nat.sub_zero]
   refine zqg57 ?_
   refine W.tr (Tr.freeze 0 rfl) ?_
   exact W.ret (finN rfl rfl rfl rfl)
  ·rw [if_neg h0,decide_eq_false h0,hmap]
   have hp:0 < tl.length:=List.length_pos_iff.2 h0
   obtain ⟨fr,hfr⟩:∃ z,t.length - tl.length=z:=⟨_,rfl⟩
   rw [hfr] at q4 hf ⊢
   have hc:0≤((fr:Nat):Int)∧((fr:Nat):Int)≤(t.length:Int)∧(t.length:Int)≤(t.length:Int):=by omega
   refine zqg57 ?_
   refine WL.cut rfl rfl hc ?_
   rw [q4]
   refine zqg57 ?_
   refine W.tr (Tr.freeze 2 rfl) ?_
   exact W.ret (finN rfl rfl rfl rfl)
 have ek:((k:Nat):Int).toNat=k:=Int.toNat_natCast k
 have hpe:=rq_sP_ge (c:=10) (e:=t.length+1) hlt zqo
 obtain ⟨by_,hby⟩:∃ z,((t.getD k 0).toNat:Int)=z:=⟨_,rfl⟩
 rw [hby] at hpe
 by_cases hb:by_=10
 ·obtain ⟨h1,h2⟩:=rq_s_hit (hpe.trans (decide_eq_true hb))
  obtain ⟨fr,hfr⟩:∃ z,rq_sF 10 (t.length+1) t k=z:=⟨_,rfl⟩
  rw [hfr] at hf h2 ⊢
  have hc:0≤((fr:Nat):Int)∧((fr:Nat):Int)≤(k:Int)∧(k:Int)≤(t.length:Int):=by omega
  refine zqg57 ?_
  refine WL.six rfl rfl ⟨by omega,by omega⟩ ?_
  simp only [ek,hby]
  refine zqg57 ?_
  refine WL.cut rfl rfl hc ?_
  refine zqg57 ?_
  refine ⟨k+1,by omega,by omega,?_⟩
  rw [h1,h2,hmap]
  exact (zqu (fun q=>bif Nat.beq q 0 then 2 else q) (by repeat (first|exact trivial|refine ⟨⟨?_,?_,?_⟩,?_⟩|rfl|exact congrArg (fun q=>some (AO.row _ _ q)) (by first|rfl|(simp;done)|(simp [eInt];done)|(simp [eLk];done)))) rfl)
 ·obtain ⟨h1,h2⟩:=rq_s_no (hpe.trans (decide_eq_false hb))
  obtain ⟨fr,hfr⟩:∃ z,rq_sF 10 (t.length+1) t k=z:=⟨_,rfl⟩
  rw [hfr] at hf h1 ⊢
  refine zqg57 ?_
  refine WL.six rfl rfl ⟨by omega,by omega⟩ ?_
  simp only [ek,hby]
  refine zqg57 ?_
  refine ⟨k+1,by omega,by omega,?_⟩
  rw [h1,h2]
  exact (zqu (fun q=>q) (by repeat (first|exact trivial|refine ⟨⟨?_,?_,?_⟩,?_⟩|rfl|exact congrArg (fun q=>some (AO.row _ _ q)) (by first|rfl|(simp;done)|(simp [eInt];done)|(simp [eLk];done)))) rfl)
end
end Go.Proofs.YthehkchjdkdbiaaGreatDoor
