/- A piece reduced to what a system can say: plain. -/
import Derived.Test.YtaeelcfjkhfpkaaGreatEONq
import Derived.Test.YtaeelcfjkhfpkaaGreatLkENq
import Derived.Test.YtaeelcfjkhfpkaaGreatPChNq
set_option maxHeartbeats 8000000
set_option maxRecDepth 100000
set_option linter.unusedVariables false
set_option linter.unusedSimpArgs false
namespace Go.Proofs.YtaeelcfjkhfpkaaGreat
section
open Go.RowKit
theorem stopE_of {p:Pce} {i:Int} {s:Stp} {last:Int} (h1:1≤s.1∧s.1≤p.cs.length) (h2:0≤s.2.1∧s.2.1≤fretsOf p.cs s.1) (h3:last<s.1) (h4:0≤s.2.2.1∧s.2.2.1≤3) (h5:0≤s.2.2.2.1∧s.2.2.2.1≤4)
  (h6:0≤s.2.2.2.2∧s.2.2.2.2≤longestN p.evs i s.1) (h7:0<s.2.2.2.2→s.2.1≠0):stopE p i s last=0 :=
 stopE_ok zqo zqo zqo zqo zqo
theorem stopsE_of {p:Pce} {i:Int}:∀ {l:List Stp} {last:Int},(∀ x∈l,last<x.1)→l.Pairwise (fun x y=>x.1<y.1)→(∀ x∈l,∀ la,la<x.1→stopE p i x la=0)→stopsE p i last l=0
 | [],_,_,_,_=>rfl
 | x::r,last,h1,h2,h3=>by
  have e:stopE p i x last=0:=h3 x (by simp) last (h1 x (by simp))
  unfold stopsE
  rw [if_neg (by rw [e];simp)]
  cases h2 with
  | cons a b=>exact stopsE_of (fun y hy=>a y hy) b fun y hy la hla=>h3 y (by simp [hy]) la hla
theorem pceE_of {p:Pce} (hI:insE p.cs p.st=0)(hn:p.evs.length≤400)(h:∀ k (hk:k<p.evs.length),evE p k p.evs[k]=0):pceE p=0:=by
 unfold pceE
 rw [if_neg (by simpa using hI),if_neg (by omega)]
 exact evsE_all fun k hk=>by rw [Nat.zero_add];exact h k hk
theorem evE_of {p:Pce} {i:Int} {e:Ev} (h1:sgOk e.val e.dot e.three=true)(h2:¬ (i=0∧e.val=0))(h3:¬ (e.tie=true∧(0<e.stops.length∨i=0)))(h4:stopsE p i 0 e.stops=0):evE p i e=0:=by
  unfold evE
  rw [if_neg (by rintro (h|h);· rw [h1]at h;cases h
                 · exact h2 h),if_neg h3]
  exact h4
structure CgOk (C:Cg)(p:Pce)(cs:List (Int×Int×Bool)):Prop where
 crs:∀ x y,C.mv x=some y→y.1=x.1∧y.2.2.2.2=x.2.2.2.2
 len:cs.length=p.cs.length
 bd:∀ k (hk:k<p.evs.length),∀ x∈p.evs[k].stops,∀ y,C.mv x=some y→(0≤y.2.1∧y.2.1≤fretsOf cs y.1)∧(0≤y.2.2.1∧y.2.2.1≤3)∧(0≤y.2.2.2.1∧y.2.2.2.1≤4)
 tie:∀ k (hk:k<p.evs.length),nwT C k p.evs[k]=true→0<k∧nwS C p.evs[k].stops=[]
theorem nwS_asc {C:Cg} (hc:∀ x y,C.mv x=some y→y.1=x.1∧y.2.2.2.2=x.2.2.2.2) {l:List Stp} (h:l.Pairwise fun x y=>x.1<y.1):(nwS C l).Pairwise fun x y=>x.1<y.1:=by
 unfold nwS
 refine List.Pairwise.filterMap C.mv (fun a a' hr b hb b' hb'=>?_) h
 have e1:=(hc a b hb).1
 have e2:=(hc a' b' hb').1
 omega
theorem nwS_mem {C:Cg} {l:List Stp} {y:Stp} (h:y∈nwS C l):∃ x∈l,C.mv x=some y:=List.mem_filterMap.1 h
theorem ftH_bd {evs:List Ev} {i:Nat} {y:Stp} (h:0≤y.2.2.2.2):0≤ftH evs i y∧ftH evs i y≤longestN evs i y.1∧(0<ftH evs i y→y.2.1≠0):=by
 unfold ftH
 split
 ·exact⟨by omega,by omega,fun h=>by omega⟩
 ·rename_i hy
  exact⟨by omega,by omega,fun _=>hy⟩
theorem map_stH_asc {f:Stp→Int} {l:List Stp} (h:l.Pairwise fun x y=>x.1<y.1):(l.map fun y=>stH y (f y)).Pairwise fun x y=>x.1<y.1:=by
 rw [List.pairwise_map];exact h
theorem cv_ok {C:Cg} {p:Pce} {cs:List (Int×Int×Bool)} {st:List Int} (h0:pceE p=0) (hI:insE cs st=0) (hC:CgOk C p cs) {H:Nat→Stp→Int}
  (hH:∀ i y,0≤y.2.2.2.2→0≤H i y∧H i y≤longestN (nwL C p.evs) i y.1∧(0 < H i y→y.2.1≠0)):pceE ⟨cs,st,fnL H (nwL C p.evs)⟩=0:=by
 obtain ⟨_,hn,_⟩:=pceE_zero h0
 refine pceE_of hI (by show (fnL H (nwL C p.evs)).length≤400;rw [fnL_len,nwL_len];exact hn) fun k hk=>?_
 have hk1:k < p.evs.length:=by
  have hk:k < (fnL H (nwL C p.evs)).length:=hk
  rw [fnL_len,nwL_len] at hk;exact hk
 have hk2:k < (nwL C p.evs).length:=by rw [nwL_len];exact hk1
 have hE:=evOk_of h0 hk1
 have hIn:=stopsIn_of h0 k hk1
 have e1:(fnL H (nwL C p.evs))[k]'hk=fnE H k (nwE C k p.evs[k]):=by rw [fnL_get hk2,nwL_get hk1]
 show evE _ _ ((fnL H (nwL C p.evs))[k]'hk)=0
 rw [e1]
 refine evE_of hE.sg hE.first ?_ ?_
 ·rintro ⟨ht,hh⟩
  have ht:nwT C k p.evs[k]=true:=ht
  obtain ⟨a,b⟩:=hC.tie k hk1 ht
  have hh:0 < ((nwS C p.evs[k].stops).map fun y=>stH y (H k y)).length∨(k:Int)=0:=hh
  rw [b] at hh
  rcases hh with hh|hh
  ·exact absurd hh (by simp)
  ·omega
 ·refine stopsE_of ?_ (map_stH_asc (nwS_asc hC.crs hE.asc)) ?_
  ·intro x hx
   obtain ⟨y,hy,rfl⟩:=List.mem_map.1 hx
   obtain ⟨z,hz,hm⟩:=nwS_mem hy
   have:=(hE.stops z hz).crs
   have e:=(hC.crs z y hm).1
   show (0:Int) < y.1
   omega
  ·intro x hx la hla
   obtain ⟨y,hy,rfl⟩:=List.mem_map.1 hx
   obtain ⟨z,hz,hm⟩:=nwS_mem hy
   have hz1:=hE.stops z hz
   have hcr:=hz1.crs
   have hzh:=hz1.hold
   obtain ⟨e1,e2⟩:=hC.crs z y hm
   obtain ⟨b1,b2,b3⟩:=hC.bd k hk1 z hz y hm
   obtain ⟨c1,c2,c3⟩:=hH k y zqo
   have hlen:=hC.len
   refine stopE_of ?_ b1 hla b2 b3 ?_ c3
   ·show 1≤y.1∧y.1≤cs.length
    omega
   ·show 0≤H k y∧H k y≤longestN (fnL H (nwL C p.evs)) k y.1
    rw [longestN_fn]
    exact ⟨c1,c2⟩
def crI(l:List Stp)(c:Int):Nat:=l.findIdx fun x=>x.1 == c
theorem crI_mem {l:List Stp} (ha:l.Pairwise fun x y=>x.1<y.1) {k:Nat} (h:k<l.length):crI l l[k].1=k:=by
 unfold crI
 rw [List.findIdx_eq h]
 refine⟨by simp,fun j hj=>?_⟩
 have:=List.pairwise_iff_getElem.1 ha j k (by omega) h hj
 simp;omega
def zrE(l:List Lck)(i:Nat)(e:Ev):Ev:={ e with stops:=e.stops.map fun y=>if((i:Int),y.1,(4:Int))∈l then stH y 0 else y }
def zrL (l:List Lck)(evs:List Ev):List Ev:=evs.mapIdx (zrE l)
theorem zrL_len(l:List Lck)(evs:List Ev):(zrL l evs).length=evs.length:=List.length_mapIdx
theorem mem_lkIf {ok:Bool} {i c w:Int} {x:Lck}:x∈lkIf ok i c w↔ok=false∧x=(i,c,w):=by
 unfold lkIf;cases ok<;>simp
theorem mem_head {s i c:Int} {e:Ev} {j:Int}:¬ (j,c,(4:Int))∈lackHead s i e:=by
 unfold lackHead
 intro h
 rcases List.mem_append.1 h with h|h
 ·split at h
  ·rw [mem_lkIf]at h;simp at h
  ·cases h
 rcases List.mem_append.1 h with h|h
 ·split at h
  ·rw [mem_lkIf]at h;simp at h
  ·cases h
 ·split at h
  ·rw [mem_lkIf]at h;simp at h
  ·split at h
   ·rw [mem_lkIf]at h;simp at h
   ·cases h
theorem mem_lackE {s:Int} {p:Pce} {i:Nat} {e:Ev} {j c:Int}:(j,c,(4:Int))∈lackE s p i e↔j=i∧∃ x∈e.stops,x.1=c∧pOk s x.1 x.2.1=true∧okH s x.2.2.2.2 (longestN p.evs i x.1)=false:=by
 unfold lackE
 rw [List.mem_append]
 constructor
 ·rintro (h|h)
  ·exact absurd h mem_head
  ·obtain ⟨x,hx,h⟩:=List.mem_flatMap.1 h
   unfold lackStop at h
   split at h
   ·simp at h
   ·rename_i hp
    rcases List.mem_append.1 h with h|h
    ·rw [mem_lkIf]at h;simp at h
    rcases List.mem_append.1 h with h|h
    ·rw [mem_lkIf]at h;simp at h
    ·rw [mem_lkIf]at h
     obtain ⟨h1,h2⟩:=h
     simp at h2
     exact ⟨h2.1,x,hx,h2.2.symm,by simpa using hp,h1⟩
 ·rintro ⟨rfl,x,hx,rfl,hp,ho⟩
  refine .inr (List.mem_flatMap.2 ⟨x,hx,?_⟩)
  unfold lackStop
  rw [if_neg (by rw [hp];simp)]
  exact List.mem_append.2 (.inr (List.mem_append.2 (.inr (mem_lkIf.2 ⟨ho,rfl⟩))))
theorem mem_lksTo {s:Int} {p:Pce} {j c:Int}:∀ {n:Nat},n≤p.evs.length→((j,c,(4:Int))∈lksTo s p n↔∃ (i:Nat) (hi:i<n) (hi2:i<p.evs.length),j=i∧∃ x∈p.evs[i].stops,x.1=c∧pOk s x.1 x.2.1=true∧okH s x.2.2.2.2 (longestN p.evs i x.1)=false)
 | 0,_=>by
  constructor
  ·intro h;cases h
  ·rintro ⟨i,hi,_⟩;omega
 | n+1,hn=>by
  rw [lksTo_at s p (by omega),List.mem_append,mem_lksTo (by omega),mem_lackE]
  constructor
  ·rintro (⟨i,hi,hi2,h⟩|⟨h1,h2⟩)
   ·exact ⟨i,by omega,hi2,h⟩
   ·exact ⟨n,by omega,by omega,h1,h2⟩
  ·rintro ⟨i,hi,hi2,h⟩
   by_cases e:i=n
   ·subst e;exact .inr ⟨h.1,h.2⟩
   ·exact .inl ⟨i,by omega,hi2,h⟩
theorem mem_crs {l:List Stp} (ha:l.Pairwise fun x y=>x.1<y.1) {x y:Stp} (hx:x∈l)(hy:y∈l)(h:x.1=y.1):x=y:=by
 obtain⟨i,hi,rfl⟩:=List.getElem_of_mem hx
 obtain⟨j,hj,rfl⟩:=List.getElem_of_mem hy
 have a:=crI_mem ha hi
 have b:=crI_mem ha hj
 rw [h]at a
 have e:i=j:=a.symm.trans b
 subst e;rfl
theorem zr_lks {s:Int} {p:Pce} (ha:∀ e∈p.evs,e.stops.Pairwise fun x y=>x.1<y.1)(hp:∀ e∈p.evs,∀ x∈e.stops,pOk s x.1 x.2.1=true) :
  zrL (lksTo s p p.evs.length) p.evs=fnL (fun i y=>if okH s y.2.2.2.2 (longestN p.evs i y.1)=true then y.2.2.2.2 else 0) p.evs:=by
 apply List.ext_getElem (by rw [zrL_len,fnL_len])
 intro i h1 h2
 have hi:i<p.evs.length:=by rw [fnL_len] at h2;exact h2
 simp only [zrL,fnL,List.getElem_mapIdx]
 unfold zrE fnE
 congr 1
 refine List.map_congr_left fun y hy=>?_
 have hm:p.evs[i]∈p.evs:=List.getElem_mem hi
 dsimp only
 by_cases ho:okH s y.2.2.2.2 (longestN p.evs i y.1)=true
 ·rw [if_pos ho,if_neg]
  ·rfl
  ·rw [mem_lksTo (Nat.le_refl _)]
   rintro⟨k,hk,hk2,e,x,hx,hxy,_,h5⟩
   obtain rfl:i=k:=by omega
   have:=mem_crs (ha _ hm) hx hy hxy
   subst this
   rw [ho] at h5;cases h5
 ·rw [if_neg ho,if_pos]
  rw [mem_lksTo (Nat.le_refl _)]
  exact⟨i,hi,hi,rfl,y,hy,rfl,hp _ hm y hy,by simpa using ho⟩
theorem zrL_nil (evs:List Ev):zrL [] evs=evs:=by
 apply List.ext_getElem (zrL_len _ _)
 intro i h1 h2
 simp only [zrL,List.getElem_mapIdx]
 unfold zrE
 simp
theorem zrL_other {l:List Lck} {x:Lck} (evs:List Ev)(h:x.2.2≠4):zrL (l++[x]) evs=zrL l evs:=by
 apply List.ext_getElem (by rw [zrL_len,zrL_len])
 intro i h1 h2
 simp only [zrL,List.getElem_mapIdx]
 unfold zrE
 congr 1
 refine List.map_congr_left fun y hy=>?_
 have e:(((i:Int),y.1,(4:Int))∈l++[x])↔((i:Int),y.1,(4:Int))∈l:=by
  rw [List.mem_append,List.mem_singleton]
  constructor
  ·rintro (h2|h2)
   ·exact h2
   ·rw [← h2] at h;exact absurd rfl h
  ·exact .inl
 by_cases hy:((i:Int),y.1,(4:Int))∈l
 ·rw [if_pos hy,if_pos (e.2 hy)]
 ·rw [if_neg hy,if_neg fun h=>hy (e.1 h)]
theorem zrL_hold {l:List Lck} {i k:Nat} {c:Int} {evs:List Ev} (ha:∀ e∈evs,e.stops.Pairwise fun x y=>x.1<y.1)(hi:i<evs.length)(hk:k<evs[i].stops.length)(hc:evs[i].stops[k].1=c) :
  zrL (l++[((i:Int),c,4)]) evs=(zrL l evs).set i { (zrE l i evs[i]) with stops:=(zrE l i evs[i]).stops.set k (stH evs[i].stops[k] 0) }:=by
 apply List.ext_getElem (by rw [zrL_len,List.length_set,zrL_len])
 intro j h1 h2
 have hj:j<evs.length:=by rw [zrL_len] at h1;exact h1
 rw [List.getElem_set]
 simp only [zrL,List.getElem_mapIdx]
 by_cases e:i=j
 ·subst e
  rw [if_pos rfl]
  unfold zrE
  congr 1
  apply List.ext_getElem (by simp)
  intro m m1 m2
  have hm:m<evs[i].stops.length:=by simpa using m1
  rw [List.getElem_map,List.getElem_set,List.getElem_map]
  by_cases e2:k=m
  ·subst e2
   rw [if_pos rfl,if_pos]
   rw [hc];simp
  ·rw [if_neg e2]
   have hne:evs[i].stops[m].1≠c:=by
    intro hh
    rw [← hc] at hh
    have a:=crI_mem (ha _ (List.getElem_mem hi)) hm
    have b:=crI_mem (ha _ (List.getElem_mem hi)) hk
    rw [hh] at a
    omega
   have e3:(((i:Int),evs[i].stops[m].1,(4:Int))∈l++[((i:Int),c,(4:Int))])↔((i:Int),evs[i].stops[m].1,(4:Int))∈l:=by
    rw [List.mem_append,List.mem_singleton]
    constructor
    ·rintro (h2|h2)
     ·exact h2
     ·simp at h2;exact absurd h2 hne
    ·exact .inl
   by_cases hy:((i:Int),evs[i].stops[m].1,(4:Int))∈l
   ·rw [if_pos hy,if_pos (e3.2 hy)]
   ·rw [if_neg hy,if_neg fun h=>hy (e3.1 h)]
 ·rw [if_neg e]
  unfold zrE
  congr 1
  refine List.map_congr_left fun y hy=>?_
  have e3:(((j:Int),y.1,(4:Int))∈l++[((i:Int),c,(4:Int))])↔((j:Int),y.1,(4:Int))∈l:=by
   rw [List.mem_append,List.mem_singleton]
   constructor
   ·rintro (h2|h2)
    ·exact h2
    ·simp at h2;omega
   ·exact .inl
  by_cases hy:((j:Int),y.1,(4:Int))∈l
  ·rw [if_pos hy,if_pos (e3.2 hy)]
  ·rw [if_neg hy,if_neg fun h=>hy (e3.1 h)]
theorem fnL_two (H H':Nat→Stp→Int)(evs:List Ev):fnL H' (fnL H evs)=fnL (fun i y=>H' i (stH y (H i y))) evs:=by
 apply List.ext_getElem (by rw [fnL_len,fnL_len,fnL_len])
 intro i h1 h2
 have hi:i<evs.length:=by rw [fnL_len] at h2;exact h2
 simp only [fnL,List.getElem_mapIdx]
 unfold fnE
 congr 1
 rw [List.map_map];rfl
theorem zn_two (s:Int) (evs:List Ev):fnL (fun i y=>if okH s y.2.2.2.2 (longestN (fnL (ftH evs) evs) i y.1)=true then y.2.2.2.2 else 0) (fnL (ftH evs) evs)=fnL (znH s evs) evs:=by
 rw [fnL_two]
 congr 1
 funext i y
 rw [longestN_fn]
 rfl
end
section
open Go.RowKit
theorem Tr.nilLs {C:Cx} {σ:St} {t:Tmp} (n:Nat) (h:look t σ.t=some (.sc (.slice none 0 0))):Tr C σ (σ.put t (.ls n [])):=fun G a w ok=>by
 refine ⟨G,ok.sz,ok.df,fun i av hi=>?_,ok.bel,ok.fw,ok.f0,ok.f1,ok.ob,ok.my,ok.dj,ok.dF⟩
 by_cases e:i=t
 ·subst e
  rw [show look i (σ.put i (.ls n [])).t=some (.ls n []) from look_set_same] at hi
  cases hi
  obtain ⟨h1,h2,h3⟩:=ok.tm i _ h
  refine ⟨h1,.ls _ _,?_⟩
  rw [h3.sc_eq]
  exact .pu _ _ (.ls n [] none 0 ⟨0,0,none⟩ (fun _ _=>undef) (by simp) (by simp) (fun h=>absurd h (by simp)) (fun i r j av h=>by simp at h) (fun i r j av h=>by simp at h))
 ·rw [show look i (σ.put t (.ls n [])).t=look i σ.t from look_set_other e] at hi
  exact ok.tm i av hi
theorem of_FS (s:Int):Ctr Tryz.prog 92 [.sc (.int .u8 s)] (.tu [.sc (sysV s),.sc (.bool (decide (1≤s∧s≤4)))]):=by
 refine Ctr.of_sc (xs:=[.int .u8 s]) (v:=.tuple #[sysV s,.bool (decide (1≤s∧s≤4))]) rfl (fun F=>.tu _ _ rfl fun i av u a b=>?_) fun w=>?_
 ·match i with
  | 0=>cases a;cases b;exact .sc _
  | 1=>cases a;cases b;exact .sc _
  | i+2=>simp at a
 ·by_cases h:1≤s∧s≤4
  ·rcases sys_cases h with rfl|rfl|rfl|rfl
   ·exact (of_1 w).mono fun e w' ⟨he,hw⟩=>⟨he,hw ▸ Below.refl _ _⟩
   ·exact (of_2 w).mono fun e w' ⟨he,hw⟩=>⟨he,hw ▸ Below.refl _ _⟩
   ·exact (of_3 w).mono fun e w' ⟨he,hw⟩=>⟨he,hw ▸ Below.refl _ _⟩
   ·exact (of_4 w).mono fun e w' ⟨he,hw⟩=>⟨he,hw ▸ Below.refl _ _⟩
  ·have e:sysV s=.nilIface:=by
    unfold sysV
    rw [if_neg (by omega),if_neg (by omega),if_neg (by omega),if_neg (by omega)]
   rw [e,decide_eq_false h]
   exact (of_bad s w zqo).mono fun e w' ⟨he,hw⟩=>⟨he,hw ▸ Below.refl _ _⟩
theorem pCheck_FS (p:Pce) (hO:PcOk p):Ctr Tryz.prog 45 [ePce p] (.sc (.int .i64 (pceE p))) :=
 Ctr.of_pc (pre:=[]) (post:=[]) rfl rfl (fun _=>.sc _) fun w M hM=>pCheck_any M p w hM hO
def lksR(s:Int)(p:Pce):List Lck:=if(1≤s∧s≤4)∧pceE p=0 then lksTo s p p.evs.length else []
def lksE(s:Int)(p:Pce):Int:=if 1≤s∧s≤4 then pceE p else 30
theorem lks_bad {s:Int} {p:Pce} (h:¬ (1≤s∧s≤4)):lksR s p=[]∧lksE s p=30:=⟨if_neg fun x=>h x.1,if_neg h⟩
theorem lks_err {s:Int} {p:Pce} (h:1≤s∧s≤4)(h2:pceE p≠0):lksR s p=[]∧lksE s p=pceE p:=⟨if_neg fun x=>h2 x.2,if_pos h⟩
theorem lks_ok {s:Int} {p:Pce} (h:1≤s∧s≤4) (h2:pceE p=0):lksR s p=lksTo s p p.evs.length∧lksE s p=0:=⟨if_pos ⟨h,h2⟩,by rw [← h2];exact if_pos h⟩
theorem pLacks_FS (s:Int) (p:Pce) (hO:PcOk p):Ctr Tryz.prog 46 [.sc (.int .u8 s),ePce p] (.tu [.ls 3 ((lksR s p).map eLk),.sc (.int .i64 (lksE s p))]):=by
 refine zqe Tryz.func46 Tryz.ntmps46 fun w0 F0=>?_;dsimp only [St.init,number,Nat.reduceAdd]
 have hn3:=hO.n3
 repeat refine W.go rfl ?_
 refine (?_:WL _ _ _ _ _ _)
 refine WL.vl rfl (WV.call rfl (callF Tryz.func92 rfl rfl) rfl rfl (of_FS s)) ?_
 repeat (first|refine W.go rfl ?_|refine WL.ev rfl ?_)
 refine (?_:W _ _ _ _ _)
 (refine W.cond rfl (fun hif=>?_) (fun hif=>?_)<;>(try simp only [decide_eq_true_eq,decide_eq_false_iff_not,Int.not_lt,Int.not_le,Bool.not_eq_true',Bool.not_eq_false'] at hif))
 ·have hs:¬ (1≤s∧s≤4):=by simpa using hif
  rw [(lks_bad hs).1,(lks_bad hs).2]
  repeat refine W.go rfl ?_
  refine (?_:W _ _ _ _ _)
  refine W.tr (Tr.nilLs (t:=4) 3 rfl) ?_
  exact W.ret (fin2 rfl rfl rfl rfl rfl rfl rfl)
 have hs:1≤s∧s≤4:=by simpa using hif
 repeat refine W.go rfl ?_
 refine (?_:WL _ _ _ _ _ _)
 refine WL.vl rfl (WV.call rfl (callF Tryz.func45 rfl rfl) rfl rfl (pCheck_FS p hO)) ?_
 repeat (first|refine W.go rfl ?_|refine WL.ev rfl ?_)
 refine (?_:W _ _ _ _ _)
 (refine W.cond rfl (fun hif=>?_) (fun hif=>?_)<;>(try simp only [decide_eq_true_eq,decide_eq_false_iff_not,Int.not_lt,Int.not_le,Bool.not_eq_true',Bool.not_eq_false'] at hif))
 ·have h0:pceE p≠0:=by simpa using hif
  rw [(lks_err hs h0).1,(lks_err hs h0).2]
  repeat refine W.go rfl ?_
  refine (?_:W _ _ _ _ _)
  refine W.tr (Tr.nilLs (t:=4) 3 rfl) ?_
  exact W.ret (fin2 rfl rfl rfl rfl rfl rfl rfl)
 have h0:pceE p=0:=by simpa using hif
 rw [(lks_ok hs h0).1,(lks_ok hs h0).2]
 repeat (first|refine W.go rfl ?_|refine WL.ev rfl ?_|refine WL.len rfl rfl zql ?_)
 refine (?_:W _ _ _ _ _)
 refine W.tr (Tr.nil (t:=9) 72 3 rfl rfl) ?_
 refine W.loop (fun k:Nat=>k≤p.evs.length) (fun k=>⟨[(3,.pt 0 0 0),(6,.sc (sysV s)),(9,.sl 1),(25,.sc (.int .i64 p.evs.length)),(26,.sc (.int .i64 k))],[(0,.box 29 (ePce p).cells),(1,.row 72 3 ((lksTo s p k).map eLk))],2⟩) (fun k=>p.evs.length - k) 0 zqo (zqt id) fun k hk=>?_
 repeat refine W.go rfl ?_
 refine (?_:W _ _ _ _ _)
 (refine W.cond rfl (fun hif=>?_) (fun hif=>?_)<;>(try simp only [decide_eq_true_eq,decide_eq_false_iff_not,Int.not_lt,Int.not_le,Bool.not_eq_true',Bool.not_eq_false'] at hif))
 ·have hk2:k < p.evs.length:=by omega
  have hl1:=lksTo_len s hO k hk
  have hl2:=lackE_len s p k p.evs[k] (hO.n4 k hk2)
  have hrow:(lksTo s p k).map eLk++(lackE s p k p.evs[k]).map eLk=(lksTo s p (k+1)).map eLk:=by rw [lksTo_at s p hk2,List.map_append]
  repeat refine W.go rfl ?_
  refine (?_:WL _ _ _ _ _ _)
  refine WL.vl rfl (WV.call rfl (callF Tryz.func96 rfl rfl) rfl rfl (plack_FS s hs p k hk2 hO (stopsIn_of h0 k hk2))) ?_
  repeat (first|refine W.go rfl ?_|refine WL.ev rfl ?_|refine WL.ar rfl rfl (by unfold I64;omega) ?_|refine WL.app rfl rfl rfl zqs ?_)
  exact ⟨k+1,by omega,by omega,zqu (fun q=>bif Nat.beq q 1 then 2 else q) (by repeat (first|exact trivial|refine ⟨⟨?_,?_,?_⟩,?_⟩|exact congrArg (fun r=>some (AO.row _ _ r)) hrow|rfl)) rfl⟩
 ·have he:k=p.evs.length:=by omega
  subst he
  repeat refine W.go rfl ?_
  refine (?_:W _ _ _ _ _)
  refine W.tr (Tr.freeze 1 rfl) ?_
  exact W.ret (fin2 rfl rfl rfl rfl rfl rfl rfl)
end
section
open Go.RowKit
def redC (s:Int):Cg where
 ch x:=(x,!pOk s x.1 x.2.1)
 mr x:=(x.1,x.2.1,if okR s x.2.2.1=true then x.2.2.1 else 0,if okG s x.2.2.2.1=true then x.2.2.2.1 else 0,x.2.2.2.2)
 ml x:=(if okR s x.2.2.1=true then []else [2])++(if okG s x.2.2.2.1=true then []else [3])
 tie i e:=if e.tie=true∧hasS s 7=false then false else if e.tie=false∧hasS s 8=false then true else e.tie
 bare i:=decide (0<i) && hasS s 7
def redQ(s:Int)(p:Pce):List Ev:=if s=4 then plE p else p.evs
def redI(s:Int)(p:Pce):Pce:=⟨p.cs,p.st,redQ s p⟩
def thrB(evs:List Ev):Bool:=evs.any fun e=>e.three
def frsB (C:Cg)(evs:List Ev):Bool:=match evs with
 | []=>false
 | e::_=>decide ((nwS C e.stops).length=0)
def redX (s:Int)(p:Pce):Int:=if ¬ (1≤s∧s≤4) then 30 else if pceE p≠0 then pceE p else if s=4∧thrB p.evs=true then 31 else if s=3∧frsB (redC s) p.evs=true then 31 else 0
def redN (s:Int) (p:Pce):List Ev:=nwL (redC s) (redQ s p)
def redP (s:Int) (p:Pce):Pce:=if redX s p=0 then ⟨p.cs,p.st,fnL (znH s (redN s p)) (redN s p)⟩else noP
def redL (s:Int) (p:Pce):List Lck:=if redX s p=0 then lsL (redC s) (znH s (redN s p)) (redQ s p) (redQ s p).length else []
theorem redQ_len(s:Int)(p:Pce):(redQ s p).length=p.evs.length:=by
 unfold redQ;split
 ·exact plE_length p
 ·rfl
theorem redQ_20 {s:Int} {p:Pce} (hO:PcOk p):∀ e∈redQ s p,e.stops.length≤20:=by
 have h0:∀ e∈p.evs,e.stops.length≤20:=fun e he=>by
  obtain⟨i,hi,rfl⟩:=List.getElem_of_mem he
  exact hO.n4 i hi
 unfold redQ
 split
 ·intro e he
  obtain⟨f,hf,e1⟩:=plN_stops (Nat.le_refl _) e he
  rw [e1];exact h0 f hf
 ·exact h0
theorem redI_ok {s:Int} {p:Pce} (hO:PcOk p):PcOk (redI s p) :=
 ⟨hO.n1,hO.n2,by show (redQ s p).length≤420;rw [redQ_len];exact hO.n3,fun k hk=>redQ_20 hO _ (List.getElem_mem _)⟩
theorem redI_valid {s:Int} {p:Pce} (h0:pceE p=0):pceE (redI s p)=0:=by
 unfold redI redQ
 split
 ·exact pceE_pl h0
 ·exact h0
theorem redC_mv {s:Int} {x y:Stp} (h:(redC s).mv x=some y):pOk s x.1 x.2.1=true∧y=(redC s).mr x:=by
 unfold Cg.mv at h
 by_cases hp:pOk s x.1 x.2.1=true
 ·rw [if_neg (by show ¬ (!pOk s x.1 x.2.1)=true;rw [hp];simp)]at h
  exact⟨hp,(Option.some.inj h).symm⟩
 ·rw [if_pos (by show (!pOk s x.1 x.2.1)=true;simpa using hp)]at h
  cases h
theorem redC_crs {s:Int} (x y:Stp)(h:(redC s).mv x=some y):y.1=x.1∧y.2.2.2.2=x.2.2.2.2:=by
 obtain⟨_,rfl⟩:=redC_mv h;exact⟨rfl,rfl⟩
theorem redC_ml(s:Int)(y:Stp):((redC s).ml y).length≤2:=by
 show(_++_:List Int).length≤2
 rw [List.length_append]
 split<;>split<;>simp
theorem redQ_first {s:Int} {p:Pce} (h3:s=3):redQ s p=p.evs:=by
 unfold redQ;rw [if_neg (by omega)]
theorem redC_ok {s:Int} {p:Pce} (hs:1≤s∧s≤4) (h0:pceE p=0) (hf:¬ (s=3∧frsB (redC s) p.evs=true)):CgOk (redC s) (redI s p) p.cs:=by
 have hv:=redI_valid (s:=s) h0
 refine ⟨redC_crs,rfl,fun k hk x hx y hy=>?_,fun k hk ht=>?_⟩
 ·obtain ⟨hp,rfl⟩:=redC_mv hy
  have hE:=evOk_of hv hk
  have hS:=hE.stops x hx
  obtain ⟨j,hj,rfl⟩:=List.getElem_of_mem hx
  obtain ⟨_,_,b3,b4,_⟩:=stopsIn_of hv k hk j hj
  refine ⟨hS.fret,?_,?_⟩
  ·show 0≤(if _ then _ else _:Int)∧(if _ then _ else _:Int)≤3
   split<;>omega
  ·show 0≤(if _ then _ else _:Int)∧(if _ then _ else _:Int)≤4
   split<;>omega
 ·have hE:=evOk_of hv hk
  unfold nwT at ht
  by_cases hl:(redI s p).evs[k].stops.length=0
  ·rw [if_pos hl] at ht
   have hnil:nwS (redC s) (redI s p).evs[k].stops=[]:=by rw [List.eq_nil_of_length_eq_zero hl];rfl
   refine ⟨?_,hnil⟩
   cases hti:(redI s p).evs[k].tie with
   | true=>exact (hE.tie hti).2
   | false =>
    have ht:(if (redI s p).evs[k].tie=true∧hasS s 7=false then false else if (redI s p).evs[k].tie=false∧hasS s 8=false then true else (redI s p).evs[k].tie)=true:=ht
    rw [hti,if_neg (by simp)] at ht
    by_cases h8:hasS s 8=false
    ·rcases Nat.lt_or_ge 0 k with h|h
     ·exact h
     ·exfalso
      obtain rfl:k=0:=by omega
      have h3:s=3:=by
       unfold hasS at h8
       by_cases a:s=3
       ·exact a
       ·rw [if_neg a] at h8
        by_cases b:s=4
        ·rw [if_pos b] at h8;cases h8
        ·rw [if_neg b] at h8;cases h8
      refine hf ⟨h3,?_⟩
      have e:(redI s p).evs=p.evs:=redQ_first h3
      have hk':0<p.evs.length:=by rw [← e];exact hk
      cases hev:p.evs with
      | nil=>rw [hev] at hk';cases hk'
      | cons a r =>
       have e2:(redI s p).evs[0]=a:=by
        have:(redI s p).evs[0]?=some a:=by rw [e,hev];rfl
        rw [List.getElem?_eq_getElem hk] at this
        exact Option.some.inj this
       rw [e2] at hnil
       show decide _=true
       rw [hnil];rfl
    ·rw [if_neg (fun h=>h8 h.2)] at ht
     cases ht
  ·rw [if_neg hl] at ht
   by_cases hn:(nwS (redC s) (redI s p).evs[k].stops).length=0
   ·rw [if_pos hn] at ht
    have ht:(decide (0<k) && hasS s 7)=true:=ht
    rw [Bool.and_eq_true] at ht
    exact ⟨of_decide_eq_true ht.1,List.eq_nil_of_length_eq_zero hn⟩
   ·rw [if_neg hn] at ht
    have:=(hE.tie ht).1
    rw [this] at hl
    exact absurd rfl hl
theorem red_mid {s:Int} {p:Pce} (hs:1≤s∧s≤4) (h0:pceE p=0) (hf:¬ (s=3∧frsB (redC s) p.evs=true)):pceE ⟨p.cs,p.st,fnL (ftH (redN s p)) (redN s p)⟩=0 :=
 cv_ok (p:=redI s p) (redI_valid h0) (pceE_zero h0).1 (redC_ok hs h0 hf) fun i y hy=>ftH_bd hy
theorem redN_asc {s:Int} {p:Pce} (h0:pceE p=0):∀ e∈redN s p,e.stops.Pairwise fun x y=>x.1<y.1:=by
 intro e he
 obtain⟨i,hi,rfl⟩:=List.getElem_of_mem he
 have hi':i<(redQ s p).length:=by unfold redN at hi;rw [nwL_len] at hi;exact hi
 have e1:(redN s p)[i]=nwE (redC s) i (redQ s p)[i]:=nwL_get hi'
 rw [e1]
 exact nwS_asc redC_crs (evOk_of (redI_valid (s:=s) h0) hi').asc
theorem redN_pok {s:Int} {p:Pce}:∀ e∈redN s p,∀ x∈e.stops,pOk s x.1 x.2.1=true:=by
 intro e he x hx
 obtain⟨i,hi,rfl⟩:=List.getElem_of_mem he
 have hi':i<(redQ s p).length:=by unfold redN at hi;rw [nwL_len] at hi;exact hi
 have e1:(redN s p)[i]=nwE (redC s) i (redQ s p)[i]:=nwL_get hi'
 rw [e1] at hx
 obtain⟨z,_,hm⟩:=nwS_mem hx
 obtain⟨hp,rfl⟩:=redC_mv hm
 exact hp
theorem fnL_asc {H:Nat→Stp→Int} {evs:List Ev} (h:∀ e∈evs,e.stops.Pairwise fun x y=>x.1<y.1):∀ e∈fnL H evs,e.stops.Pairwise fun x y=>x.1<y.1:=by
 intro e he
 obtain⟨i,hi,rfl⟩:=List.getElem_of_mem he
 have hi':i<evs.length:=by rw [fnL_len]at hi;exact hi
 rw [fnL_get hi']
 exact map_stH_asc (h _ (List.getElem_mem hi'))
theorem fnL_pok {s:Int} {H:Nat→Stp→Int} {evs:List Ev} (h:∀ e∈evs,∀ x∈e.stops,pOk s x.1 x.2.1=true):∀ e∈fnL H evs,∀ x∈e.stops,pOk s x.1 x.2.1=true:=by
 intro e he x hx
 obtain⟨i,hi,rfl⟩:=List.getElem_of_mem he
 have hi':i<evs.length:=by rw [fnL_len] at hi;exact hi
 rw [fnL_get hi'] at hx
 obtain⟨y,hy,rfl⟩:=List.mem_map.1 hx
 exact h _ (List.getElem_mem hi') y hy
theorem mem_three {s:Int} {p:Pce} {i:Nat} {e:Ev}:(∃ x∈lackE s p i e,x.2.2=(5:Int))↔e.three=true∧hasS s 5=false:=by
 unfold lackE lackHead
 constructor
 ·rintro ⟨x,hx,h5⟩
  rcases List.mem_append.1 hx with hx|hx
  ·rcases List.mem_append.1 hx with hx|hx
   ·split at hx
    ·rw [mem_lkIf]at hx;rw [hx.2]at h5;simp at h5
    ·cases hx
   rcases List.mem_append.1 hx with hx|hx
   ·split at hx
    ·rename_i ht
     rw [mem_lkIf]at hx;exact ⟨ht,hx.1⟩
    ·cases hx
   ·split at hx
    ·rw [mem_lkIf]at hx;rw [hx.2]at h5;simp at h5
    ·split at hx
     ·rw [mem_lkIf]at hx;rw [hx.2]at h5;simp at h5
     ·cases hx
  ·obtain ⟨y,hy,hx⟩:=List.mem_flatMap.1 hx
   unfold lackStop at hx
   split at hx
   ·rw [List.mem_singleton]at hx;rw [hx]at h5;simp at h5
   ·rcases List.mem_append.1 hx with hx|hx
    ·rw [mem_lkIf]at hx;rw [hx.2]at h5;simp at h5
    rcases List.mem_append.1 hx with hx|hx
    ·rw [mem_lkIf]at hx;rw [hx.2]at h5;simp at h5
    ·rw [mem_lkIf]at hx;rw [hx.2]at h5;simp at h5
 ·rintro ⟨ht,hh⟩
  refine ⟨((i:Int),0,5),?_,rfl⟩
  refine List.mem_append.2 (.inl (List.mem_append.2 (.inr (List.mem_append.2 (.inl ?_)))))
  rw [if_pos ht]
  exact mem_lkIf.2 ⟨hh,rfl⟩
def hasW(l:List Lck)(w:Int):Bool:=l.any fun x=>x.2.2 == w
theorem hasW_app (l m:List Lck)(w:Int):hasW (l++m) w=(hasW l w|| hasW m w):=List.any_append
theorem hasW_three {s:Int} {p:Pce} (h5:hasS s 5=false):∀ n,n≤p.evs.length→hasW (lksTo s p n) 5=thrB (p.evs.take n)
 | 0,_=>rfl
 | n+1,hn=>by
  rw [lksTo_at s p (by omega),hasW_app,hasW_three h5 n (by omega),List.take_succ_eq_append_getElem (by omega)]
  unfold thrB
  rw [List.any_append]
  congr 1
  rw [List.any_cons,List.any_nil,Bool.or_false]
  have hm:=mem_three (s:=s) (p:=p) (i:=n) (e:=p.evs[n])
  cases ht:p.evs[n].three with
  | true =>
   obtain ⟨x,hx,h⟩:=hm.2 ⟨ht,h5⟩
   unfold hasW
   rw [List.any_eq_true]
   exact ⟨x,hx,by rw [h];rfl⟩
  | false =>
   unfold hasW
   rw [List.any_eq_false]
   intro x hx h
   have:=hm.1 ⟨x,hx,by simpa using h⟩
   rw [ht] at this;cases this.1
theorem hasW_no {s:Int} {p:Pce} (h5:hasS s 5=true):∀ n,n≤p.evs.length→hasW (lksTo s p n) 5=false
 | 0,_=>rfl
 | n+1,hn=>by
  rw [lksTo_at s p (by omega),hasW_app,hasW_no h5 n (by omega),Bool.false_or]
  unfold hasW
  rw [List.any_eq_false]
  intro x hx h
  have:=(mem_three (s:=s) (p:=p) (i:=n) (e:=p.evs[n])).1 ⟨x,hx,by simpa using h⟩
  rw [h5] at this;cases this.2
theorem has_three {s:Int} {p:Pce} (hs:1≤s∧s≤4)(h0:pceE p=0):hasW (lksR s p) 5=decide (s=4∧thrB p.evs=true):=by
 rw [(lks_ok hs h0).1]
 by_cases h4:s=4
 ·rw [hasW_three (by rw [h4];rfl) _ (Nat.le_refl _),List.take_length]
  cases ht:thrB p.evs<;>simp [h4]
 ·rw [hasW_no (by unfold hasS;rw [if_neg h4];split<;>simp) _ (Nat.le_refl _)]
  simp [h4]
end
end Go.Proofs.YtaeelcfjkhfpkaaGreat
