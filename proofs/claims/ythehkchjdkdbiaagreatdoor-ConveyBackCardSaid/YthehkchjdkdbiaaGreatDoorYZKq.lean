/- What a system lacks, as a list of the caller's own (the program); where a lack's course stands. -/
import Derived.Test.YthehkchjdkdbiaaGreatDoorGfKq
import Derived.Test.YthehkchjdkdbiaaGreatDoorYFKq
set_option maxHeartbeats 8000000
set_option maxRecDepth 100000
set_option linter.unusedVariables false
set_option linter.unusedSimpArgs false
namespace Go.Proofs.YthehkchjdkdbiaaGreatDoor
theorem ac0 {p:Prop}(h:p:=by show ¬ (4:Int)=0;decide):p:=h
section
variable {p:Prop}
theorem Uc(h:p:=by
 unfold aK
 exact ame):p:=h
theorem alj(h:p:=by
 rw [List.mem_singleton.1 q] at hb;exact (Fh (t1 b hb)).2.1):p:=h
theorem aaO(h:p:=by
 rw [aH,aH]):p:=h
theorem alb(h:p:=by
 obtain⟨y,hy,e⟩:=Option.map_eq_some_iff.1 h
 cases e;exact hy):p:=h
theorem akD(h:p:=by
 ·cases pl with
  | true=>rw [List.mem_singleton.1 q];decide
  | false=>cases q):p:=h
theorem aku(h:p:=by
 split
 ·exact ⟨by omega,fun _=>rfl⟩
 ·rename_i h;exact ⟨by omega,fun q=>absurd q h⟩):p:=h
theorem aaI(h:p:=by
 refine ⟨?_,rfl⟩
 unfold gZ IE EH
 simp;omega):p:=h
theorem akf(h:p:=by
 refine ⟨rfl,fun w hw b hb=>?_,by simp⟩
 rw [List.mem_singleton.1 hw] at hb
 rw [List.mem_singleton.1 hb];decide):p:=h
theorem aaC(h:p:=by
 rcases Ku hs with rfl|rfl|rfl|rfl<;>first|rfl|exact absurd rfl h4):p:=h
theorem TK(h:p:=by
 exact⟨by rw [hl,← e];rfl,by decide,by decide⟩):p:=h
theorem arl(h:p:=by
 unfold aG at h ⊢
 split at h
 ·rename_i c;exact absurd h c
 ·rename_i c
  split at h
  ·rename_i c2;exact absurd h c2
  ·rename_i c2
   rw [if_neg c,if_neg c2]
   exact Decidable.not_not.1 c2):p:=h
theorem aqR(h:p:=by
 rcases bQ hs with rfl|rfl|rfl|rfl
 ·show aU Tryz.prog 318 _ _
  refine jl Tryz.func318 Tryz.ntmps318 fun w0 F0=>?_;dsimp only [St.init,number,Nat.reduceAdd]
  refine zN ?_
  exact W.ret vS
 ·show aU Tryz.prog 333 _ _
  refine jl Tryz.func333 Tryz.ntmps333 fun w0 F0=>?_;dsimp only [St.init,number,Nat.reduceAdd]
  refine zN ?_
  exact W.ret vS
 ·show aU Tryz.prog 341 _ _
  refine jl Tryz.func341 Tryz.ntmps341 fun w0 F0=>?_;dsimp only [St.init,number,Nat.reduceAdd]
  refine zN ?_
  exact W.ret vS
 ·show aU Tryz.prog 348 _ _
  refine jl Tryz.func348 Tryz.ntmps348 fun w0 F0=>?_;dsimp only [St.init,number,Nat.reduceAdd]
  refine zN ?_
  exact W.ret vS):p:=h
end
section
open Go.RowKit
def zl(s h:Int):Nat:=if h=0 then 0 else if s=1 then h.toNat else 15
def uq(s:Int)(lg h:Nat):Int:=if h=0 then 0 else if s=1 then(h:Int)else(lg:Int)
def DV(s:Int)(x:Stp):N5:=(x.1.toNat,x.2.1.toNat,x.2.2.1.toNat,x.2.2.2.1.toNat,zl s x.2.2.2.2)
theorem Ku {s:Int} (hs:1≤s∧s≤4):s=1∨s=2∨s=3∨s=4:=by omega
theorem ab1 {s h L:Int} (hs:1≤s∧s≤4) (hb:0≤h∧h≤L) (hL:L≤15) (ok:qN s h L=true):qN s (zl s h) 15=true∧pH s (zl s h) 15=pH s h L∧zl s h≤15∧(0<zl s h↔0<h):=by
 unfold zl
 by_cases h0:h=0
 ·subst h0
  rw [if_pos rfl]
  exact ⟨rfl,rfl,by omega,by omega⟩
 rw [if_neg h0]
 have hh:¬ ((h:Int) == 0)=true:=by simpa using h0
 by_cases s1:s=1
 ·subst s1
  rw [if_pos rfl]
  have e:((h.toNat:Nat):Int)=h:=by omega
  have en:¬ ((h.toNat:Nat):Int)=0:=by omega
  refine ⟨?_,?_,by omega,by omega⟩
  ·unfold qN rH;simp
  ·unfold pH rH
   rw [if_neg en,if_neg h0,if_pos rfl,if_pos rfl,e]
 ·rw [if_neg s1]
  unfold qN at ok
  have hne:rH s h L≠[]:=by
   intro e
   rw [e] at ok
   simp at ok
   exact h0 ok
  unfold rH at hne
  rw [if_neg s1] at hne
  by_cases q:(s=2∨s=4)∧h=L
  ·have e2:rH s 15 15=[42]:=by unfold rH;rw [if_neg s1,if_pos ⟨q.1,rfl⟩]
   have e3:rH s h L=[42]:=by unfold rH;rw [if_neg s1,if_pos q]
   refine ⟨?_,?_,by omega,by omega⟩
   ·show ((15:Int) == 0|| !(rH s 15 15).isEmpty)=true
    rw [e2];rfl
   ·show (if (15:Int)=0 then [] else rH s 15 15)=if h=0 then [] else rH s h L
    rw [if_neg (by decide),if_neg h0,e2,e3]
  ·rw [if_neg q] at hne;exact absurd rfl hne
theorem atd {s:Int} {h lg:Nat} (hs:1≤s∧s≤4) (ok:qN s h 15=true) (h1:h≠0→lg≠0) (h2:s=1→h≤lg):qN s (uq s lg h) lg=true∧pH s (uq s lg h) lg=pH s h 15∧0≤uq s lg h∧uq s lg h≤lg∧(0<uq s lg h↔0<h)∧zl s (uq s lg h)=if h=0 then 0 else if s=1 then h else 15:=by
 unfold uq zl
 by_cases h0:h=0
 ·subst h0
  rw [if_pos rfl]
  exact ⟨rfl,rfl,by omega,by omega,by omega,rfl⟩
 rw [if_neg h0]
 have hl:=h1 h0
 by_cases s1:s=1
 ·have h3:=h2 s1
  subst s1
  rw [if_pos rfl]
  refine ⟨?_,?_,by omega,by omega,by omega,?_⟩
  ·unfold qN rH;simp
  ·unfold pH rH
   rw [if_neg (by omega),if_pos rfl,if_neg (by omega),if_pos rfl]
  ·rw [if_neg (by omega),if_neg h0,if_pos rfl];exact fO h
 ·rw [if_neg s1]
  unfold qN at ok
  have hne:rH s h 15≠[]:=by
   intro e
   rw [e] at ok
   simp at ok
   exact h0 ok
  unfold rH at hne
  rw [if_neg s1] at hne
  by_cases q:(s=2∨s=4)∧(h:Int)=15
  ·have e2:rH s lg lg=[42]:=by unfold rH;rw [if_neg s1,if_pos ⟨q.1,rfl⟩]
   have e3:rH s h 15=[42]:=by unfold rH;rw [if_neg s1,if_pos q]
   refine ⟨?_,?_,by omega,by omega,by omega,?_⟩
   ·unfold qN
    rw [e2];simp
   ·unfold pH
    rw [if_neg (by omega),if_neg (by omega),e2,e3]
   ·rw [if_neg (by omega),if_neg h0,if_neg s1,if_neg s1]
  ·rw [if_neg q] at hne;exact absurd rfl hne
structure NwS(s:Int)(L:Int→Nat)(x:Stp):Prop where
 c:1≤x.1∧x.1≤14
 f:0≤x.2.1∧x.2.1≤18
 r:0≤x.2.2.1∧x.2.2.1≤3
 g:0≤x.2.2.2.1∧x.2.2.2.1≤4
 h:0≤x.2.2.2.2∧x.2.2.2.2≤(L x.1:Int)
 l:L x.1≤15
 z:0<x.2.2.2.2→x.2.1≠0
 k:stK s L x=true
theorem ab2 {s aT:Int} {L:Int→Nat} {x:Stp} (hs:1≤s∧s≤4) (hx:NwS s L x) (hsp:aK s aT=0) (hst:ig s aT x.1=true):jr s aT (FX s L x)=some (DV s x):=by
 obtain ⟨hc,hf,hr,hg,hh,hl,hz,hk⟩:=hx
 unfold stK at hk
 unfold FX DV
 obtain ⟨c,f,r,g,h⟩:=x
 dsimp only at hc hf hr hg hh hl hz hk hst ⊢
 have hk2:=hk
 unfold dK at hk2
 simp only [aW] at hk2
 obtain ⟨b1,b2,b3,b4⟩:=ab1 hs hh au hk2.2
 obtain ⟨c,rfl⟩:=gq (show 0≤c by omega)
 obtain ⟨f,rfl⟩:=gq (show 0≤f by omega)
 obtain ⟨r,rfl⟩:=gq (show 0≤r by omega)
 obtain ⟨g,rfl⟩:=gq (show 0≤g by omega)
 simp only [fO]
 refine JX hsp ⟨by omega,by omega,hst,atV ⟨by omega,by omega,by omega,fun q=>?_⟩ ?_ ?_⟩
 ·exact hz (b4.1 q)
 ·unfold dK
  rw [hk2.1.1.1,hk2.1.1.2,hk2.1.2,b1];rfl
 ·unfold cellS
  rw [b2]
def qy (s:Int)(L:Int→Nat)(n:Nat)(l:List Stp):List (List UInt8):=(List.range n).map (fun j:Nat=>Uj s L l ((j:Int)+1))++(l.filter fun x=>decide ((n:Int)<x.1)).map (FX s L)
def lN (s:Int)(L:Int→Nat)(n:Nat)(l:List Stp):List (List UInt8):=if s=2 then rX s L n l++gJ s L n l else gJ s L n l++rX s L n l
theorem Kr (s:Int)(L:Int→Nat)(n:Nat)(l:List Stp):ku s (lN s L n l)=qy s L n l:=by
 unfold ku lN qy rX gJ
 by_cases e:s=2
 ·rw [if_pos e,if_pos e,if_pos e,List.reverse_append,List.reverse_reverse]
  congr 1
  apply fZ
  ·simp
  ·intro j h1 h2
   have hj:j<n:=by simpa using h1
   simp only [aav,iZ,TB,aH,List.length_range,cAt,if_pos e]
   congr 1;omega
 ·rw [if_neg e,if_neg e,if_neg e]
  congr 1
  apply qK
  intro j hj
  simp only [cAt,if_neg e]
theorem VR (s:Int)(L:Int→Nat)(n:Nat)(l:List Stp):(qy s L n l).length=n+(l.filter fun x=>decide ((n:Int)<x.1)).length:=by unfold qy;simp
theorem abZ {s:Int} {L:Int→Nat} {n:Nat} {l:List Stp} {j:Nat} (h:j<n)(h2:j<(qy s L n l).length):(qy s L n l)[j]=Uj s L l ((j:Int)+1):=by
 rw [TD (show qy s L n l=(List.range n).map (fun j:Nat=>Uj s L l ((j:Int)+1))++(l.filter fun x=>decide ((n:Int)<x.1)).map (FX s L) from rfl) h2,Tf rP]
 simp
theorem abY {s:Int} {L:Int→Nat} {n:Nat} {l:List Stp} {j:Nat} (h:j<(l.filter fun x=>decide ((n:Int)<x.1)).length)(h2:n+j<(qy s L n l).length):(qy s L n l)[n+j]=FX s L (l.filter fun x=>decide ((n:Int)<x.1))[j]:=by
 rw [TD (show qy s L n l=(List.range n).map (fun j:Nat=>Uj s L l ((j:Int)+1))++(l.filter fun x=>decide ((n:Int)<x.1)).map (FX s L) from rfl) h2,List.getElem_append_right (by simp)]
 simp
theorem Zo {s:Int} (hs:1≤s∧s≤4) {j:Nat} (h6:j<6)(h4:s≠4):aK s ((j:Int)+1)=0:=by
 exact Uc
theorem V5 {s:Int} (hs:1≤s∧s≤4):aK s 0=0:=by
 exact Uc
theorem Bf {n:Int}:∀ {l:List Stp} {m:Int},EK m l→(l.filter fun x=>decide (x.1≤n))++(l.filter fun x=>decide (n<x.1))=l
 | [],_,_=>rfl
 | x::r,m,h=>by
  have ih:=Bf h.2 (n:=n)
  by_cases e:x.1≤n
  ·rw [Gj Qx,MH Qx,zK,ih]
  ·have hr:(r.filter fun x=>decide (x.1≤n))=[]:=by
    rw [MI]
    intro y hy
    have:=EL h.2 y hy
    simp;omega
   rw [hr]at ih
   rw [MH Qx,Gj (by simp;omega),hr,ug]
   rw [ug]at ih
   rw [ih]
theorem ahO {s:Int}:∀ {l:List Stp} {m:Int},0≤m→EK m l→jD (l.map (DV s))
 | [],_,_,_=>List.Pairwise.nil
 | x::r,m,hm,h=>by
  refine List.pairwise_cons.2 ⟨fun y hy=>?_,ahO (by have:=h.1;omega) h.2⟩
  obtain ⟨z,hz,rfl⟩:=List.mem_map.1 hy
  have:=EL h.2 z hz
  have:=h.1
  show x.1.toNat<z.1.toNat
  omega
section
variable {s:Int} {L:Int→Nat} {n:Nat} {l:List Stp}
theorem V6 (hs:1≤s∧s≤4) (h6:n≤6) (h4:s=4→n=0) (hl:∀ x∈l,NwS s L x) {j:Nat} (hj:j<n):dR s n j (Uj s L l ((j:Int)+1))=some ((qX l ((j:Int)+1)).map (DV s)):=by
 unfold Uj dR
 rw [if_pos hj]
 cases hx:qX l ((j:Int)+1) with
 | none=>rw [if_pos rfl];rfl
 | some x =>
  obtain ⟨hm,hc⟩:=Eh hx
  have hxo:=hl x hm
  have hp:qU s x.1 x.2.1=true:=by
   have:=hxo.k
   unfold stK dK at this
   simp only [aW] at this
   exact this.1.1.1
  have hd:FX s L x≠[45]:=Yc _ _ _ _ _ _ _ hs hxo.c hxo.f hp
  have s4:s≠4:=fun e=>by have:=h4 e;omega
  show (if FX s L x=[45] then some none else (jr s ((j:Int)+1) (FX s L x)).map some)=_
  rw [if_neg hd,ab2 hs hxo (Zo hs (by omega) s4) (by unfold ig;rw [if_pos (by omega),hc];simp)]
  rfl
theorem PE (hs:1≤s∧s≤4) (hn:s=4∨∀ x∈l,(n:Int)<x.1→6<x.1) (hl:∀ x∈l,NwS s L x) {j:Nat} (hj:j<(l.filter fun x=>decide ((n:Int)<x.1)).length):dR s n (n+j) (FX s L (l.filter fun x=>decide ((n:Int)<x.1))[j])=some (some (DV s (l.filter fun x=>decide ((n:Int)<x.1))[j])):=by
 have hm:=dS hj
 obtain ⟨x,hx⟩:∃ z,(l.filter fun x=>decide ((n:Int)<x.1))[j]=z:=⟨_,rfl⟩
 rw [hx]at hm ⊢
 obtain ⟨m1,m2⟩:=List.mem_filter.1 hm
 have m3:=iY m2
 unfold dR
 rw [if_neg (by omega),ab2 hs (hl x m1) (V5 hs) (by
  unfold ig
  rw [if_neg (by omega)]
  rcases hn with e|e
  ·simp [e]
  ·have:=e x m1 m3;simp [this])]
 rfl
theorem awg (hs:1≤s∧s≤4) (h6:n≤6) (h4:s=4→n=0) (hn:s=4∨∀ x∈l,(n:Int)<x.1→6<x.1) (hl:∀ x∈l,NwS s L x) (ha:EK 0 l) (hne:l≠[]):GI s n (lN s L n l)=some (l.map (DV s)):=by
 unfold GI
 rw [Kr]
 have hlen:=VR s L n l
 have hlo:∀ k,k≤n→jd s n (qy s L n l) k=(l.filter fun x=>decide (x.1≤(k:Int))).map (DV s):=by
  intro k
  induction k with
  | zero =>
   intro _
   have:(l.filter fun x=>decide (x.1≤((0:Nat):Int)))=[]:=by
    rw [MI];intro y hy;have:=EL ha y hy;simp;omega
   rw [this];rfl
  | succ k ih =>
   intro hk
   have hkl:k<(qy s L n l).length:=by omega
   have hw:=V6 hs h6 h4 hl (j:=k) au
   rw [xH,ih (by omega),DR hkl,abZ (by omega),hw,Gi,TA,adJ ha,fC]
   cases qX l ((k:Int)+1)<;>rfl
 have hhi:∀ j,j≤(l.filter fun x=>decide ((n:Int)<x.1)).length→jd s n (qy s L n l) (n+j)=(l.filter fun x=>decide (x.1≤(n:Int))).map (DV s)++((l.filter fun x=>decide ((n:Int)<x.1)).take j).map (DV s):=by
  intro j
  induction j with
  | zero=>intro _;rw [zJ,hlo n (bJ n)];simp
  | succ j ih =>
   intro hj
   have hjl:n+j<(qy s L n l).length:=by omega
   have hw:=PE hs hn hl (j:=j) au
   rw [← H8,xH,ih (by omega),DR hjl,abY (by omega),hw,mJ (by omega),fC,jA]
   rfl
 have hL:jd s n (qy s L n l) (qy s L n l).length=l.map (DV s):=by
  rw [hlen,hhi _ (bJ _),jH,← fC,Bf ha]
 have hok:∀ i (h:i<(qy s L n l).length),(dR s n i (qy s L n l)[i]).isSome=true:=fun i h=>by
  rcases wW i n with q|q
  ·rw [abZ q,V6 hs h6 h4 hl q];rfl
  ·obtain ⟨j,rfl⟩:=Nat.exists_eq_add_of_le q
   rw [abY (by omega),PE hs hn hl (by omega)];rfl
 have e:=Pg (s:=s) (n:=n) (W:=qy s L n l) (by omega) hok (by rw [hL];exact ahO (yD 0) ha) (by rw [hL];simpa using hne)
 rw [hL] at e
 exact e
def jF (s:Int)(L:Int→Nat)(x:N5):Stp:=(x.1,x.2.1,x.2.2.1,x.2.2.2.1,uq s (L x.1) x.2.2.2.2)
def NwH(s:Int)(L:Int→Nat)(x:N5):Prop:=(x.2.2.2.2≠0→L x.1≠0)∧(s=1→x.2.2.2.2≤L x.1)
theorem ahR (hs:1≤s∧s≤4) {aT:Int} {w:List UInt8} {x:N5} (h:jr s aT w=some x) (hh:NwH s L x) (h15:L x.1≤15):NwS s L (jF s L x)∧FX s L (jF s L x)=w:=by
 obtain ⟨a1,a2,a3,a4⟩:=wF h
 obtain ⟨a5,a6,a7⟩:=xX a4
 have a8:=a6
 unfold dK at a8
 simp only [aW] at a8
 obtain ⟨b1,b2,b3,b4,b5,b6⟩:=atd hs a8.2 hh.1 hh.2
 obtain ⟨c,f,r,g,k⟩:=x
 dsimp only at a1 a2 a3 a5 a7 a8 b1 b2 b3 b4 b5 h15
 refine ⟨⟨?_,?_,?_,?_,?_,?_,?_,?_⟩,?_⟩
 ·show (1:Int)≤(c:Int)∧(c:Int)≤14;omega
 ·show (0:Int)≤(f:Int)∧(f:Int)≤18;omega
 ·show (0:Int)≤(r:Int)∧(r:Int)≤3;omega
 ·show (0:Int)≤(g:Int)∧(g:Int)≤4;omega
 ·exact ⟨b3,b4⟩
 ·exact h15
 ·exact fun q=>a5.2.2.2 (b5.1 q)
 ·show dK s c f r g (uq s (L c) k) (L c)=true
  unfold dK
  rw [a8.1.1.1,a8.1.1.2,a8.1.2,b1];rfl
 ·show cellS s c f r g (uq s (L c) k) (L c)=w
  rw [← a7]
  unfold cellS
  rw [b2]
theorem ah0 {W:List (List UInt8)} {i:Nat} {x:N5} (hi:i<W.length)(h:x∈qx s n W i):dR s n i W[i]=some (some x):=by
 rw [DR hi]at h
 cases hw:dR s n i W[i]with
 | none=>rw [hw]at h;cases h
 | some o =>
  rw [hw]at h
  cases o with
  | none=>cases h
  | some y =>
   obtain rfl:x=y:=by simpa using h
   rfl
theorem ahZ {i:Nat} {w:List UInt8} {x:N5} (h:dR s n i w=some (some x)):jr s (if i<n then (i:Int)+1 else 0) w=some x:=by
 unfold dR at h
 split at h
 ·rename_i hi
  rw [if_pos hi]
  split at h
  ·cases h
  ·exact alb
 ·rename_i hi
  rw [if_neg hi]
  exact alb
theorem ahQ {V:List (List UInt8)} {nl:List N5} (hs:1≤s∧s≤4) (h6:n≤6) (h4:s=4→n=0) (h:pO s n V=some nl) (hh:∀ x∈nl,NwH s L x) (h15:∀ c,L c≤15) :
  qy s L n (nl.map (jF s L))=V∧(∀ x∈nl.map (jF s L),NwS s L x)∧jD nl∧nl≠[]:=by
 unfold pO at h
 split at h
 ·rename_i hk
  obtain ⟨hn,hok,hasc,hne⟩:=hk
  have hnl:jd s n V V.length=nl:=Option.some.inj h
  rw [hnl] at hasc hne
  have hmem:∀ {i:Nat} {x:N5},i<V.length→x∈qx s n V i→x∈nl:=fun {i x} hi hx=>by rw [← hnl];exact wE.2 ⟨i,hi,hx⟩
  have hcell:∀ {i:Nat} {x:N5} (hi:i<V.length),x∈qx s n V i→NwS s L (jF s L x)∧FX s L (jF s L x)=V[i]:=fun {i x} hi hx=>ahR hs (ahZ (ah0 hi hx)) (hh x (hmem hi hx)) (h15 _)
  refine ⟨?_,fun y hy=>?_,hasc,hne⟩
  rotate_left
  ·obtain ⟨x,hx,rfl⟩:=List.mem_map.1 hy
   rw [← hnl] at hx
   obtain ⟨i,hi,hxi⟩:=wE.1 hx
   exact (hcell hi hxi).1
  have hout:(nl.map (jF s L)).filter (fun x=>decide ((n:Int)<x.1))=(((List.range' n (V.length-n)).flatMap (qx s n V)).map (jF s L)):=by
   rw [← hnl]
   have e:jd s n V V.length=jd s n V n++(List.range' n (V.length-n)).flatMap (qx s n V):=by
    unfold jd
    rw [Me,show V.length=n+(V.length-n) by omega,← List.range'_append_1,Tt,← Me]
    simp
   rw [e,fC,aax]
   have e1:((jd s n V n).map (jF s L)).filter (fun x=>decide ((n:Int)<x.1))=[]:=by
    rw [MI]
    intro y hy
    obtain ⟨x,hx,rfl⟩:=List.mem_map.1 hy
    obtain ⟨i,hi,hxi⟩:=wE.1 hx
    have:=DU hi hxi
    show ¬ decide ((n:Int)<(x.1:Int))=true
    simp;omega
   have e2:(((List.range' n (V.length-n)).flatMap (qx s n V)).map (jF s L)).filter (fun x=>decide ((n:Int)<x.1))=((List.range' n (V.length-n)).flatMap (qx s n V)).map (jF s L):=by
    rw [List.filter_eq_self]
    intro y hy
    obtain ⟨x,hx,rfl⟩:=List.mem_map.1 hy
    obtain ⟨i,hi,hxi⟩:=List.mem_flatMap.1 hx
    have hi2:=List.mem_range'_1.1 hi
    have hb:=RV hxi
    show decide ((n:Int)<(x.1:Int))=true
    rcases J7 hi2.1 hxi with e4|e4
    ·have:=h4 e4;simp;omega
    ·simp;omega
   rw [e1,e2,ug]
  have hone:∀ d k,n≤k→k+d=V.length→(((List.range' k d).flatMap (qx s n V)).map (jF s L)).map (FX s L)=V.drop k:=by
   intro d
   induction d with
   | zero=>intro k _ hk;rw [wU (by omega)];rfl
   | succ d ih =>
    intro k hk hd
    have hkl:k<V.length:=by omega
    obtain ⟨x,hx⟩:=zi hk (hok k hkl)
    have hxk:=wG hkl hx
    have ih2:=ih (k+1) au au
    have hc:=(hcell hkl (x:=x) (by rw [hxk];simp)).2
    rw [MK,Md,hxk,fC,fC,zL hkl]
    show [FX s L (jF s L x)]++_=_
    rw [hc]
    exact congrArg (V[k]::·) ih2
  unfold qy
  rw [hout]
  have h1:=hone (V.length-n) n (bJ n) au
  rw [h1]
  have hst:((List.range n).map fun j:Nat=>Uj s L (nl.map (jF s L)) ((j:Int)+1))=V.take n:=by
   apply fZ
   ·simp;omega
   ·intro j j1 j2
    have hj:j<n:=by simpa using j1
    have hjl:j<V.length:=by omega
    rw [iZ,TB,List.getElem_take]
    have avV:∀ {x y:N5},x∈nl→y∈nl→x.1=y.1→x=y:=fun {x y} hx hy e=>by
     obtain ⟨a,ha,rfl⟩:=eu hx
     obtain ⟨b,hb,rfl⟩:=eu hy
     rcases Tj a b with q|q|q
     ·have:=List.pairwise_iff_getElem.1 hasc a b ha hb q;omega
     ·subst q;rfl
     ·have:=List.pairwise_iff_getElem.1 hasc b a hb ha q;omega
    cases hw:dR s n j V[j] with
    | none=>have:=hok j hjl;rw [hw] at this;cases this
    | some o =>
     cases o with
     | none =>
      have hd:V[j]=[45]:=by
       unfold dR at hw
       rw [if_pos hj] at hw
       split at hw
       ·assumption
       ·obtain ⟨y,_,e⟩:=Option.map_eq_some_iff.1 hw
        cases e
      have hno:qX (nl.map (jF s L)) ((j:Int)+1)=none:=by
       apply FW
       intro y hy e
       obtain ⟨x,hx,rfl⟩:=List.mem_map.1 hy
       have hx2:=hx
       rw [← hnl] at hx2
       obtain ⟨i,hi,hxi⟩:=wE.1 hx2
       have e2:(x.1:Int)=(j:Int)+1:=e
       rcases wW i n with q|q
       ·have:=DU q hxi
        have:i=j:=by omega
        subst this
        rw [Py hjl hw] at hxi
        cases hxi
       ·rcases J7 q hxi with e4|e4
        ·have:=h4 e4;omega
        ·omega
      unfold Uj
      rw [hno,hd]
     | some x =>
      have hxk:=wG hjl hw
      have hxm:=hmem hjl (x:=x) (by rw [hxk];simp)
      have hx1:=VN hj hw
      have hc:=(hcell hjl (x:=x) (by rw [hxk];simp)).2
      cases hs2:qX (nl.map (jF s L)) ((j:Int)+1) with
      | none =>
       exfalso
       unfold qX at hs2
       rw [yx] at hs2
       have:=hs2 (jF s L x) (List.mem_map.2 ⟨x,hxm,rfl⟩)
       apply this
       show ((x.1:Int) == (j:Int)+1)=true
       simp;omega
      | some y =>
       obtain ⟨m1,m2⟩:=Eh hs2
       obtain ⟨z,hz,rfl⟩:=List.mem_map.1 m1
       have m3:(z.1:Int)=(j:Int)+1:=m2
       have:z=x:=avV hz hxm au
       subst this
       unfold Uj
       rw [hs2]
       exact hc
  rw [hst,MP]
 ·cases h
end
def nwB(b:UInt8):Bool:=b != 32 && b != 10 && b != 126 && b != 37
theorem Zp:((List.range' 1 4).all fun s=>(List.range' 1 14).all fun c=>(List.range 19).all fun f=>(rS (s:Int) (c:Int) (f:Int)).all nwB)=true:=by decide +kernel
theorem aeJ:((List.range' 1 4).all fun s=>((List.range 4).all fun r=>(rR (s:Int) (r:Int)).all nwB) && ((List.range 5).all fun g=>(rG (s:Int) (g:Int)).all nwB) && ((List.range 16).all fun h=>(pH (s:Int) (h:Int) 15).all nwB))=true:=by decide +kernel
theorem ahP {s aT:Int} {w:List UInt8} {x:N5} (hsp:aK s aT=0) (h:jr s aT w=some x):∀ b∈w,nwB b=true:=by
 have hs:=nH hsp
 obtain ⟨a1,a2,a3,a4⟩:=wF h
 obtain ⟨a5,a6,a7⟩:=xX a4
 obtain ⟨c,f,r,g,hh⟩:=x
 dsimp only at a1 a2 a5 a6 a7
 obtain ⟨l1,l2⟩:=qm s c f hs au au
 unfold dK at a6
 simp only [aW] at a6
 obtain ⟨k,rfl⟩:=gq (show 0≤s by omega)
 have h1:=List.all_eq_true.1 (List.all_eq_true.1 (List.all_eq_true.1 (List.all_eq_true.1 Zp k (List.mem_range'_1.2 au)) c (List.mem_range'_1.2 au)) f (List.mem_range.2 au))
 have h2:=List.all_eq_true.1 aeJ k (List.mem_range'_1.2 au)
 simp only [aW] at h2
 have h3:=List.all_eq_true.1 (List.all_eq_true.1 h2.1.1 r (List.mem_range.2 au))
 have h4:=List.all_eq_true.1 (List.all_eq_true.1 h2.1.2 g (List.mem_range.2 au))
 have h5:=List.all_eq_true.1 (List.all_eq_true.1 h2.2 hh (List.mem_range.2 au))
 intro b hb
 rw [← a7] at hb
 unfold cellS at hb
 rw [l2 a6.1.1.1] at hb
 simp only [Ig] at hb
 rcases hb with((x|x)|x)|x
 ·exact h1 b x
 ·exact h3 b x
 ·exact h4 b x
 ·exact h5 b x
theorem Fh {b:UInt8} (h:nwB b=true):b≠32∧b≠10∧b≠126∧b≠37:=by
 unfold nwB at h
 simp only [aW,Gl]at h
 exact⟨h.1.1.1,h.1.1.2,h.1.2,h.2⟩
theorem PD {s c:Int} (hs:1≤s∧s≤4)(hc:1≤c):aK s (zC s c)=0∧ig s (zC s c) c=true:=by
 unfold aK ig zC
 rw [if_neg (fun k=>k hs)]
 by_cases q:s=4∨6<c
 ·rw [if_pos q]
  refine⟨if_neg au,?_⟩
  rw [if_neg (by omega)]
  rcases q with q|q<;>simp [q]
 ·rw [if_neg q]
  refine⟨if_neg au,?_⟩
  rw [if_pos (by omega)];simp
theorem G8 {s:Int} {L:Int→Nat} {x:Stp} (hs:1≤s∧s≤4)(hx:NwS s L x):∀ b∈FX s L x,nwB b=true:=by
 obtain⟨h1,h2⟩:=PD (c:=x.1) hs hx.c.1
 exact ahP h1 (ab2 hs hx h1 h2)
theorem Kt {s:Int} {words:List (List UInt8)} {w:List UInt8}:w∈ku s words↔w∈words:=by unfold ku;split<;>simp
theorem Oa {s:Int} {L:Int→Nat} {n:Nat} {l:List Stp} (hs:1≤s∧s≤4)(hl:∀ x∈l,NwS s L x):∀ w∈lN s L n l,∀ b∈w,nwB b=true:=by
 intro w hw
 have hw2:w∈qy s L n l:=by rw [← Kr];exact Kt.2 hw
 unfold qy at hw2
 rcases List.mem_append.1 hw2 with k|k
 ·obtain⟨j,_,rfl⟩:=List.mem_map.1 k
  unfold Uj
  cases hx:qX l ((j:Int)+1)with
  | none=>intro b hb;rw [List.mem_singleton.1 hb];decide
  | some x=>exact G8 hs (hl x (Eh hx).1)
 ·obtain⟨x,hx,rfl⟩:=List.mem_map.1 k
  exact G8 hs (hl x (List.mem_filter.1 hx).1)
theorem aeN:((List.range 8).all fun v=>(List.range 3).all fun i=>(tW (v:Int) i).all nwB && !(tW (v:Int) i == [124]))=true:=by decide +kernel
theorem awk {v:Int} {i:Nat} (hv:0≤v∧v≤7)(hi:i<3):(∀ b∈tW v i,nwB b=true)∧tW v i≠[124]:=by
 obtain⟨k,rfl⟩:=gq hv.1
 have:=List.all_eq_true.1 (List.all_eq_true.1 aeN k (List.mem_range.2 au)) i (List.mem_range.2 hi)
 simp only [aW,jg,iy,beq_eq_false_iff_ne] at this
 exact this
theorem RY {c:UInt8} (hc:c=32):∀ (r:List (List UInt8)) (w:List UInt8),aQ c w→(∀ x∈r,aQ c x)→dw c (lU (w::r))=w::r
 | [],w,h,_=>by
  subst hc
  show dw 32 (w++[])=[w]
  rw [nI];exact Lj 32 w h
 | y::r,w,h,hr=>by
  subst hc
  have ih:=RY rfl r y (hr y (by simp)) (fun x hx=>hr x rU)
  show dw 32 (w++32::lU (y::r))=_
  rw [Hr 32 _ _ h,ih]
theorem ab5:∀ (ls:List (List UInt8))(tl:List UInt8),lU (ls++[tl])=bF 32 ls tl
 | [],tl=>by show tl++[]=tl;rw [nI]
 | l::ls,tl=>by
  rw [fE,← ab5 ls tl]
  cases ls with
  | nil=>rfl
  | cons x r=>rfl
theorem VZ (t:List UInt8):lU (dw 32 t)=t:=by
 unfold dw
 rw [ab5,qE]
theorem an5 {s:Int} {sg:List UInt8} {v i:Nat} (h:lD (EI s sg) 0 8=some (v,i)):v≤7∧i<3∧(v≠0∨i=0)∧Aq s v i=true∧tW v i=sg:=by
 rw [LC] at h
 have h1:=Ia h
 have h2:=MN h
 unfold wJ at h2
 simp only [List.mem_flatMap,List.mem_range,List.mem_map,Prod.mk.injEq] at h2
 obtain⟨a,ha,b,hb,e1,e2⟩:=h2
 unfold EI at h1
 simp only [aW,qI,Gl,qH] at h1
 exact⟨by omega,by omega,h1.1,h1.2.1,h1.2.2⟩
theorem awj {v i:Nat} (hv:v≤7) (hi:i<3) (h:v≠0∨i=0):gZ v (IE i) (EH i)=true∧sH (IE i) (EH i)=i:=by
 have h3:i=0∨i=1∨i=2:=by omega
 rcases h3 with rfl|rfl|rfl
 ·exact aaI
 ·exact aaI
 ·exact aaI
theorem GY {b:Bool} {i c w:Int} (h:jP b i c w=[]):b=true:=by cases b<;>first|rfl|cases h
def nC (s:Int)(e:Ev):NC:=⟨e.bar,e.val.toNat,sH e.dot e.three,e.tie,e.stops.map (DV s)⟩
section
variable {s:Int} {p:aS} {i:Int} {e:Ev}
theorem QS:xw s p i e=headW s e++(if e.tie=true then [[126]] else if e.stops.length=0 then [[37]] else lN s (fun c=>ah p.evs i c) (fA s p) e.stops):=rfl
theorem an3 (hs:1≤s∧s≤4) (hsg:gZ e.val e.dot e.three=true) (htie:e.tie=true→e.stops=[]) (hlk:mG s p i e=[]) (hl:∀ x∈e.stops,NwS s (fun c=>ah p.evs i c) x) (ha:EK 0 e.stops) (hcs:∀ x∈e.stops,x.1≤p.cs.length) :
  jk s (aJ s p.cs) (colS s p i e)=some (nC s e)∧aQ 10 (colS s p i e):=by
 have hlk0:=hlk
 rw [vZ] at hlk
 have hh:=(List.append_eq_nil_iff.1 hlk).1
 obtain ⟨k1,k2⟩:=List.append_eq_nil_iff.1 hh
 obtain ⟨k2,k3⟩:=List.append_eq_nil_iff.1 k2
 have hv7:0≤e.val∧e.val≤7:=by
  unfold gZ at hsg
  simp only [qI,aW,qH,gu] at hsg
  omega
 have hsI:sH e.dot e.three<3:=by unfold sH;split;omega;split<;>omega
 have hto:Aq s e.val (sH e.dot e.three)=true:=by
  unfold Aq
  by_cases v0:e.val=0
  ·rw [if_pos v0]
   unfold X0 at k1
   rw [if_pos v0] at k1
   have:=GY k1
   rcases Ku hs with rfl|rfl|rfl|rfl<;>first|rfl|cases this
  ·rw [if_neg v0]
   cases ht:e.three with
   | false=>unfold sH;cases e.dot<;>rfl
   | true =>
    unfold X3 at k2
    rw [if_pos ht] at k2
    have:=GY k2
    rcases Ku hs with rfl|rfl|rfl|rfl<;>first|(simp;done)|exact absurd this (by decide)
 have hte:Ar s e.val e.dot e.three=0:=by
  unfold Ar
  rw [if_neg (fun q=>q hs),if_neg (by rw [hsg];decide),if_neg (by rw [hto];decide)]
 obtain ⟨p1,p2,p3,p4⟩:=Zx s e.val e.dot e.three hte
 have htx:Jg s e.val e.dot e.three=tW e.val (sH e.dot e.three):=if_pos hte
 rw [htx] at p1
 obtain ⟨t1,t2⟩:=awk hv7 hsI
 obtain ⟨SG,hSG⟩:∃ z,tW e.val (sH e.dot e.three)=z:=⟨_,rfl⟩
 rw [hSG] at p1 t1 t2
 obtain ⟨B,hB⟩:∃ z,(if e.tie=true then [[126]] else if e.stops.length=0 then [[37]] else lN s (fun c=>ah p.evs i c) (fA s p) e.stops:List (List UInt8))=z:=⟨_,rfl⟩
 have hbody:jY s (aJ s p.cs) e.bar e.val.toNat (sH e.dot e.three) B=some (nC s e)∧(∀ w∈B,∀ b∈w,b≠32∧b≠10)∧B≠[]:=by
  unfold jY nC
  by_cases h7:e.tie=true
  ·rw [if_pos h7] at hB
   subst hB
   have h4:s≠4:=by
    unfold Rw at k3
    rw [if_pos h7] at k3
    have:=GY k3
    rintro rfl
    cases this
   rw [if_pos ⟨rfl,h4⟩,h7,htie h7]
   exact akf
  rw [if_neg h7] at hB
  have h7f:e.tie=false:=by simpa using h7
  by_cases h8:e.stops.length=0
  ·rw [if_pos h8] at hB
   subst hB
   have h3:s≠3:=by
    unfold Rw at k3
    rw [if_neg h7,if_pos h8] at k3
    have:=GY k3
    rintro rfl
    cases this
   rw [if_neg (fun q=>absurd q.1 (by decide)),if_pos ⟨rfl,h3⟩,h7f,oN h8]
   exact akf
  rw [if_neg h8] at hB
  have hby:=Oa (n:=fA s p) hs hl
  rw [hB] at hby
  have hne:e.stops≠[]:=fun q=>h8 (by rw [q];rfl)
  obtain ⟨n6,n4⟩:fA s p≤6∧(s=4→fA s p=0):=by
   unfold fA
   exact aku
  have hn:s=4∨∀ x∈e.stops,((fA s p:Nat):Int)<x.1→6<x.1:=by
   by_cases q:s=4
   ·exact .inl q
   ·refine .inr fun x hx hlt=>?_
    unfold fA at hlt
    rw [if_neg q] at hlt
    have:=hcs x hx
    omega
  have hch:=awg (n:=fA s p) hs n6 n4 hn hl ha hne
  rw [hB] at hch
  have hBne:B≠[]:=by
   intro q
   rw [q] at hch
   unfold GI at hch
   rw [show ku s ([]:List (List UInt8))=[] by unfold ku;split<;>rfl,O9 rfl] at hch
   cases hch
  rw [if_neg (fun q=>by
   have:=(Fh (hby [126] (by rw [q.1];simp) 126 (by simp))).2.2.1
   exact this rfl),if_neg (fun q=>by
   have:=(Fh (hby [37] (by rw [q.1];simp) 37 (by simp))).2.2.2
   exact this rfl),show aJ s p.cs=fA s p from rfl,hch,h7f]
  exact ⟨rfl,fun w hw b hb=>⟨(Fh (hby w hw b hb)).1,(Fh (hby w hw b hb)).2.1⟩,hBne⟩
 obtain ⟨b1,b2,b3⟩:=hbody
 obtain ⟨w1,r1,rfl⟩:∃ w r,B=w::r:=by
  cases B with
  | nil=>exact absurd rfl b3
  | cons w r=>exact ⟨w,r,rfl⟩
 have apA:∀ bar,bar=e.bar→ou s (aJ s p.cs) bar (SG::w1::r1)=some (nC s e):=fun bar hbar=>by
  subst hbar
  show (lD (EI s SG) 0 8).bind _=_
  rw [p1]
  exact b1
 have hcw:colS s p i e=lU (headW s e++(w1::r1)):=by unfold colS;rw [QS,hB]
 rw [hcw]
 have avl:aQ 32 SG:=fun b hb=>(Fh (t1 b hb)).1
 have hBn:∀ x∈w1::r1,aQ 32 x:=fun x hx b hb=>(b2 x hx b hb).1
 have avU:∀ (W:List (List UInt8)),(∀ w∈W,∀ b∈w,b≠10)→aQ 10 (lU W):=by
  intro W hW
  cases W with
  | nil=>intro b hb;cases hb
  | cons w r =>
   intro b hb
   rcases List.mem_append.1 hb with q|q
   ·exact hW w (by simp) b q
   ·obtain ⟨x,hx,hbx⟩:=List.mem_flatMap.1 q
    unfold sp at hbx
    rcases List.mem_cons.1 hbx with rfl|k
    ·decide
    ·exact hW x rU b k
 cases hbar:e.bar with
 | true =>
  have hd:headW s e=[[124],SG]:=by unfold headW;rw [if_pos hbar,hSG]
  rw [hd]
  refine ⟨?_,avU _ fun w hw b hb=>?_⟩
  ·unfold jk
   rw [show ([[124],SG]++(w1::r1):List (List UInt8))=[124]::(SG::w1::r1) from rfl,RY rfl _ _ (by intro b hb;rw [List.mem_singleton.1 hb];decide) (fun x hx=>by
    rcases List.mem_cons.1 hx with rfl|hx
    ·exact avl
    ·exact hBn x hx)]
   show (if ([124]:List UInt8)=[124] then _ else _)=_
   rw [if_pos rfl]
   exact apA true hbar.symm
  ·rcases List.mem_append.1 hw with q|q
   ·rcases List.mem_cons.1 q with rfl|q
    ·rw [List.mem_singleton.1 hb];decide
    ·exact alj
   ·exact (b2 w q b hb).2
 | false =>
  have hd:headW s e=[SG]:=by unfold headW;rw [if_neg (by rw [hbar];decide),hSG]
  rw [hd]
  refine ⟨?_,avU _ fun w hw b hb=>?_⟩
  ·unfold jk
   rw [show ([SG]++(w1::r1):List (List UInt8))=SG::(w1::r1) from rfl,RY rfl _ _ avl hBn]
   show (if SG=[124] then _ else _)=_
   rw [if_neg t2]
   exact apA false hbar.symm
  ·rcases List.mem_append.1 hw with q|q
   ·exact alj
   ·exact (b2 w q b hb).2
structure NwX (s:Int) (L:Int→Nat) (x:NC):Prop where
 sg:gZ x.v (IE x.i) (EH x.i)=true
 sI:sH (IE x.i) (EH x.i)=x.i
 tie:x.tie=true→x.l=[]
 EK:jD x.l
 st:∀ y∈x.l,NwS s L (jF s L y)
theorem Y5 {s:Int} {a b:List (List UInt8)} (h:ku s a=ku s b):a=b:=by
 unfold ku at h
 split at h
 ·exact List.reverse_inj.1 h
 ·exact h
theorem an4 {t:List UInt8} {x:NC} (hs:1≤s∧s≤4) (hf:jk s (aJ s p.cs) t=some x) (hh:∀ y∈x.l,NwH s (fun c=>ah p.evs i c) y) :
  colS s p i (dN x fun y=>uq s (ah p.evs i y.1) y.2.2.2.2)=t∧mG s p i (dN x fun y=>uq s (ah p.evs i y.1) y.2.2.2.2)=[]∧NwX s (fun c=>ah p.evs i c) x:=by
 obtain ⟨n6,n4⟩:aJ s p.cs≤6∧(s=4→aJ s p.cs=0):=by
  unfold aJ
  exact aku
 have Ba:=VZ t
 unfold jk at hf
 obtain ⟨ws,hws⟩:∃ z,dw 32 t=z:=⟨_,rfl⟩
 rw [hws] at hf Ba
 obtain ⟨bar,W,hbar,hW,hf⟩:∃ bar W,ws=(if bar=true then [[124]] else [])++W∧True∧ou s (aJ s p.cs) bar W=some x:=by
  cases ws with
  | nil=>cases hf
  | cons w r =>
   dsimp only at hf
   by_cases e:w=[124]
   ·rw [if_pos e] at hf
    exact ⟨true,r,by rw [e];rfl,trivial,hf⟩
   ·rw [if_neg e] at hf
    exact ⟨false,w::r,rfl,trivial,hf⟩
 obtain ⟨sg,w1,r1,rfl⟩:∃ sg w1 r1,W=sg::w1::r1:=by
  match W,hf with
  | [],hf=>cases hf
  | [_],hf=>cases hf
  | sg::w1::r1,_=>exact ⟨sg,w1,r1,rfl⟩
 have hf2:(lD (EI s sg) 0 8).bind (fun x=>jY s (aJ s p.cs) bar x.1 x.2 (w1::r1))=some x:=hf
 obtain ⟨⟨v,k⟩,hsc,hb⟩:=Option.bind_eq_some_iff.1 hf2
 dsimp only at hb
 obtain ⟨s1,s2,s3,s4,s5⟩:=an5 hsc
 obtain ⟨g1,g2⟩:=awj s1 s2 s3
 have hB:x.bar=bar∧x.v=v∧x.i=k∧(x.tie=true→x.l=[]∧s≠4)∧(x.tie=false→x.l=[]→s≠3)∧jD x.l∧(∀ y∈x.l,NwS s (fun c=>ah p.evs i c) (jF s (fun c=>ah p.evs i c) y)) ∧
   (if x.tie=true then [[126]] else if x.l=[] then [[37]] else lN s (fun c=>ah p.evs i c) (aJ s p.cs) (x.l.map (jF s fun c=>ah p.evs i c)))=w1::r1:=by
  unfold jY at hb
  split at hb
  ·rename_i q
   cases hb
   exact ⟨rfl,rfl,rfl,fun _=>⟨rfl,q.2⟩,fun h=>(by cases h),List.Pairwise.nil,fun y hy=>(BF hy).elim,by rw [if_pos rfl];exact q.1.symm⟩
  ·split at hb
   ·rename_i q
    cases hb
    exact ⟨rfl,rfl,rfl,fun h=>(by cases h),fun _ _=>q.2,List.Pairwise.nil,fun y hy=>(BF hy).elim,by rw [if_neg (fun h=>by cases h),if_pos rfl];exact q.1.symm⟩
   ·obtain ⟨l,hl,e⟩:=Option.map_eq_some_iff.1 hb
    subst e
    obtain ⟨c1,c2,c3,c4⟩:=ahQ (L:=fun c=>ah p.evs i c) hs n6 n4 (show pO s (aJ s p.cs) (ku s (w1::r1))=some l from hl) hh (fun c=>uK p.evs i c)
    refine ⟨rfl,rfl,rfl,fun h=>(by cases h),fun _ h=>absurd h c4,c3,fun y hy=>c2 _ (List.mem_map.2 ⟨y,hy,rfl⟩),?_⟩
    show (if false=true then [[126]] else if l=[] then [[37]] else _)=_
    rw [if_neg (by decide),if_neg c4]
    rw [← Kr] at c1
    exact Y5 c1
 obtain ⟨e1,e2,e3,e4,e5,e6,e7,e8⟩:=hB
 have hstops:(dN x fun y=>uq s (ah p.evs i y.1) y.2.2.2.2).stops=x.l.map (jF s fun c=>ah p.evs i c):=rfl
 refine ⟨?_,?_,⟨by rw [e2,e3];exact g1,by rw [e3];exact g2,fun h=>(e4 h).1,e6,e7⟩⟩
 ·unfold colS
  rw [QS,hstops]
  have hh2:headW s (dN x fun y=>uq s (ah p.evs i y.1) y.2.2.2.2)=(if bar=true then [[124]] else [])++[sg]:=by
   unfold headW
   show (if x.bar=true then [[124],tW x.v (sH (IE x.i) (EH x.i))] else [tW x.v (sH (IE x.i) (EH x.i))])=_
   rw [e1,e2,e3,g2,s5]
   cases bar<;>rfl
  have hb2:(if (dN x fun y=>uq s (ah p.evs i y.1) y.2.2.2.2).tie=true then [[126]] else if (x.l.map (jF s fun c=>ah p.evs i c)).length=0 then [[37]] else lN s (fun c=>ah p.evs i c) (fA s p) (x.l.map (jF s fun c=>ah p.evs i c)):List (List UInt8))=w1::r1:=by
   rw [← e8]
   show (if x.tie=true then _ else _)=_
   by_cases q:x.l=[]
   ·rw [q];rfl
   ·rw [if_neg (show ¬ (x.l.map (jF s fun c=>ah p.evs i c)).length=0 by rw [aH];exact fun h=>q (oN h)),if_neg q];rfl
  rw [hh2,hb2,← Ba,hbar,jA];rfl
 ·rw [vZ]
  have a1:X0 s i (dN x fun y=>uq s (ah p.evs i y.1) y.2.2.2.2).val=[]:=by
   show X0 s i (x.v:Int)=[]
   unfold X0
   by_cases q:(x.v:Int)=0
   ·rw [if_pos q]
    have h4:s≠4:=by
     intro h
     rw [h] at s4
     unfold Aq at s4
     rw [if_pos (by omega)] at s4
     simp at s4
    exact aaC
   ·rw [if_neg q]
  have a2:X3 s i (dN x fun y=>uq s (ah p.evs i y.1) y.2.2.2.2).three=[]:=by
   show X3 s i (EH x.i)=[]
   unfold X3
   by_cases q:EH x.i=true
   ·rw [if_pos q]
    have hk:k=2:=by rw [e3] at q;unfold EH at q;simpa using q
    have h4:s≠4:=by
     intro h
     rw [h,hk] at s4
     unfold Aq at s4
     rw [if_neg (by omega)] at s4
     simp at s4
    exact aaC
   ·rw [if_neg q]
  have a3:Rw s i (dN x fun y=>uq s (ah p.evs i y.1) y.2.2.2.2).tie (dN x fun y=>uq s (ah p.evs i y.1) y.2.2.2.2).stops.length=[]:=by
   rw [hstops,aH]
   show Rw s i x.tie x.l.length=[]
   unfold Rw
   by_cases q:x.tie=true
   ·rw [if_pos q]
    have h4:=(e4 q).2
    exact aaC
   ·rw [if_neg q]
    by_cases q2:x.l.length=0
    ·rw [if_pos q2]
     have h3:=e5 rQ (oN q2)
     rcases Ku hs with rfl|rfl|rfl|rfl<;>first|rfl|exact absurd rfl h3
    ·rw [if_neg q2]
  rw [a1,a2,a3,hstops]
  show (x.l.map (jF s fun c=>ah p.evs i c)).flatMap (fH s i fun c=>ah p.evs i c)=[]
  rw [MG]
  intro y hy
  obtain ⟨z,hz,rfl⟩:=List.mem_map.1 hy
  have hk:=(e7 z hz).k
  unfold stK dK at hk
  simp only [aW] at hk
  unfold fH
  rw [hk.1.1.1,hk.1.1.2,hk.1.2,hk.2]
  rfl
end
def Zi (o:Int):List UInt8:=if o<0 then [45,49]else [UInt8.ofNat (48+o.toNat)]
theorem aeL {o:Int} (h:-1≤o∧o≤9):Lib.itoa o=Zi o:=by
 unfold Zi
 by_cases h0:o < 0
 ·rw [if_pos h0]
  obtain rfl:o=-1:=by omega
  rw [itoa_neg _ (by omega),show (0:Int) - -1=((1:Nat):Int)by omega,tK (by omega)]
  rfl
 ·rw [if_neg h0]
  obtain⟨k,rfl⟩:=gq (show 0≤o by omega)
  rw [tK (by omega)]
  unfold jL
  rw [if_pos (by omega),fO]
def Ko (r:Int×Int×Int):List UInt8:=cut YT r.1 (r.1+1)++sgn r.2.1++Zi r.2.2
theorem aeK:((List.range 128).all fun p=>iW (Ko (yP (p:Int) 0)) == (yP (p:Int) 0,0) && yO (yP (p:Int) 0).1 (yP (p:Int) 0).2.1 (yP (p:Int) 0).2.2 == (p:Int) && (Ko (yP (p:Int) 0)).all (fun b=>b != 32 && b != 10 && b != 47))=true:=by decide +kernel
theorem ahW {p:Int} (h:0≤p∧p≤127):nmT (yP p 0).1 (yP p 0).2.1 (yP p 0).2.2=Ko (yP p 0)∧iW (Ko (yP p 0))=(yP p 0,0)∧yO (yP p 0).1 (yP p 0).2.1 (yP p 0).2.2=p∧∀ b∈Ko (yP p 0),b≠32∧b≠10∧b≠47:=by
 have hi:=(LH (Z4 h).2).1
 unfold wO at hi
 obtain⟨k,rfl⟩:=gq h.1
 have:=List.all_eq_true.1 aeK k (List.mem_range.2 au)
 simp only [aW,qH,jg,Gl]at this
 refine⟨?_,this.1.1,this.1.2,fun b hb=>⟨(this.2 b hb).1.1,(this.2 b hb).1.2,(this.2 b hb).2⟩⟩
 unfold nmT Ko
 rw [aeL hi.2.2]
theorem Zg:((List.range 128).all fun n=>(jL n).all (fun b=>b != 43 && b != 58) && !(jL n).isEmpty)=true:=by decide +kernel
theorem atc {n:Nat} (h:n<128):(∀ b∈jL n,b≠43∧b≠58)∧jL n≠[]:=by
 have:=List.all_eq_true.1 Zg n (List.mem_range.2 h)
 simp only [aW,jg,Gl,iy,List.isEmpty_eq_false_iff]at this
 exact this
def qA (c:Crs):List UInt8:=nmT (yP c.1 0).1 (yP c.1 0).2.1 (yP c.1 0).2.2++[47]++Lib.itoa c.2.1++(if c.2.2 then [43]else [])
theorem ahT {c:Crs} (h1:0≤c.1∧c.1≤127) (h2:0≤c.2.1∧c.2.1≤18):iJ (qA c)=(c,0)∧aQ 32 (qA c)∧aQ 10 (qA c)∧qA c≠[58]:=by
 obtain ⟨p,f,pl⟩:=c
 dsimp only at h1 h2
 obtain ⟨n1,n2,n3,n4⟩:=ahW h1
 obtain ⟨k,rfl⟩:=gq h2.1
 have hd:=tK (n:=k) au
 have hdo:=Ld (n:=k) au
 obtain ⟨d1,d2⟩:=atc (n:=k) au
 obtain ⟨T,hT⟩:∃ z,Ko (yP p 0)=z:=⟨_,rfl⟩
 obtain ⟨D,hD⟩:∃ z,jL k=z:=⟨_,rfl⟩
 rw [hT]at n1 n2 n4
 rw [hD]at hd hdo d1 d2
 have hw:qA (p,(k:Int),pl)=T++47::(D++if pl then [43]else []):=by
  unfold qA
  dsimp only
  rw [n1,hd];simp
 rw [hw]
 have hpl:jK (D++if pl then [43]else [])=(D,pl):=by
  unfold jK
  cases pl with
  | true =>
   rw [if_pos (by simp)]
   simp
  | false =>
   have:(D++(if false=true then [43]else []):List UInt8)=D:=by simp
   rw [this,if_neg]
   intro q
   exact (d1 43 (List.mem_of_getLast? q)).1 rfl
 refine ⟨?_,fun b hb=>?_,fun b hb=>?_,?_⟩
 ·unfold iJ
  rw [PX (fun b hb=>(n4 b hb).2.2)]
  dsimp only
  rw [n2,hpl]
  dsimp only
  rw [if_neg (by decide),hdo.1]
  dsimp only
  rw [if_neg (fun q=>q rfl),n3]
 ·rcases List.mem_append.1 hb with q|q
  ·exact (n4 b q).1
  ·rcases List.mem_cons.1 q with rfl|q
   ·decide
   ·rcases List.mem_append.1 q with q|q
    ·exact hdo.2.1 b q
    exact akD
 ·rcases List.mem_append.1 hb with q|q
  ·exact (n4 b q).2.1
  ·rcases List.mem_cons.1 q with rfl|q
   ·decide
   ·rcases List.mem_append.1 q with q|q
    ·exact hdo.2.2.1 b q
    exact akD
 ·intro e
  have:(47:UInt8)∈T++47::(D++if pl then [43]else []):=by simp
  rw [e]at this
  exact absurd (List.mem_singleton.1 this) (by decide)
theorem aeH {st:List Int}:∀ {cs:List Crs},yJ st cs=0→∀ c∈cs,(0≤c.1∧c.1≤127)∧0≤c.2.1∧c.2.1≤st.length:=by
 intro cs
 induction cs with
 | nil=>intro _ c hc;cases hc
 | cons x r ih =>
  intro h c hc
  unfold yJ at h
  by_cases h1:x.2.1<0∨(st.length:Int)<x.2.1
  ·rw [if_pos h1]at h;cases h
  ·rw [if_neg h1]at h
   by_cases h2:(x.1<0∨127<x.1)∨127<rJ st x
   ·exact Gt
   ·rw [if_neg h2]at h
    rcases List.mem_cons.1 hc with rfl|hc
    ·omega
    ·exact ih h c hc
def wH (cs:List Crs)(st:List Int):List (List UInt8):=cs.map qA++[58]::st.map Lib.itoa
theorem CG:∀ (cs:List Crs)(st:List Int),Ug cs st=lU (wH cs st)
 | [],st=>by
  unfold Ug wH uF wP
  show []++[58]++(st.map afw).flatten=[58]++spW (st.map Lib.itoa)
  unfold spW
  rw [List.flatMap_map,List.flatMap_def];rfl
 | c::r,st=>by
  have ih:=CG r st
  have e:Ug (c::r) st=QW c++Ug r st:=by unfold Ug uF;simp
  have e2:QW c=qA c++[32]:=by unfold QW qA;simp
  rw [e,e2,ih,jA]
  show qA c++([32]++lU (wH r st))=lU (qA c::wH r st)
  cases hw:wH r st with
  | nil=>unfold wH at hw;simp at hw
  | cons y q=>rfl
theorem ahS:∀ {a b:List (List UInt8)},(∀ w∈a,w≠[58])→lZ (a++[58]::b)=some (a,b)
 | [],b,_=>by unfold lZ;exact if_pos rfl
 | w::r,b,h=>by
  show (if w=[58]then some ([],r++[58]::b)else (lZ (r++[58]::b)).map fun x=>(w::x.1,x.2))=_
  rw [if_neg (h w (by simp)),ahS (fun x hx=>h x rU)];rfl
theorem ab3:∀ {l:List (List UInt8)},(∀ w∈l,(iJ w).2=0)→mZ l=0
 | [],_=>rfl
 | w::r,h=>by
  unfold mZ
  rw [if_neg (fun q=>q (h w (by simp))),ab3 fun x hx=>h x rU]
theorem ab4:∀ {l:List (List UInt8)},(∀ w∈l,(dV w).isSome=true)→qV l=0
 | [],_=>rfl
 | w::r,h=>by
  unfold qV
  rw [if_pos (h w (by simp)),ab4 fun x hx=>h x rU]
theorem ate {cs:List Crs} {st:List Int} (h:fU cs st=0):aG (Ug cs st)=((cs,st),0)∧aQ 10 (Ug cs st):=by
 obtain ⟨l1,l2,l3,l4,l5⟩:=mF h
 have hc:=aeH l5
 have hst:=lF (st:=st) (last:=0) (yD 0) l4
 have hs:∀ n∈st,1≤n∧n≤127:=fun n hn=>by
  obtain ⟨k,hk,rfl⟩:=eu hn
  exact hst k hk
 have hcw:∀ c∈cs,iJ (qA c)=(c,0)∧aQ 32 (qA c)∧aQ 10 (qA c)∧qA c≠[58]:=fun c hcm=>by
  have:=hc c hcm
  exact ahT this.1 ⟨this.2.1,by omega⟩
 have hsw:∀ n∈st,dV (Lib.itoa n)=some n.toNat∧aQ 32 (Lib.itoa n)∧aQ 10 (Lib.itoa n):=fun n hn=>by
  have hb:=hs n hn
  obtain ⟨k,rfl⟩:=gq (show 0≤n by omega)
  have e:=Ld (n:=k) au
  rw [tK (by omega),fO]
  exact ⟨e.1,e.2.1,e.2.2.1⟩
 have hmem:∀ w∈wH cs st,aQ 32 w∧aQ 10 w:=fun w hw=>by
  unfold wH at hw
  rcases List.mem_append.1 hw with q|q
  ·obtain ⟨c,hcm,rfl⟩:=List.mem_map.1 q
   exact ⟨(hcw c hcm).2.1,(hcw c hcm).2.2.1⟩
  ·rcases List.mem_cons.1 q with rfl|q
   ·exact ⟨fun b hb=>by rw [List.mem_singleton.1 hb];decide,fun b hb=>by rw [List.mem_singleton.1 hb];decide⟩
   ·obtain ⟨n,hn,rfl⟩:=List.mem_map.1 q
    exact (hsw n hn).2
 have ayW:dw 32 (Ug cs st)=wH cs st:=by
  rw [CG]
  cases hw:wH cs st with
  | nil=>unfold wH at hw;simp at hw
  | cons y q =>
   rw [hw] at hmem
   exact RY rfl q y (hmem y (by simp)).1 fun x hx=>(hmem x rU).1
 refine ⟨?_,?_⟩
 ·have hraw:l7 (Ug cs st)=((cs,st),0):=by
   unfold l7
   rw [ayW]
   unfold wH
   rw [ahS (fun w hw=>by
    obtain ⟨c,hcm,rfl⟩:=List.mem_map.1 hw
    exact (hcw c hcm).2.2.2)]
   dsimp only
   rw [ab3 (fun w hw=>by
    obtain ⟨c,hcm,rfl⟩:=List.mem_map.1 hw
    rw [(hcw c hcm).1]),ab4 (fun w hw=>by
    obtain ⟨n,hn,rfl⟩:=List.mem_map.1 hw
    rw [(hsw n hn).1];rfl),if_neg (fun q=>q rfl),if_neg (fun q=>q rfl),oO,oO]
   have e1:cs.map ((fun w=>(iJ w).1) ∘ qA)=cs:=by
    refine Eq.trans (qK fun c hcm=>?_) (MQ cs)
    show (iJ (qA c)).1=c
    rw [(hcw c hcm).1]
   have e2:st.map ((fun w=>(((dV w).getD 0:Nat):Int)) ∘ Lib.itoa)=st:=by
    refine Eq.trans (qK fun n hn=>?_) (MQ st)
    show (((dV (Lib.itoa n)).getD 0:Nat):Int)=n
    rw [(hsw n hn).1]
    have:=hs n hn
    show ((n.toNat:Nat):Int)=n
    omega
   rw [e1,e2]
  unfold aG
  rw [hraw]
  dsimp only
  rw [if_neg (fun q=>q rfl),if_neg (fun q=>q h)]
 ·rw [CG]
  cases hw:wH cs st with
  | nil=>intro b hb;cases hb
  | cons y q =>
   rw [hw] at hmem
   intro b hb
   rcases List.mem_append.1 hb with k|k
   ·exact (hmem y (by simp)).2 b k
   ·obtain ⟨x,hx,hbx⟩:=List.mem_flatMap.1 k
    unfold sp at hbx
    rcases List.mem_cons.1 hbx with rfl|k
    ·decide
    ·exact (hmem x rU).2 b k
def ahY(s:Int):List UInt8:=if s=1 then [102,114,101,110,99,104]else if s=2 then [105,116,97,108,105,97,110]else if s=3 then [115,112,97,110,105,115,104]else [103,101,114,109,97,110]
def uO(s:Int):List UInt8:=[116,97,98,108,97,116,117,114,101,32]++ahY s
def lQ (s:Int)(p:aS):List (List UInt8):=p.evs.mapIdx fun i e=>colS s p i e
def vF (s:Int)(p:aS):List UInt8:=bF 10 (uO s::Ug p.cs p.st::lQ s p) []
theorem aeM {s:Int} (hs:1≤s∧s≤4):lX (uO s)=some s∧aQ 10 (uO s):=by
 have hb:∀ (k:Int),((uO k).all fun b=>b != 10)=true→aQ 10 (uO k):=fun k h b hb=>by
  have:=List.all_eq_true.1 h b hb
  exact ng
 rcases Ku hs with rfl|rfl|rfl|rfl
 ·exact⟨by decide,hb 1 (by decide)⟩
 ·exact⟨by decide,hb 2 (by decide)⟩
 ·exact⟨by decide,hb 3 (by decide)⟩
 ·exact⟨by decide,hb 4 (by decide)⟩
theorem ahV {l:List UInt8} {s:Int} (h:lX l=some s):l=uO s∧1≤s∧s≤4:=by
 unfold lX at h
 split at h
 ·rename_i h0
  have hl:=(MP 10 l).symm
  rw [h0]at hl
  split at h
  ·rename_i e
   cases h
   exact TK
  ·split at h
   ·rename_i e
    cases h
    exact TK
   ·split at h
    ·rename_i e
     cases h
     exact TK
    ·split at h
     ·rename_i e
      cases h
      exact TK
     ·cases h
 ·cases h
theorem V4 {cs:List Crs}:∀ {l:List N5},(∀ x∈l,fK cs x=0)→kF cs l=0
 | [],_=>rfl
 | x::r,h=>by
  unfold kF
  rw [if_neg (fun q=>q (h x (by simp))),V4 fun y hy=>h y BK]
theorem G7 {cs:List Crs}:∀ {l:List N5},kF cs l=0→∀ x∈l,fK cs x=0
 | [],_,x,hx=>by cases hx
 | y::r,h,x,hx=>by
  unfold kF at h
  by_cases e:fK cs y≠0
  ·rw [if_pos e]at h;exact absurd h e
  ·rw [if_neg e]at h
   rcases List.mem_cons.1 hx with rfl|hx
   ·exact Decidable.not_not.1 e
   ·exact G7 h x hx
theorem GZ {cs:List Crs} {x:N5} (h1:1≤x.1):fK cs x=0↔(x.1≤cs.length∧(x.2.1:Int)≤dJ cs x.1):=by
 unfold fK dJ
 rw [fO]
 constructor
 ·intro h
  split at h
  ·cases h
  ·split at h
   ·cases h
   ·omega
 ·intro h
  exact ame
section
variable {s:Int} {p:aS}
structure Jl(s:Int)(p:aS):Prop where
 e:aV p=0
 y:1≤s∧s≤4
 l:∀ i(h:i<p.evs.length),mG s p i p.evs[i]=[]
theorem Pz:∀ {l:List Stp} {m:Int},(∀ x∈l,m<x.1)→(l.Pairwise fun x y=>x.1<y.1)→EK m l
 | [],_,_,_=>trivial
 | x::r,m,h1,h2=>⟨h1 x (by simp),Pz (List.pairwise_cons.1 h2).1 (List.pairwise_cons.1 h2).2⟩
theorem sW (h:Jl s p) {i:Nat} (hi:i<p.evs.length):(∀ x∈p.evs[i].stops,NwS s (fun c=>ah p.evs i c) x∧1≤x.1∧x.1≤p.cs.length∧x.2.1≤dJ p.cs x.1)∧EK 0 p.evs[i].stops:=by
 obtain⟨q1,q2,q3,q4,q5⟩:=ji h.e hi
 have hin:=lG h.e i hi
 have hk:=atU (h.l i hi)
 refine⟨fun x hx=>?_,Pz (fun x hx=>by have:=(q4 x hx).aT;omega) q5⟩
 obtain⟨j,hj,rfl⟩:=eu hx
 have hb:=hin j hj
 have hq:=q4 _ hx
 exact⟨⟨hb.1,hb.2.1,hb.2.2.1,hb.2.2.2.1,⟨hq.hold.1,hq.hold.2⟩,uK _ _ _,hq.h0,hk _ hx⟩,hq.aT.1,hq.aT.2,hq.ar8.2⟩
theorem an2 {s:Int} {e:Ev} (h:∀ x∈e.stops,1≤x.1):jZ (gI (nC s e))=jZ e:=by
 unfold jZ gI dN nC jU
 refine Prod.ext ?_ ?_
 ·show (List.map _ (List.map _ (List.map _ _)))=_
  rw [oO,oO]
  refine qK fun x hx=>?_
  have:=h x hx
  show ((x.1.toNat:Nat):Int)=x.1
  omega
 ·show ((List.map _ (List.map _ _)).length == 0 && !e.tie)=_
  exact aaO
theorem ab6 (h:Jl s p)(i c:Int):ah ((p.evs.map (nC s)).map gI) i c=ah p.evs i c:=by
 refine Cj ?_ i c
 rw [oO,oO]
 refine qK fun e he=>?_
 obtain⟨k,hk,rfl⟩:=eu he
 exact an2 fun x hx=>((sW h hk).1 x hx).2.1
theorem aeF {s:Int} {h:Int} {lg:Nat} (hs:1≤s∧s≤4)(hb:0≤h∧h≤lg)(ok:qN s h lg=true):uq s lg (zl s h)=h:=by
 unfold uq zl
 by_cases h0:h=0
 ·rw [if_pos h0,if_pos rfl,h0]
 rw [if_neg h0]
 by_cases s1:s=1
 ·rw [if_pos s1,if_neg (by omega),if_pos s1];omega
 ·rw [if_neg s1,if_neg (by omega),if_neg s1]
  unfold qN rH at ok
  rw [if_neg s1]at ok
  by_cases q:(s=2∨s=4)∧h=lg
  ·exact q.2.symm
  ·rw [if_neg q]at ok
   simp at ok
   exact absurd ok h0
theorem awh (h:Jl s p) {i:Nat} (hi:i < p.evs.length):dN (nC s p.evs[i]) (dQ s (p.evs.map (nC s)) i)=p.evs[i]:=by
 obtain ⟨q1,_,_,_,_⟩:=ji h.e hi
 obtain ⟨hst,_⟩:=sW h hi
 have hL:=fun c=>ab6 h i c
 obtain ⟨E,hE⟩:∃ z,p.evs.map (nC s)=z:=⟨_,rfl⟩
 rw [hE] at hL ⊢
 obtain ⟨e,he⟩:∃ z,p.evs[i]=z:=⟨_,rfl⟩
 rw [he] at q1 hst ⊢
 obtain ⟨bar,v,d,t,tie,l⟩:=e
 have hv:0≤v∧(IE (sH d t)=d∧EH (sH d t)=t):=by
  unfold gZ at q1
  dsimp only at q1
  refine ⟨by simp only [qI,aW,qH,gu] at q1;omega,?_⟩
  cases d<;>cases t<;>first|exact ⟨rfl,rfl⟩|(simp at q1)
 unfold dN nC
 dsimp only at hst ⊢
 rw [hv.2.1,hv.2.2,oO]
 have e1:((v.toNat:Nat):Int)=v:=by omega
 have e2:l.map ((fun n:N5=>((n.1:Int),(n.2.1:Int),(n.2.2.1:Int),(n.2.2.2.1:Int),dQ s E i n)) ∘ DV s)=l:=by
  refine Eq.trans (qK fun x hx=>?_) (MQ l)
  obtain ⟨hx1,_⟩:=hst x hx
  have hk:=hx1.k
  unfold stK dK at hk
  simp only [aW] at hk
  have hbv:=aeF h.y hx1.h hk.2
  obtain ⟨c1,c2,c3,c4,c5,c6,c7,c8⟩:=hx1
  obtain ⟨c,f,r,g,k⟩:=x
  dsimp only at c1 c2 c3 c4 hbv
  have hh:dQ s E i (DV s (c,f,r,g,k))=k:=by
   refine Eq.trans ?_ hbv
   show (if zl s k=0 then 0 else if s=1 then ((zl s k:Nat):Int) else ((ah (E.map gI) i ((c.toNat:Nat):Int):Nat):Int))=_
   rw [hL,show ((c.toNat:Nat):Int)=c by omega]
   rfl
  show (((c.toNat:Nat):Int),((f.toNat:Nat):Int),((r.toNat:Nat):Int),((g.toNat:Nat):Int),dQ s E i (DV s (c,f,r,g,k)))=(c,f,r,g,k)
  rw [hh,show ((c.toNat:Nat):Int)=c by omega,show ((f.toNat:Nat):Int)=f by omega,show ((r.toNat:Nat):Int)=r by omega,show ((g.toNat:Nat):Int)=g by omega]
 rw [e1,e2]
theorem ahU (h:Jl s p) {i:Nat} (hi:i<p.evs.length):∀ y∈(nC s p.evs[i]).l,rC s (p.evs.map (nC s)) i y=false:=by
 intro y hy
 obtain⟨x,hx,rfl⟩:=List.mem_map.1 hy
 obtain⟨hx1,h1,_⟩:=(sW h hi).1 x hx
 have hL:=ab6 h i x.1
 have hk:=hx1.k
 unfold stK dK at hk
 simp only [aW] at hk
 obtain⟨b1,b2,b3,b4⟩:=ab1 h.y hx1.h (by have:=hx1.l;omega) hk.2
 unfold rC yj
 show (decide (zl s x.2.2.2.2≠0) && (decide (((ah ((p.evs.map (nC s)).map gI) i ((x.1.toNat:Nat):Int):Nat):Int)=0)|| (decide (s=1) && decide (((ah ((p.evs.map (nC s)).map gI) i ((x.1.toNat:Nat):Int):Nat):Int)<((zl s x.2.2.2.2:Nat):Int)))))=false
 rw [show ((x.1.toNat:Nat):Int)=x.1 by omega,hL]
 have hh:=hx1.h
 by_cases h0:zl s x.2.2.2.2=0
 ·rw [cZ (by simpa using h0)];rfl
 ·have:0<x.2.2.2.2:=b4.1 au
  rw [cZ (show ¬ ((ah p.evs i x.1:Nat):Int)=0 by omega)]
  by_cases s1:s=1
  ·have e:zl s x.2.2.2.2=x.2.2.2.2.toNat:=by unfold zl;rw [if_neg (by omega),if_pos s1]
   rw [e,cZ (show ¬ ((ah p.evs i x.1:Nat):Int)<((x.2.2.2.2.toNat:Nat):Int) by omega)]
   simp
  ·rw [cZ s1];simp
theorem lC(s:Int)(p:aS):(lQ s p).length=p.evs.length:=yC
theorem pV {i:Nat} (h:i<(lQ s p).length):(lQ s p)[i]=colS s p i (p.evs[i]'(by rw [← lC s p];exact h)):=by
 rw [TD (show lQ s p=p.evs.mapIdx fun i e=>colS s p i e from rfl) h,jh]
theorem zk (h:Jl s p) {i:Nat} (hi:i<p.evs.length):jk s (aJ s p.cs) (colS s p i p.evs[i])=some (nC s p.evs[i])∧aQ 10 (colS s p i p.evs[i]):=by
 obtain ⟨q1,_,q3,_,_⟩:=ji h.e hi
 obtain ⟨hst,ha⟩:=sW h hi
 exact an3 h.y q1 (fun ht=>(q3 ht).1) (h.l i hi) (fun x hx=>(hst x hx).1) ha fun x hx=>(hst x hx).2.2.1
theorem Ze (h:Jl s p) {i:Nat} (hi:i<p.evs.length):iU s p.cs i (colS s p i p.evs[i])=0:=by
 obtain ⟨q1,q2,q3,_,_⟩:=ji h.e hi
 obtain ⟨hst,ha⟩:=sW h hi
 unfold iU
 rw [(zk h hi).1]
 dsimp only
 unfold oh
 have hv:0≤p.evs[i].val:=by
  unfold gZ at q1
  simp only [qI,aW,qH,gu]at q1;omega
 rw [if_neg (fun q=>q2 (by
  have a1:i=0:=by simpa using q.1
  have a2:p.evs[i].val.toNat=0:=q.2
  exact ⟨by omega,by omega⟩)),if_neg (fun q=>by
  rw [aW]at q
  have a1:i=0:=by simpa using q.1
  have:=(q3 q.2).2
  omega)]
 refine V4 fun y hy=>?_
 obtain ⟨x,hx,rfl⟩:=List.mem_map.1 hy
 obtain ⟨hx1,h1,h2,h3⟩:=hst x hx
 have hf:=hx1.f
 refine (GZ (show 1≤x.1.toNat by omega)).2 ⟨show x.1.toNat≤p.cs.length by omega,?_⟩
 show ((x.2.1.toNat:Nat):Int)≤dJ p.cs ((x.1.toNat:Nat):Int)
 rw [show ((x.1.toNat:Nat):Int)=x.1 by omega]
 omega
theorem I8 (h:Jl s p):dD (vF s p)=(s,p,0,0):=by
 obtain ⟨h1,h2,h3⟩:=dY h.e
 obtain ⟨i1,i2⟩:=ate h1
 obtain ⟨y1,y2⟩:=aeM h.y
 have ayS:eY 10 (vF s p)=(uO s::Ug p.cs p.st::lQ s p,[]):=by
  refine zu (fun l hl=>?_) (fun b hb=>by cases hb)
  rcases List.mem_cons.1 hl with rfl|hl
  ·exact y2
  ·rcases List.mem_cons.1 hl with rfl|hl
   ·exact i2
   ·obtain ⟨i,hi,rfl⟩:=eu hl
    rw [pV hi]
    exact (zk h _).2
 unfold dD
 rw [ayS]
 show (match lX (uO s)with|none=>jv 1 4|some s'=>xK s' [] (Ug p.cs p.st::lQ s p))=_
 rw [y1]
 show xK s [] (Ug p.cs p.st::lQ s p)=_
 unfold xK
 dsimp only
 rw [i1]
 dsimp only
 rw [if_neg (fun q=>q rfl),if_neg (by rw [lC,if_pos rfl];omega)]
 unfold pR
 rw [uN fun i hi=>by
  rw [lW,pV hi]
  exact Ze h _]
 dsimp only
 rw [if_neg (fun q=>q rfl)]
 have hE:(lQ s p).map (bV s p.cs)=p.evs.map (nC s):=by
  apply fZ
  ·rw [aH,aH,lC]
  ·intro i a1 a2
   rw [iZ,iZ,pV]
   unfold bV
   rw [(zk h _).1];rfl
 rw [hE]
 have hB:qZ s (p.evs.map (nC s))=none:=by
  unfold qZ
  rw [yx]
  intro i hi
  rw [aH]at hi
  have hil:=List.mem_range.1 hi
  rw [bT,aI hil]
  show ¬ (nC s p.evs[i]).l.any _=true
  rw [Bool.not_eq_true,Ep]
  intro y hy
  rw [ahU h hil y hy];decide
 rw [hB]
 dsimp only
 have hF:pU s (p.evs.map (nC s))=p.evs:=by
  unfold pU
  apply fZ
  ·rw [yC,aH]
  ·intro i a1 a2
   rw [jh,iZ]
   exact awh h a2
 rw [hF]
end
theorem GH {s:Int} {cs:List Crs}:∀ {L:List (List UInt8)} {k:Nat},pK s cs k L=none→∀ i (h:i<L.length),iU s cs (k+i) L[i]=0
 | t::r,k,h,i,hi=>by
  unfold pK at h
  by_cases e:iU s cs k t≠0
  ·rw [if_pos e] at h;cases h
  ·rw [if_neg e] at h
   cases i with
   | zero=>exact Decidable.not_not.1 e
   | succ i =>
    have:=GH h i Qu
    rw [Ie,show k+(i+1)=k+1+i by omega]
    exact this
theorem O8 {s:Int} {cs:List Crs}:∀ {L:List (List UInt8)} {k:Nat} {x:Nat×Int},pK s cs k L=some x→x.2≠0
 | t::r,k,x,h=>by
  unfold pK at h
  by_cases e:iU s cs k t≠0
  ·rw [if_pos e]at h;cases h;exact e
  ·rw [if_neg e]at h;exact O8 h
structure NwR (t:List UInt8)(s:Int)(l1:List UInt8)(F:List (List UInt8)):Prop where
 spl:eY 10 t=(uO s::l1::F,[])
 y:1≤s∧s≤4
 ins:(aG l1).2=0
 len:F.length≤400
 bad:∀ i (h:i<F.length),iU s (aG l1).1.1 i F[i]=0
 hb:qZ s (F.map (bV s (aG l1).1.1))=none
 eq:dD t=(s,⟨(aG l1).1.1,(aG l1).1.2,pU s (F.map (bV s (aG l1).1.1))⟩,0,0)
theorem Zl {t:List UInt8} (h:(dD t).2.2.2=0):∃ s l1 F,NwR t s l1 F:=by
 have e0:dD t=sU (eY 10 t).2 (eY 10 t).1:=rfl
 obtain⟨⟨F0,tl⟩,hF⟩:∃ z,eY 10 t=z:=⟨_,rfl⟩
 rw [e0,hF]at h
 rw [hF]at e0
 dsimp only at h e0
 cases F0 with
 | nil=>exact absurd h ac0
 | cons l0 F1 =>
  unfold sU at h e0
  dsimp only at h e0
  cases hs:lX l0 with
  | none=>rw [hs]at h;exact absurd h ac0
  | some s =>
   rw [hs]at h e0
   dsimp only at h e0
   cases F1 with
   | nil=>exact absurd h ac0
   | cons l1 F =>
    unfold xK at h e0
    dsimp only at h e0
    by_cases hi:(aG l1).2≠0
    ·rw [if_pos hi]at h
     exact absurd h hi
    rw [if_neg hi]at h e0
    by_cases hm:400<F.length+(if tl=[]then 0 else 1)
    ·rw [if_pos hm]at h
     exact absurd h (by show ¬ (2:Int)=0;decide)
    rw [if_neg hm]at h e0
    unfold pR at h e0
    cases hb:pK s (aG l1).1.1 0 F with
    | some x =>
     rw [hb]at h
     exact absurd h (O8 hb)
    | none =>
     rw [hb]at h e0
     dsimp only at h e0
     by_cases ht:tl≠[]
     ·rw [if_pos ht]at h
      exact absurd h ac0
     rw [if_neg ht]at h e0
     have ht2:tl=[]:=Decidable.not_not.1 ht
     cases hh:qZ s (F.map (bV s (aG l1).1.1))with
     | some i =>
      rw [hh]at h
      exact absurd h (by show ¬ (24:Int)=0;decide)
     | none =>
      rw [hh]at e0
      obtain⟨q1,q2⟩:=ahV hs
      subst q1
      subst ht2
      refine⟨s,l1,F,hF,q2,Decidable.not_not.1 hi,by simpa using hm,fun i hi=>?_,hh,e0⟩
      have:=GH hb i hi
      rw [lW]at this
      exact this
theorem aeI {s:Int} {cs:List Crs} {k:Nat} {t:List UInt8} (h:iU s cs k t=0):jk s (aJ s cs) t=some (bV s cs t)∧¬ (k=0∧(bV s cs t).v=0)∧¬ (k=0∧(bV s cs t).tie=true)∧∀ y∈(bV s cs t).l,fK cs y=0:=by
 unfold iU at h
 unfold bV
 cases hf:jk s (aJ s cs) t with
 | none=>rw [hf] at h;cases h
 | some x =>
  rw [hf] at h
  dsimp only at h
  unfold oh at h
  refine ⟨rfl,?_⟩
  show ¬ (k=0∧x.v=0)∧¬ (k=0∧x.tie=true)∧∀ y∈x.l,fK cs y=0
  by_cases h1:(k == 0)=true∧x.v=0
  ·rw [if_pos h1] at h;cases h
  ·rw [if_neg h1] at h
   by_cases h2:((k == 0) && x.tie)=true
   ·rw [if_pos h2] at h;cases h
   ·rw [if_neg h2] at h
    refine ⟨fun q=>h1 ⟨by simpa using q.1,q.2⟩,fun q=>h2 (by rw [q.1,q.2];rfl),G7 h⟩
theorem Zh {l:List UInt8} (h:(aG l).2=0):fU (aG l).1.1 (aG l).1.2=0:=by
 exact arl
theorem OH {p:aS}:∀ {l:List Ev} {k:Nat},(∀ i (h:i<l.length),AY p ((k+i:Nat):Int) l[i]=0)→yL p k l=0
 | [],_,_=>rfl
 | e::r,k,h=>by
  have h0:=h 0 (by simp)
  simp only [zJ,zM] at h0
  unfold yL
  rw [if_neg (by rw [h0];decide)]
  exact OH fun i hi=>by
   have:=h (i+1) Qu
   rw [Ie] at this
   rw [← this];congr 2;omega
theorem Zj {p:aS} (h1:fU p.cs p.st=0)(h2:p.evs.length≤400)(h3:∀ i (h:i<p.evs.length),AY p i p.evs[i]=0):aV p=0:=by
 unfold aV
 rw [if_neg (by rw [h1];decide),if_neg (by omega)]
 exact OH fun i hi=>by rw [lW];exact h3 i hi
theorem Hz {p:aS} {i:Int}:∀ {l:List Stp} {last:Int},(l.Pairwise fun x y=>x.1<y.1)→(∀ x∈l,last<x.1)→(∀ x∈l,∀ la,la<x.1→gQ p i x la=0)→gK p i last l=0
 | [],_,_,_,_=>rfl
 | x::r,last,h1,h2,h3=>by
  unfold gK
  rw [if_neg (by rw [h3 x (by simp) last (h2 x (by simp))];decide)]
  exact Hz (List.pairwise_cons.1 h1).2 (List.pairwise_cons.1 h1).1 fun y hy=>h3 y BK
section
variable {t:List UInt8} {s:Int} {l1:List UInt8} {F:List (List UInt8)}
noncomputable def kU (s:Int)(l1:List UInt8)(F:List (List UInt8)):aS:=⟨(aG l1).1.1,(aG l1).1.2,pU s (F.map (bV s (aG l1).1.1))⟩
theorem Y0(s:Int)(E:List NC):(pU s E).length=E.length:=yC
theorem VY (s:Int)(E:List NC)(i c:Int):ah (pU s E) i c=ah (E.map gI) i c:=by
 refine Cj ?_ i c
 unfold pU
 apply fZ
 ·simp
 ·intro k a1 a2
  have hk:k < E.length:=by simpa using a2
  simp only [iZ,jh]
  unfold jZ gI dN jU
  refine Prod.ext ?_ ?_
  ·show List.map _ (List.map _ _)=List.map _ (List.map _ _)
   rw [oO,oO];rfl
  ·show ((List.map _ E[k].l).length == 0 && !E[k].tie)=((List.map _ E[k].l).length == 0 && !E[k].tie)
   exact aaO
theorem ahN (h:NwR t s l1 F):(kU s l1 F).evs.length=F.length:=by
 show (pU s (F.map (bV s (aG l1).1.1))).length=_
 rw [Y0,aH]
theorem DW (h:NwR t s l1 F) {i:Nat} (hi:i < (kU s l1 F).evs.length) (hF:i < F.length) :
  colS s (kU s l1 F) i (kU s l1 F).evs[i]=F[i]∧mG s (kU s l1 F) i (kU s l1 F).evs[i]=[]∧AY (kU s l1 F) i (kU s l1 F).evs[i]=0∧(kU s l1 F).evs[i].stops.length≤20:=by
 obtain ⟨e1,e2,e3,e4⟩:=aeI (h.bad i hF)
 have hbn:=h.hb
 unfold qZ at hbn
 rw [yx] at hbn
 have hb:=hbn i (List.mem_range.2 (by rw [aH];exact hF))
 rw [bT,aI hF] at hb
 have hb2:∀ y∈(bV s (aG l1).1.1 F[i]).l,rC s (F.map (bV s (aG l1).1.1)) i y=false:=by
  rw [Bool.not_eq_true] at hb
  intro y hy
  have:=List.any_eq_false.1 (show ((bV s (aG l1).1.1 F[i]).l.any (rC s (F.map (bV s (aG l1).1.1)) i))=false from hb) y hy
  exact ng
 have hlong:∀ c,ah (kU s l1 F).evs i c=ah ((F.map (bV s (aG l1).1.1)).map gI) i c:=fun c=>VY _ _ _ _
 have hev:(kU s l1 F).evs[i]=dN (bV s (aG l1).1.1 F[i]) fun y=>uq s (ah (kU s l1 F).evs i y.1) y.2.2.2.2:=by
  have:(kU s l1 F).evs[i]=dN (bV s (aG l1).1.1 F[i]) (dQ s (F.map (bV s (aG l1).1.1)) i):=by
   rw [TD (show (kU s l1 F).evs=(F.map (bV s (aG l1).1.1)).mapIdx fun i x=>dN x (dQ s (F.map (bV s (aG l1).1.1)) i) from rfl) hi,jh,iZ]
  rw [this]
  congr 1
  funext y
  rw [hlong];rfl
 have hH:∀ y∈(bV s (aG l1).1.1 F[i]).l,NwH s (fun c=>ah (kU s l1 F).evs i c) y:=fun y hy=>by
  have:=hb2 y hy
  unfold rC yj at this
  rw [← hlong] at this
  refine ⟨fun h0=>?_,fun h1=>?_⟩
  ·intro hz
   rw [dG h0,dG (show ((ah (kU s l1 F).evs i y.1:Nat):Int)=0 by rw [show ah (kU s l1 F).evs i y.1=0 from hz];rfl)] at this
   simp at this
  ·by_cases h0:y.2.2.2.2=0
   ·rw [h0];exact gU _
   ·rcases wW (ah (kU s l1 F).evs i y.1) y.2.2.2.2 with q|q
    ·rw [dG h0,dG h1,dG (show ((ah (kU s l1 F).evs i y.1:Nat):Int) < ((y.2.2.2.2:Nat):Int) by omega)] at this
     simp at this
    ·exact q
 obtain ⟨c1,c2,c3⟩:=an4 (p:=kU s l1 F) (i:=(i:Int)) h.y e1 hH
 rw [← hev] at c1 c2
 refine ⟨c1,c2,?_,?_⟩
 ·-- the event is valid
  have hstops:(kU s l1 F).evs[i].stops=(bV s (aG l1).1.1 F[i]).l.map (jF s fun c=>ah (kU s l1 F).evs i c):=by rw [hev];rfl
  have hval:(kU s l1 F).evs[i].val=((bV s (aG l1).1.1 F[i]).v:Int):=by rw [hev];rfl
  have htie:(kU s l1 F).evs[i].tie=(bV s (aG l1).1.1 F[i]).tie:=by rw [hev];rfl
  have hsg:gZ (kU s l1 F).evs[i].val (kU s l1 F).evs[i].dot (kU s l1 F).evs[i].three=true:=by rw [hev];exact c3.sg
  unfold AY
  rw [hstops,htie,hval] at *
  rw [if_neg (fun q=>by
   rcases q with q|q
   ·have:=hsg
    rw [q] at this;cases this
   ·exact e2 ⟨by omega,by omega⟩),if_neg (fun q=>by
   have hnil:=c3.tie q.1
   rcases q.2 with k|k
   ·rw [hnil] at k;simp at k
   ·exact e3 ⟨by omega,q.1⟩)]
  refine Hz ?_ ?_ ?_
  ·rw [List.pairwise_map]
   refine List.Pairwise.imp (fun {a b} hab=>?_) c3.EK
   show ((a.1:Nat):Int) < ((b.1:Nat):Int)
   omega
  ·intro x hx
   obtain ⟨y,hy,rfl⟩:=List.mem_map.1 hx
   have:=(c3.st y hy).c
   show 0 < (y.1:Int)
   have h2:(1:Int)≤(y.1:Int):=this.1
   omega
  ·intro x hx la hla
   obtain ⟨y,hy,rfl⟩:=List.mem_map.1 hx
   obtain ⟨d1,d2,d3,d4,d5,d6,d7,d8⟩:=c3.st y hy
   have h1:1≤y.1:=by have h2:(1:Int)≤(y.1:Int):=d1.1;omega
   obtain ⟨f1,f2⟩:=(GZ h1).1 (e4 y hy)
   have a1:(jF s (fun c=>ah (kU s l1 F).evs i c) y).1=(y.1:Int):=rfl
   have a2:(jF s (fun c=>ah (kU s l1 F).evs i c) y).2.1=(y.2.1:Int):=rfl
   have a3:(kU s l1 F).cs=(aG l1).1.1:=rfl
   refine zF ?_ ?_ ?_ ?_ ?_
   ·rw [a1,a3];omega
   ·rw [a1,a2,a3];omega
   ·omega
   ·omega
   ·intro q
    rcases q with q|q
    ·rcases q with q|q
     ·omega
     ·omega
    ·exact d7 q.1 q.2
 ·rw [hev]
  show ((bV s (aG l1).1.1 F[i]).l.map _).length≤20
  rw [aH]
  rcases Cc (a:=0) c3.EK (fun x hx=>by
   have h2:=(c3.st x hx).c
   have h3:(1:Int)≤(x.1:Int)∧(x.1:Int)≤14:=h2
   omega) with q|q
  ·omega
  ·rw [q];simp
theorem Zq (h:NwR t s l1 F):Jl s (kU s l1 F)∧jm (kU s l1 F)∧vF s (kU s l1 F)=bF 10 (uO s::Ug (kU s l1 F).cs (kU s l1 F).st::F) []:=by
 have hl:=ahN h
 have hI:=Zh h.ins
 obtain⟨i1,i2,i3,_,_⟩:=mF hI
 have hcols:lQ s (kU s l1 F)=F:=by
  apply fZ
  ·rw [lC,hl]
  ·intro i a1 a2
   rw [pV a1]
   exact (DW h _ a2).1
 refine⟨⟨Zj hI (by have:=h.len;omega) fun i hi=>(DW h hi au).2.2.1,h.y,fun i hi=>(DW h hi au).2.1⟩,⟨?_,?_,?_,fun k hk=>(DW h hk au).2.2.2⟩,?_⟩
 ·show (aG l1).1.1.length≤64;omega
 ·show (aG l1).1.2.length≤64;omega
 ·have:=h.len;omega
 ·unfold vF;rw [hcols]
end
theorem ar0(l:List sJ):∀ r∈l.map iR,∀ av∈r,∃ z,av=.sc z:=fun r hr av hav=>by
 obtain⟨x,_,rfl⟩:=List.mem_map.1 hr
 simp only [iR,Et,BF,or_false]at hav
 rcases hav with rfl|rfl|rfl<;>exact⟨_,rfl⟩
theorem Vp (s:Int) {p:aS} (hO:jm p):(iT s p).length≤27000:=by
 exact ak2
theorem aoa (s:Int) (p:aS) (hO:jm p):jI jE 0 Tryz.prog 59 [.sc (.int .u8 s),bK p] [] 0 (.tu [.sl 0,.sc (.int .i64 (qR s p))]) [(0,.row 122 3 ((iT s p).map iR))] 1:=by
 have hn3:=hO.n3
 have hCh:=nD p hO
 have hPk:=fun (hs:1≤s∧s≤4) (h0:aV p=0) k (hk2:k < p.evs.length)=>WC s hs p k hk2 hO (lG h0 k hk2)
 have hP:bK p=.ag [.ls 3 (p.cs.map aF),.ls 1 (p.st.map eInt),.ls 6 (p.evs.map dI)]:=rfl
 refine jI.intro kV Tryz.func59 rfl Tryz.ntmps59 (bU rfl) rfl fun w0 F0 fp pg hB=>?_
 refine gB ?_
 refine vO ?_
 refine WL.vl rfl (WV.call rfl (ak Tryz.func50 rfl rfl) rfl rfl (G9 s)) ?_
 refine vO ?_
 (refine W.cond rfl (fun hif=>?_) (fun hif=>?_)<;>(try simp only [gu,jS,kQ,kR,iy,kS] at hif))
 ·have hs:¬ (1≤s∧s≤4):=by simpa using hif
  rw [(Ai hs).1,(Ai hs).2]
  refine vO ?_
  refine W.tr (Tr.nil (t:=4) 122 3 rfl rfl) ?_
  refine W.tr (σ':=⟨[(4,.sl 0),(5,.sc (.int .i64 30))],[(0,.row 122 3 [])],1⟩) (kL (fun q=>bif Nat.beq q 0 then 1 else q) qc rfl) ?_
  exact jX
 have hs:1≤s∧s≤4:=by simpa using hif
 refine vO ?_
 refine WL.vl rfl (bZ Tryz.func51 hCh) ?_
 refine vO ?_
 (refine W.cond rfl (fun hif=>?_) (fun hif=>?_)<;>(try simp only [gu,jS,kQ,kR,iy,kS] at hif))
 ·have h0:aV p≠0:=by simpa using hif
  rw [(uJ hs h0).1,(uJ hs h0).2]
  refine vO ?_
  refine W.tr (Tr.nil (t:=4) 122 3 rfl rfl) ?_
  refine W.tr (σ':=⟨[(4,.sl 0),(5,.sc (.int .i64 (aV p)))],[(0,.row 122 3 [])],1⟩) (kL (fun q=>bif Nat.beq q 0 then 1 else q) qc rfl) ?_
  exact jX
 have h0:aV p=0:=by simpa using hif
 have hPk:=hPk hs h0
 rw [(pI hs h0).1,(pI hs h0).2]
 refine vO ?_
 refine W.tr (Tr.nil (t:=9) 122 3 rfl rfl) ?_
 refine W.loop (fun k:Nat=>k≤p.evs.length) (fun k=>⟨[(3,.pt 0 0 0),(6,.sc (bG s)),(9,.sl 1),(25,.sc (.int .i64 p.evs.length)),(26,.sc (.int .i64 k))],[(0,.box 30 (bK p).cells),(1,.row 122 3 ((kY s p k).map iR))],2⟩) (fun k=>p.evs.length - k) 0 au (zqt id) fun k hk=>?_
 refine vO ?_
 (refine W.cond rfl (fun hif=>?_) (fun hif=>?_)<;>(try simp only [gu,jS,kQ,kR,iy,kS] at hif))
 ·have hk2:k < p.evs.length:=by omega
  have hl1:=Fg s hO k hk
  have hl2:=Fb s p k p.evs[k] (hO.n4 k hk2)
  have hrow:(kY s p k).map iR++(mG s p k p.evs[k]).map iR=(kY s p (k+1)).map iR:=by rw [nX s p hk2,fC]
  refine vO ?_
  refine WL.vl rfl (WV.call rfl (ak Tryz.func114 rfl rfl) rfl rfl (hPk k hk2)) ?_
  refine vO ?_
  exact ⟨k+1,by omega,by omega,(kL (fun q=>bif Nat.beq q 1 then 2 else q) aaz rfl)⟩
 ·have he:k=p.evs.length:=by omega
  subst he
  refine vO ?_
  refine W.tr (σ':=⟨[(4,.sl 0),(5,.sc (.int .i64 0))],[(0,.row 122 3 ((kY s p p.evs.length).map iR))],1⟩) (kL (fun q=>bif Nat.beq q 0 then 1 else q) qc rfl) ?_
  exact jX
theorem awz (s:Int) (p:aS) (hO:jm p):(iT s p).length≤30000∧jI jE 0 Tryz.prog 122 [bK p,.pr [.sc (.int .u8 s)]] [] 0 (.sl 0) [(0,.row 122 3 ((iT s p).map iR))] 1:=by
 have hL:=aoa s p hO
 refine ⟨by have:=Vp s hO;omega,?_⟩
 have hP:bK p=.ag [.ls 3 (p.cs.map aF),.ls 1 (p.st.map eInt),.ls 6 (p.evs.map dI)]:=rfl
 rw [hP] at hL ⊢
 refine jI.intro kV Tryz.func122 rfl Tryz.ntmps122 (bU rfl) rfl fun w0 F0 fp pg hB=>?_
 refine gB ?_
 refine nK ?_
 refine WL.qo (dL _) [] rfl rfl (ak Tryz.func59 rfl rfl) hL rfl rfl rfl trivial rfl rfl rfl rfl ?_
 refine nK ?_
 refine W.tr (σ':=⟨[(3,.sl 0)],[(0,.row 122 3 ((iT s p).map iR))],1⟩) (kL (fun q=>bif Nat.beq q 0 then 1 else q) qc rfl) ?_
 exact jX
theorem adu (y:Stp) (x:sJ):aU Tryz.prog 187 [.ag (aC y),.pr (iR x)] (.sc (.bool (y.1 == x.2.1))):=by
 refine jl Tryz.func187 Tryz.ntmps187 fun w0 F0=>?_;dsimp only [St.init,number,Nat.reduceAdd]
 exact aaF
theorem anC (l:List Stp) (x:sJ) (hl:l.length≤100000):aU Tryz.prog 186 [.ls 5 (l.map aC),.fn 187 [.pr (iR x)]] (.sc (.int .i64 (YR (fun z:Stp=>z.1 == x.2.1) l))):=by
 refine jl Tryz.func186 Tryz.ntmps186 fun w0 F0=>?_;dsimp only [St.init,number,Nat.reduceAdd]
 refine aju ?_
 refine W.loop (fun k:Nat=>k≤l.length∧∀ i (hi:i < k) (h:i < l.length),(l[i].1 == x.2.1)=false) (fun k=>⟨[(0,.ls 5 (l.map aC)),(1,.fn 187 [.pr (iR x)]),(7,.sc (.int .i64 l.length)),(8,.sc (.int .i64 k))],[],0⟩) (fun k=>l.length - k) 0 ⟨by omega,fun i hi=>by omega⟩ (zqt id) fun k hk=>?_
 obtain ⟨hk,hno⟩:=hk
 by_cases hlt:k < l.length
 ·refine fQ ?_
  refine WL.vl rfl (WV.yU (dL _) rfl (ak Tryz.func187 rfl rfl) rfl rfl rfl rfl rfl (adu l[k] x).g) ?_
  cases he:l[k].1 == x.2.1 with
  | true =>
   rw [JK (t:=fun z:Stp=>z.1 == x.2.1) hlt he fun i hi=>hno i hi (by omega)]
   exact NH
  | false =>
   exact al7
 ·rw [YS (t:=fun z:Stp=>z.1 == x.2.1) fun i hi=>hno i (by omega) hi]
  exact NH
end
end Go.Proofs.YthehkchjdkdbiaaGreatDoor
