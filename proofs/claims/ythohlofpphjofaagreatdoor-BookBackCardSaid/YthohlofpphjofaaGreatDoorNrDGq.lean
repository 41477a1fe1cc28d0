/- The reader of the program: fail, next, check. -/
import Derived.Test.YthohlofpphjofaaGreatDoorNr3Gq
import Derived.Test.YthohlofpphjofaaGreatDoorG8Gq
import Derived.Test.YthohlofpphjofaaGreatDoorNrAGq
import Derived.Test.YthohlofpphjofaaGreatDoorGZGq
set_option maxHeartbeats 4000000
set_option maxRecDepth 100000
set_option linter.unusedVariables false
set_option linter.unusedSimpArgs false
namespace Go.Proofs.YthohlofpphjofaaGreatDoor
theorem aeM {p:Prop}(h:p:=by
 rw [e,if_neg (by decide)]
 refine Ql ?_
 refine iT ?_
 refine aii ?_
 refine Ql ?_
 exact FV):p:=h
theorem ad6 {p:Prop}(h:p:=by
 rw [e,if_pos rfl]
 refine amS ?_
 exact W.ret (finM rfl rfl rfl rfl rfl)):p:=h
theorem FV {p:Prop}(h:p:=by
 refine WL.ctp (truH _) [0,1,2] rfl rfl (callF Tryz.func40 rfl rfl) (aas _ _ _ _ _ _ _ _) rfl rfl rfl ⟨⟨rfl,rfl,rfl⟩,trivial⟩ ?_
 rfl):p:=h
theorem aiG {p q:Prop}(k:q)(h:aS q→p:=by
 intro hq
 refine ac1 ?_
 refine iT ?_
 refine amT ?_
 refine DK.idx rfl rfl aj hat ?_
 refine amT ?_
 refine ac1 ?_
 exact hq.k):p:=h ⟨k⟩
theorem amS {p q:Prop}(k:q)(h:aS q→p:=by
 intro hq
 refine Ql ?_
 refine iT ?_
 refine aii ?_
 refine Ql ?_
 refine iT ?_
 refine aij ?_
 refine DK.idx rfl rfl aj hat ?_
 refine aij ?_
 refine Ql ?_
 exact hq.k):p:=h ⟨k⟩
theorem amT {p q:Prop}(k:q)(h:aS q→p:=by
 intro hq
 repeat (first|refine DK.bt rfl rfl (by omega) ?_|refine DK.bf rfl rfl (by omega) ?_|refine DK.tt rfl FH ?_|refine DK.ff rfl FH ?_|refine DK.st rfl ?_|refine DK.ar rfl rfl sV ?_|refine DK.nil ?_)
 exact hq.k):p:=h ⟨k⟩
section
open Go.RowKit
def wV(s h:Int):Nat:=if h=0 then 0 else if s=1 then h.toNat else 15
def oL(s:Int)(lg h:Nat):Int:=if h=0 then 0 else if s=1 then(h:Int)else(lg:Int)
def yh(s:Int)(x:Stp):N5:=(x.1.toNat,x.2.1.toNat,x.2.2.1.toNat,x.2.2.2.1.toNat,wV s x.2.2.2.2)
theorem DJ {s:Int} (hs:1≤s∧s≤4):s=1∨s=2∨s=3∨s=4:=by omega
theorem VQ {s h L:Int} (hs:1≤s∧s≤4)(hb:0≤h∧h≤L)(hL:L≤15)(ok:qY s h L=true):qY s (wV s h) 15=true∧pH s (wV s h) 15=pH s h L∧wV s h≤15∧(0<wV s h↔0<h):=by
 grind[wV,qY,rH,pH]
theorem aks {s:Int} {h lg:Nat} (hs:1≤s∧s≤4)(ok:qY s h 15=true)(h1:h≠0→lg≠0)(h2:s=1→h≤lg):qY s (oL s lg h) lg=true∧pH s (oL s lg h) lg=pH s h 15∧0≤oL s lg h∧oL s lg h≤lg∧(0<oL s lg h↔0<h)∧wV s (oL s lg h)=if h=0 then 0 else if s=1 then h else 15:=by
 unfold oL wV
 grind[qY,rH,pH]
structure U4(s:Int)(L:Int→Nat)(x:Stp):Prop where
 c:1≤x.1∧x.1≤14
 f:0≤x.2.1∧x.2.1≤18
 r:0≤x.2.2.1∧x.2.2.1≤3
 g:0≤x.2.2.2.1∧x.2.2.2.1≤4
 h:0≤x.2.2.2.2∧x.2.2.2.2≤(L x.1:Int)
 l:L x.1≤15
 z:0<x.2.2.2.2→x.2.1≠0
 k:stK s L x=true
theorem VR {s aQ:Int} {L:Int→Nat} {x:Stp} (hs:1≤s∧s≤4) (hx:U4 s L x) (hsp:aC s aQ=0) (hst:dU s aQ x.1=true):iY s aQ (Ef s L x)=some (yh s x):=by
 obtain ⟨hc,hf,hr,hg,hh,hl,hz,hk⟩:=hx
 unfold stK at hk
 unfold Ef yh
 obtain ⟨c,f,r,g,h⟩:=x
 dsimp only at hc hf hr hg hh hl hz hk hst ⊢
 have hk2:=hk
 unfold dZ at hk2
 simp only [dw] at hk2
 obtain ⟨b1,b2,b3,b4⟩:=VQ hs hh aj hk2.2
 obtain ⟨c,rfl⟩:=dP (show 0≤c by omega)
 obtain ⟨f,rfl⟩:=dP (show 0≤f by omega)
 obtain ⟨r,rfl⟩:=dP (show 0≤r by omega)
 obtain ⟨g,rfl⟩:=dP (show 0≤g by omega)
 simp only [dB]
 refine Dp hsp ⟨by omega,by omega,hst,akV ⟨by omega,by omega,by omega,fun q=>?_⟩ ?_ ?_⟩
 all_goals simp_all[dZ,cellS]
def lY (s:Int)(L:Int→Nat)(n:Nat)(l:List Stp):List (List UInt8):=(List.range n).map (fun j:Nat=>QA s L l ((j:Int)+1))++(l.filter fun x=>decide ((n:Int)<x.1)).map (Ef s L)
def jC (s:Int)(L:Int→Nat)(n:Nat)(l:List Stp):List (List UInt8):=if s=2 then nI s L n l++dV s L n l else dV s L n l++nI s L n l
theorem DF (s:Int)(L:Int→Nat)(n:Nat)(l:List Stp):iL s (jC s L n l)=lY s L n l:=by
 unfold iL jC lY nI dV
 by_cases e:s=2
 ·rw [if_pos e,if_pos e,if_pos e,List.reverse_append,List.reverse_reverse]
  congr 1
  apply jT
  all_goals grind[cAt]
 simp_all[cAt]
theorem OO (s:Int)(L:Int→Nat)(n:Nat)(l:List Stp):(lY s L n l).length=n+(l.filter fun x=>decide ((n:Int)<x.1)).length:=by unfold lY;simp
theorem VP {s:Int} {L:Int→Nat} {n:Nat} {l:List Stp} {j:Nat} (h:j<n)(h2:j<(lY s L n l).length):(lY s L n l)[j]=QA s L l ((j:Int)+1):=by
 grind[lY]
theorem VO {s:Int} {L:Int→Nat} {n:Nat} {l:List Stp} {j:Nat} (h:j<(l.filter fun x=>decide ((n:Int)<x.1)).length)(h2:n+j<(lY s L n l).length):(lY s L n l)[n+j]=Ef s L (l.filter fun x=>decide ((n:Int)<x.1))[j]:=by
 grind[lY]
theorem Sv {s:Int} (hs:1≤s∧s≤4) {j:Nat} (h6:j<6)(h4:s≠4):aC s ((j:Int)+1)=0:=by
 grind[aC]
theorem O5 {s:Int} (hs:1≤s∧s≤4):aC s 0=0:=by
 simp_all[aC]
theorem vP {n:Int}:∀ {l:List Stp} {m:Int},F5 m l→(l.filter fun x=>decide (x.1≤n))++(l.filter fun x=>decide (n<x.1))=l
 | [],_,_=>rfl
 | x::r,m,h=>by
  have ih:=vP h.2 (n:=n)
  by_cases e:x.1≤n
  ·simp_all
  ·have hr:(r.filter fun x=>decide (x.1≤n))=[]:=by
    rw [LX]
    intro y hy
    have:=yZ h.2 y hy
    simp;omega
   grind
theorem abq {s:Int}:∀ {l:List Stp} {m:Int},0≤m→F5 m l→gU (l.map (yh s))
 | [],_,_,_=>List.Pairwise.nil
 | x::r,m,hm,h=>by
  refine List.pairwise_cons.2 ⟨fun y hy=>?_,abq (by have:=h.1;omega) h.2⟩
  obtain ⟨z,hz,rfl⟩:=List.mem_map.1 hy
  have:=yZ h.2 z hz
  have:=h.1
  show x.1.toNat<z.1.toNat
  omega
section
variable {s:Int} {L:Int→Nat} {n:Nat} {l:List Stp}
theorem O6 (hs:1≤s∧s≤4)(h6:n≤6)(h4:s=4→n=0)(hl:∀ x∈l,U4 s L x) {j:Nat} (hj:j<n):bQ s n j (QA s L l ((j:Int)+1))=some ((oN l ((j:Int)+1)).map (yh s)):=by
 unfold QA bQ
 rw [if_pos hj]
 cases hx:oN l ((j:Int)+1)with
 | none=>rw [if_pos rfl];rfl
 | some x =>
  obtain⟨hm,hc⟩:=yI hx
  have hxo:=hl x hm
  have hp:Gv s x.1 x.2.1=true:=by
   have:=hxo.k
   simp_all[stK,dZ]
  have hd:Ef s L x≠[45]:=QE _ _ _ _ _ _ _ hs hxo.c hxo.f hp
  grind[VR,Sv,dU]
theorem Iw (hs:1≤s∧s≤4) (hn:s=4∨∀ x∈l,(n:Int)<x.1→6<x.1) (hl:∀ x∈l,U4 s L x) {j:Nat} (hj:j<(l.filter fun x=>decide ((n:Int)<x.1)).length):bQ s n (n+j) (Ef s L (l.filter fun x=>decide ((n:Int)<x.1))[j])=some (some (yh s (l.filter fun x=>decide ((n:Int)<x.1))[j])):=by
 grind[fA,bQ,VR,O5,dU]
theorem ame (hs:1≤s∧s≤4) (h6:n≤6) (h4:s=4→n=0) (hn:s=4∨∀ x∈l,(n:Int)<x.1→6<x.1) (hl:∀ x∈l,U4 s L x) (ha:F5 0 l) (hne:l≠[]):zV s n (jC s L n l)=some (l.map (yh s)):=by
 unfold zV
 rw [DF]
 have hlen:=OO s L n l
 have hlo:∀ k,k≤n→fJ s n (lY s L n l) k=(l.filter fun x=>decide (x.1≤(k:Int))).map (yh s):=by
  intro k
  induction k with
  | zero =>
   intro _
   have:(l.filter fun x=>decide (x.1≤((0:Nat):Int)))=[]:=by
    rw [LX];intro y hy;have:=yZ ha y hy;simp;omega
   rw [this];rfl
  | succ k ih =>
   intro hk
   have hkl:k<(lY s L n l).length:=by omega
   have hw:=O6 hs h6 h4 hl (j:=k) aj
   rw [rJ,ih (by omega),yc hkl,VP (by omega),hw,Jh,L9,XC ha,gK]
   cases oN l ((k:Int)+1)<;>rfl
 have hhi:∀ j,j≤(l.filter fun x=>decide ((n:Int)<x.1)).length→fJ s n (lY s L n l) (n+j)=(l.filter fun x=>decide (x.1≤(n:Int))).map (yh s)++((l.filter fun x=>decide ((n:Int)<x.1)).take j).map (yh s):=by
  intro j
  induction j with
  | zero=>intro _;rw [vY,hlo n (Nat.le_refl n)];simp
  | succ j ih =>
   intro hj
   have hjl:n+j<(lY s L n l).length:=by omega
   have hw:=Iw hs hn hl (j:=j) aj
   rw [← ET,rJ,ih (by omega),yc hjl,VO (by omega),hw,gq (by omega),gK,lD]
   rfl
 have hL:fJ s n (lY s L n l) (lY s L n l).length=l.map (yh s):=by
  rw [hlen,hhi _ (Nat.le_refl _),fE,← gK,vP ha]
 have hok:∀ i (h:i<(lY s L n l).length),(bQ s n i (lY s L n l)[i]).isSome=true:=fun i h=>by
  rcases qJ i n with q|q
  ·rw [VP q,O6 hs h6 h4 hl q];rfl
  ·obtain ⟨j,rfl⟩:=Nat.exists_eq_add_of_le q
   rw [VO (by omega),Iw hs hn hl (by omega)];rfl
 have e:=Ib (s:=s) (n:=n) (W:=lY s L n l) (by omega) hok (by rw [hL];exact abq (ni 0) ha) (by rw [hL];simpa using hne)
 simp_all
def gW (s:Int)(L:Int→Nat)(x:N5):Stp:=(x.1,x.2.1,x.2.2.1,x.2.2.2.1,oL s (L x.1) x.2.2.2.2)
def NwH(s:Int)(L:Int→Nat)(x:N5):Prop:=(x.2.2.2.2≠0→L x.1≠0)∧(s=1→x.2.2.2.2≤L x.1)
theorem abu (hs:1≤s∧s≤4) {aQ:Int} {w:List UInt8} {x:N5} (h:iY s aQ w=some x) (hh:NwH s L x) (h15:L x.1≤15):U4 s L (gW s L x)∧Ef s L (gW s L x)=w:=by
 obtain ⟨a1,a2,a3,a4⟩:=qA h
 obtain ⟨a5,a6,a7⟩:=su a4
 have a8:=a6
 unfold dZ at a8
 simp only [dw] at a8
 obtain ⟨b1,b2,b3,b4,b5,b6⟩:=aks hs a8.2 hh.1 hh.2
 obtain ⟨c,f,r,g,k⟩:=x
 dsimp only at a1 a2 a3 a5 a7 a8 b1 b2 b3 b4 b5 h15
 refine ⟨⟨?_,?_,?_,?_,?_,?_,?_,?_⟩,?_⟩
 ·show (1:Int)≤(c:Int)∧(c:Int)≤14;omega
 ·show (0:Int)≤(f:Int)∧(f:Int)≤18;omega
 ·show (0:Int)≤(r:Int)∧(r:Int)≤3;omega
 ·show (0:Int)≤(g:Int)∧(g:Int)≤4;omega
 ·exact ⟨b3,b4⟩
 ·exact h15
 ·exact fun q=>a5.2.2.2 (b5.1 q)
 ·show dZ s c f r g (oL s (L c) k) (L c)=true
  simp_all[dZ]
 ·show cellS s c f r g (oL s (L c) k) (L c)=w
  simp_all[cellS]
theorem abG {W:List (List UInt8)} {i:Nat} {x:N5} (hi:i<W.length)(h:x∈lX s n W i):bQ s n i W[i]=some (some x):=by
 rw [yc hi]at h
 cases hw:bQ s n i W[i]<;>simp_all
theorem abE {i:Nat} {w:List UInt8} {x:N5} (h:bQ s n i w=some (some x)):iY s (if i<n then (i:Int)+1 else 0) w=some x:=by
 grind[bQ,Us]
theorem abt {V:List (List UInt8)} {nl:List N5} (hs:1≤s∧s≤4) (h6:n≤6) (h4:s=4→n=0) (h:lM s n V=some nl) (hh:∀ x∈nl,NwH s L x) (h15:∀ c,L c≤15) :
  lY s L n (nl.map (gW s L))=V∧(∀ x∈nl.map (gW s L),U4 s L x)∧gU nl∧nl≠[]:=by
 unfold lM at h
 split at h
 ·rename_i hk
  obtain ⟨hn,hok,hasc,hne⟩:=hk
  have hnl:fJ s n V V.length=nl:=Option.some.inj h
  rw [hnl] at hasc hne
  have hmem:∀ {i:Nat} {x:N5},i<V.length→x∈lX s n V i→x∈nl:=fun {i x} hi hx=>by grind[qy]
  have hcell:∀ {i:Nat} {x:N5} (hi:i<V.length),x∈lX s n V i→U4 s L (gW s L x)∧Ef s L (gW s L x)=V[i]:=fun {i x} hi hx=>abu hs (abE (abG hi hx)) (hh x (hmem hi hx)) (h15 _)
  refine ⟨?_,fun y hy=>?_,hasc,hne⟩
  rotate_left
  ·grind[qy]
  have hout:(nl.map (gW s L)).filter (fun x=>decide ((n:Int)<x.1))=(((List.range' n (V.length-n)).flatMap (lX s n V)).map (gW s L)):=by
   rw [← hnl]
   have e:fJ s n V V.length=fJ s n V n++(List.range' n (V.length-n)).flatMap (lX s n V):=by
    unfold fJ
    rw [EM,show V.length=n+(V.length-n) by omega,← List.range'_append_1,Jd,← EM]
    simp
   rw [e,gK,Lu]
   have e1:((fJ s n V n).map (gW s L)).filter (fun x=>decide ((n:Int)<x.1))=[]:=by
    rw [LX]
    intro y hy
    obtain ⟨x,hx,rfl⟩:=List.mem_map.1 hy
    obtain ⟨i,hi,hxi⟩:=qy.1 hx
    have:=yg hi hxi
    show ¬ decide ((n:Int)<(x.1:Int))=true
    simp;omega
   have e2:(((List.range' n (V.length-n)).flatMap (lX s n V)).map (gW s L)).filter (fun x=>decide ((n:Int)<x.1))=((List.range' n (V.length-n)).flatMap (lX s n V)).map (gW s L):=by
    rw [List.filter_eq_self]
    intro y hy
    obtain ⟨x,hx,rfl⟩:=List.mem_map.1 hy
    obtain ⟨i,hi,hxi⟩:=List.mem_flatMap.1 hx
    have hi2:=List.mem_range'_1.1 hi
    have hb:=KA hxi
    show decide ((n:Int)<(x.1:Int))=true
    rcases Dx hi2.1 hxi with e4|e4
    ·have:=h4 e4;simp;omega
    ·simp;omega
   grind
  have hone:∀ d k,n≤k→k+d=V.length→(((List.range' k d).flatMap (lX s n V)).map (gW s L)).map (Ef s L)=V.drop k:=by
   intro d
   induction d with
   | zero=>intro k _ hk;rw [qN (by omega)];rfl
   | succ d ih =>
    intro k hk hd
    have hkl:k<V.length:=by omega
    obtain ⟨x,hx⟩:=uf hk (hok k hkl)
    have hxk:=qB hkl hx
    have ih2:=ih (k+1) aj aj
    have hc:=(hcell hkl (x:=x) (by rw [hxk];simp)).2
    rw [Fg,LW,hxk,gK,gK,kV hkl]
    show [Ef s L (gW s L x)]++_=_
    rw [hc]
    exact congrArg (V[k]::·) ih2
  unfold lY
  rw [hout]
  have h1:=hone (V.length-n) n (Nat.le_refl n) aj
  rw [h1]
  have hst:((List.range n).map fun j:Nat=>QA s L (nl.map (gW s L)) ((j:Int)+1))=V.take n:=by
   apply jT
   ·simp;omega
   ·intro j j1 j2
    have hj:j<n:=by simpa using j1
    have hjl:j<V.length:=by omega
    rw [EK,Un,LZ]
    have al7:∀ {x y:N5},x∈nl→y∈nl→x.1=y.1→x=y:=fun {x y} hx hy e=>by
     obtain ⟨a,ha,rfl⟩:=fZ hx
     obtain ⟨b,hb,rfl⟩:=fZ hy
     rcases Jb a b with q|q|q
     ·have:=List.pairwise_iff_getElem.1 hasc a b ha hb q;omega
     ·subst q;rfl
     ·have:=List.pairwise_iff_getElem.1 hasc b a hb ha q;omega
    cases hw:bQ s n j V[j] with
    | none=>have:=hok j hjl;rw [hw] at this;cases this
    | some o =>
     cases o with
     | none =>
      have hd:V[j]=[45]:=by
       unfold bQ at hw
       rw [if_pos hj] at hw
       split at hw
       ·assumption
       ·obtain ⟨y,_,e⟩:=Option.map_eq_some_iff.1 hw
        cases e
      have hno:oN (nl.map (gW s L)) ((j:Int)+1)=none:=by
       apply II
       intro y hy e
       obtain ⟨x,hx,rfl⟩:=List.mem_map.1 hy
       have hx2:=hx
       rw [← hnl] at hx2
       obtain ⟨i,hi,hxi⟩:=qy.1 hx2
       have e2:(x.1:Int)=(j:Int)+1:=e
       rcases qJ i n with q|q
       ·have:=yg q hxi
        have:i=j:=by omega
        subst this
        rw [Io hjl hw] at hxi
        cases hxi
       ·rcases Dx q hxi with e4|e4
        ·have:=h4 e4;omega
        ·omega
      unfold QA
      rw [hno,hd]
     | some x =>
      have hxk:=qB hjl hw
      have hxm:=hmem hjl (x:=x) (by rw [hxk];simp)
      have hx1:=OJ hj hw
      have hc:=(hcell hjl (x:=x) (by rw [hxk];simp)).2
      cases hs2:oN (nl.map (gW s L)) ((j:Int)+1) with
      | none =>
       exfalso
       unfold oN at hs2
       rw [EL] at hs2
       have:=hs2 (gW s L x) (List.mem_map.2 ⟨x,hxm,rfl⟩)
       apply this
       show ((x.1:Int) == (j:Int)+1)=true
       simp;omega
      | some y =>
       obtain ⟨m1,m2⟩:=yI hs2
       obtain ⟨z,hz,rfl⟩:=List.mem_map.1 m1
       have m3:(z.1:Int)=(j:Int)+1:=m2
       have:z=x:=al7 hz hxm aj
       subst this
       unfold QA
       rw [hs2]
       exact hc
  simp_all
 ·cases h
end
def cZ (n e:Int):Value:=.iface 71 (.agg #[.int .i64 n,.int .i64 e])
def dX (v0 v1:Value)(CS ST:List (List AV))(n:Int)(T:List (List AV))(cl:Bool):AO:=.box 78 [.sc v0,.sc v1,.ls 3 CS,.ls 1 ST,.sl 1,.sl 2,.sc (.int .i64 n),.ls 1 T,.sc (.bool cl)]
theorem aas (v0 v1:Value)(CS ST:List (List AV))(n:Int)(T:List (List AV))(cl:Bool)(e:Int):Ctp truB 0 Tryz.prog 40 [.pt 0 0 0,.sc (.int .i64 e)] [(0,dX v0 v1 CS ST n T cl)] 3 (cZ n e):=by
 unfold dX
 refine Ctp.intro truS Tryz.func40 rfl Tryz.ntmps40 (aP rfl) rfl fun w0 F0 fp pg hB=>?_
 refine jw ?_
 refine aif ?_
 refine WL.vl rfl (WV.mki rfl (fun v w=>by kernel_rfl) rfl rfl) ?_
 refine aif ?_
 refine WL.pan rfl rfl rfl rfl
def je (L:List (List UInt8))(cl:Bool)(n:Nat):Bool:=decide (n<L.length) && (cl|| decide (n+1<L.length))
theorem Rn (v0 v1:Value) (CS ST:List (List AV)) (L:List (List UInt8)) (cl:Bool) (n:Nat) (hl:L.length≤1000000) (hn:n≤L.length) :
  Ctu truB 0 Tryz.prog 42 [.pt 0 0 0] [(0,dX v0 v1 CS ST n (L.map bg) cl)] 3
   (if je L cl n=true then .ok (.sc (.string (bs (L.getD n [])))) [(0,dX v0 v1 CS ST ((n:Int)+1) (L.map bg) cl)] 3 else .er (cZ ((n:Int)+1) 4)):=by
 unfold dX
 refine Ctu.intro truS Tryz.func42 rfl Tryz.ntmps42 (aP rfl) rfl fun w0 F0 fp pg hB=>?_
 refine jw ?_
 by_cases h1:L.length≤n
 ·have e:je L cl n=false:=by unfold je;rw [dW (by omega)];rfl
  exact aeM
 have hat:(L.map bg)[((n:Int)+1 - 1).toNat]?=some (bg (L.getD n [])):=by
  rw [show ((n:Int)+1 - 1).toNat=n by omega,bC,dI,aB (by omega)];rfl
 obtain ⟨T,hT⟩:∃ z,L.map bg=z:=⟨_,rfl⟩
 have hTl:T.length=L.length:=by rw [← hT];exact dH _
 obtain ⟨x,hx⟩:∃ z,L.getD n []=z:=⟨_,rfl⟩
 rw [hT,hx] at hat
 rw [hT,hx]
 by_cases h2:n+1=L.length
 ·cases cl with
  | false =>
   have e:je L false n=false:=by unfold je;rw [fQ (by omega),dW (by omega)];rfl
   exact aeM
  | true =>
   have e:je L true n=true:=by unfold je;rw [fQ (by omega)];rfl
   exact ad6
 ·have e:je L cl n=true:=by unfold je;rw [fQ (show n < L.length by omega),fQ (show n+1 < L.length by omega)];simp
  exact ad6
theorem afN (s:Int) (v0 v1:Value) (cs:List Crs) (ST:List (List AV)) (n:Int) (T:List (List AV)) (cl:Bool) (x:N5) (h1:1≤x.1∧x.1≤100) (h2:x.2.1≤100) (hc:cs.length≤100) (hb:∀ c∈cs,0≤c.2.1∧c.2.1≤1000) :
  Ctu truB 0 Tryz.prog 94 [.pt 0 0 0,.ag (qX s x)] [(0,dX v0 v1 (cs.map aW) ST n T cl)] 3
   (if dK cs x=0 then .ok (.tu []) [(0,dX v0 v1 (cs.map aW) ST n T cl)] 3 else .er (cZ n (dK cs x))):=by
 obtain ⟨c,f,r,g,h⟩:=x
 dsimp only at h1 h2
 unfold dX qX
 refine Ctu.intro truS Tryz.func94 rfl Tryz.ntmps94 (aP rfl) rfl fun w0 F0 fp pg hB=>?_
 refine jw ?_
 obtain ⟨H,hH⟩:∃ z,jV s h=z:=⟨_,rfl⟩
 rw [hH]
 have hml:(cs.map aW).length=cs.length:=dH _
 by_cases hlt:cs.length < c
 ·have e:dK cs (c,f,r,g,h)=12:=if_pos hlt
  rw [e,if_neg (by decide)]
  refine ac1 ?_
  exact FV
 have hat:(cs.map aW)[((c:Int) - 1).toNat]?=some (aW (cs.getD (c - 1) (0,0,false))):=by
  rw [show ((c:Int) - 1).toNat=c - 1 by omega,bC,dI,aB (by omega)];rfl
 have hbc:=hb (cs.getD (c - 1) (0,0,false)) (by rw [dI,aB (by omega)];exact fA _)
 obtain ⟨⟨p,q,o⟩,hpq⟩:∃ z,cs.getD (c - 1) (0,0,false)=z:=⟨_,rfl⟩
 have e:dK cs (c,f,r,g,h)=if q < (f:Int) then 13 else 0:=by
  unfold dK;dsimp only;rw [if_neg hlt,hpq]
 rw [e]
 rw [hpq] at hat hbc
 dsimp only at hbc
 obtain ⟨R,hR⟩:∃ z,cs.map aW=z:=⟨_,rfl⟩
 rw [hR] at hml hat ⊢
 by_cases hf:q < (f:Int)
 ·rw [if_pos hf,if_neg (by decide)]
  refine aiG ?_
  exact FV
 ·rw [if_neg hf,if_pos rfl]
  refine aiG ?_
  exact rF (σ':=⟨[],[(0,.box 78 [.sc v0,.sc v1,.ls 3 R,.ls 1 ST,.sl 1,.sl 2,.sc (.int .i64 n),.ls 1 T,.sc (.bool cl)])],3⟩) (zqt id) (rE rfl rfl rfl rfl rfl)
end
end Go.Proofs.YthohlofpphjofaaGreatDoor
