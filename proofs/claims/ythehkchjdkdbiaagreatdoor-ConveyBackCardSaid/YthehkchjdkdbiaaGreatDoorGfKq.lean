/- A walk that knows values as trees: a drawn region in which a call and an operation that makes memory do not wait for each other; a value that only what was written so far knows. -/
import Derived.Test.YthehkchjdkdbiaaGreatDoorG9Kq
import Derived.Lib.TrimU
set_option linter.unusedVariables false
set_option linter.unusedSimpArgs false
namespace Go.Proofs.YthehkchjdkdbiaaGreatDoor
theorem ak7 {p:Prop}(h:p:=by
 show (match look k M' with|some _=>G'.fp k|none=>G.fp k)=_
 rw [h]):p:=h
theorem akP {p:Prop}(h:p:=by
 ·obtain⟨y,hy,e⟩:=Option.map_eq_some_iff.1 h
  cases e
  exact ahD hy):p:=h
section
open Go.RowKit
theorem aiR {s aT:Int} {w:List UInt8} {n:Nat} {c f:Int} {x:Int×Int×Int} (hsp:aK s aT=0) (h1:1≤n) (hn:n≤w.length) (hp:placeOf s aT (w.take n)=(c,f,0)) (hm:wM s (decide (0<f)) (w.drop n)=some x) :
  ∃ c' f' r g h:Nat,c=(c':Int)∧f=(f':Int)∧IC s aT 15 w c' f' r g h∧x=((r:Int),(g:Int),mQ s h):=by
 have hs:=nH hsp
 rcases Bg (w.take n) hsp with⟨c',f',p1,p2,p3,p4,p5⟩|p
 ·rw [hp] at p1
  obtain ⟨rfl,rfl⟩:c=(c':Int)∧f=(f':Int):=by
   have:=Prod.mk.inj p1
   exact ⟨this.1,(Prod.mk.inj this.2).1⟩
  obtain ⟨r,g,h,q1,q2,q3,q4,q5,q6,q7,q8,q9⟩:=awD hs hm
  obtain ⟨l1,l2⟩:=qm s c' f' hs au au
  have hne:rS s c' f'≠[]:=by
   rw [p5]
   intro e
   have:=congrArg List.length e
   rw [fP,o9] at this
   omega
  have hok:qU s c' f'=true:=by
   rw [l1]
   cases hz:rS s c' f' with
   | nil=>exact absurd hz hne
   | cons _ _=>rfl
  have hw:cellS s c' f' r g h 15=w:=by
   unfold cellS
   rw [l2 hok,p5,jA,jA,← jA (rR s r),← q8,MP]
  refine ⟨c',f',r,g,h,rfl,rfl,⟨p2,p3,p4,?_⟩,q9⟩
  unfold stM
  rw [hw]
  have hd:decide (r≤3∧g≤4∧(h:Int)≤15∧(0<h→(f':Int)≠0))=true:=dG ⟨q1,q2,by omega,fun k=>by have:=iY (q7 k);omega⟩
  rw [hd]
  unfold dK
  rw [hok,q4,q5,q6]
  simp
 ·rw [hp] at p
  have:=Prod.mk.inj (Prod.mk.inj p).2
  exact absurd this.2 (by decide)
theorem Hg {s aT:Int} {w:List UInt8} {c f r g h:Nat} (hsp:aK s aT=0) (a:IC s aT 15 w c f r g h) :
  1≤(rS s c f).length∧(rS s c f).length≤w.length∧placeOf s aT (w.take (rS s c f).length)=((c:Int),(f:Int),0)∧wM s (decide (0<(f:Int))) (w.drop (rS s c f).length)=some ((r:Int),(g:Int),mQ s h):=by
 obtain ⟨b1,b2,b3⟩:=ail hsp a
 have hs:=nH hsp
 obtain ⟨a1,a2,a3,a4⟩:=a
 obtain ⟨a5,a6,a7⟩:=xX a4
 obtain ⟨l1,l2⟩:=qm s c f hs au au
 unfold dK at a6
 simp only [aW] at a6
 have hw:w=rS s c f++(rR s r++rG s g++pH s h 15):=by
  rw [← a7];unfold cellS;rw [l2 a6.1.1.1];simp
 refine ⟨b1,b2,b3,?_⟩
 have hd:w.drop (rS s c f).length=rR s r++rG s g++pH s h 15:=by rw [hw,MC]
 rw [hd]
 exact aoD hs au au au a6.1.1.2 a6.1.2 a6.2 (fun k=>dG au)
abbrev N5:=Nat×Nat×Nat×Nat×Nat
abbrev Crs:=Int×Int×Bool
open Classical in
noncomputable def jr (s aT:Int)(w:List UInt8):Option N5 :=
 if h:∃ x:N5,IC s aT 15 w x.1 x.2.1 x.2.2.1 x.2.2.2.1 x.2.2.2.2 then some (Classical.choose h)else none
theorem JX {s aT:Int} {w:List UInt8} {c f r g h:Nat} (hsp:aK s aT=0) (a:IC s aT 15 w c f r g h):jr s aT w=some (c,f,r,g,h):=by
 have ex:∃ x:N5,IC s aT 15 w x.1 x.2.1 x.2.2.1 x.2.2.2.1 x.2.2.2.2:=⟨(c,f,r,g,h),a⟩
 unfold jr
 rw [dif_pos ex]
 obtain ⟨e1,e2,e3,e4,e5⟩:=aeZ hsp au (Classical.choose_spec ex) a
 exact congrArg some (Prod.ext e1 (Prod.ext e2 (Prod.ext e3 (Prod.ext e4 e5))))
theorem wF {s aT:Int} {w:List UInt8} {x:N5} (h:jr s aT w=some x):IC s aT 15 w x.1 x.2.1 x.2.2.1 x.2.2.2.1 x.2.2.2.2:=by
 unfold jr at h
 split at h
 ·rename_i ex
  cases h
  exact Classical.choose_spec ex
 ·cases h
theorem YZ {s aT:Int} {w:List UInt8}:(∀ c f r g h:Nat,¬ IC s aT 15 w c f r g h)↔jr s aT w=none:=by
 constructor
 ·intro h
  unfold jr
  rw [dif_neg]
  rintro ⟨x,hx⟩
  exact h _ _ _ _ _ hx
 ·intro h c f r g k a
  unfold jr at h
  rw [dif_pos ⟨(c,f,r,g,k),a⟩]at h
  cases h
noncomputable def dR (s:Int)(n i:Nat)(w:List UInt8):Option (Option N5) :=
 if i<n then (if w=[45] then some none else (jr s ((i:Int)+1) w).map some) else (jr s 0 w).map some
noncomputable def qx (s:Int)(n:Nat)(W:List (List UInt8))(i:Nat):List N5:=((dR s n i ((W[i]?).getD [])).getD none).toList
noncomputable def jd (s:Int)(n:Nat)(W:List (List UInt8))(k:Nat):List N5:=(List.range k).flatMap (qx s n W)
def jD(l:List N5):Prop:=l.Pairwise fun a b=>a.1<b.1
open Classical in
noncomputable def pO (s:Int)(n:Nat)(W:List (List UInt8)):Option (List N5) :=
 if n≤W.length∧(∀ i (h:i<W.length),(dR s n i W[i]).isSome=true)∧jD (jd s n W W.length)∧jd s n W W.length≠[]then some (jd s n W W.length)else none
theorem Vw {s:Int} {n:Nat} {W:List (List UInt8)} (h:W.length<n):pO s n W=none:=if_neg fun k=>by have:=k.1;omega
theorem JW {s:Int} {n i:Nat} {W:List (List UInt8)} (hi:i<W.length)(h:dR s n i W[i]=none):pO s n W=none:=if_neg fun k=>by
 have:=k.2.1 i hi
 rw [h]at this;cases this
theorem aeh {s:Int} {n:Nat} {W:List (List UInt8)} (h:¬ jD (jd s n W W.length)):pO s n W=none:=if_neg fun k=>h k.2.2.1
theorem O9 {s:Int} {n:Nat} {W:List (List UInt8)} (h:jd s n W W.length=[]):pO s n W=none:=if_neg fun k=>k.2.2.2 h
theorem Pg {s:Int} {n:Nat} {W:List (List UInt8)} (h1:n≤W.length) (h2:∀ i (h:i<W.length),(dR s n i W[i]).isSome=true) (h3:jD (jd s n W W.length)) (h4:jd s n W W.length≠[]) :
  pO s n W=some (jd s n W W.length):=if_pos ⟨h1,h2,h3,h4⟩
theorem as8 (s:Int)(n:Nat)(W:List (List UInt8)):jd s n W 0=[]:=rfl
theorem xH (s:Int)(n:Nat)(W:List (List UInt8))(k:Nat):jd s n W (k+1)=jd s n W k++qx s n W k:=by
 unfold jd;rw [List.range_succ,Tt];simp
theorem ahv (s:Int)(n:Nat)(W:List (List UInt8)) {k m:Nat} (h:k≤m):jd s n W k <+: jd s n W m:=by
 obtain⟨d,rfl⟩:=Nat.exists_eq_add_of_le h
 induction d with
 | zero=>exact List.prefix_refl _
 | succ d ih=>exact (ih (by omega)).trans (by rw [← H8,xH];exact List.prefix_append _ _)
theorem DR {s:Int} {n:Nat} {W:List (List UInt8)} {k:Nat} (h:k<W.length):qx s n W k=((dR s n k W[k]).getD none).toList:=by
 unfold qx;rw [aI h];rfl
theorem aei {s:Int} {c:Nat} {w:List UInt8} {x:N5} (hc:0<c)(h:jr s c w=some x):x.1=c:=by
 have a:=(wF h).2.2.1
 unfold ig at a
 rw [if_pos (by omega)]at a
 have:=iY (by simpa using a:decide ((x.1:Int)=(c:Int))=true)
 omega
theorem aej {s:Int} {w:List UInt8} {x:N5} (h:jr s 0 w=some x):s=4∨6<x.1:=by
 have a:=(wF h).2.2.1
 unfold ig at a
 rw [if_neg (by omega)]at a
 simp only [qI,qH,gu]at a
 omega
theorem ahD {s aT:Int} {w:List UInt8} {x:N5} (h:jr s aT w=some x):1≤x.1∧x.1≤14∧x.2.1≤18∧x.2.2.1≤3∧x.2.2.2.1≤4∧x.2.2.2.2≤15:=by
 obtain⟨a1,a2,a3,a4⟩:=wF h
 obtain⟨a5,a6,a7⟩:=xX a4
 omega
theorem VL {s:Int} {n i:Nat} {w:List UInt8} {x:N5} (h:dR s n i w=some (some x)):1≤x.1∧x.1≤14∧x.2.1≤18∧x.2.2.1≤3∧x.2.2.2.1≤4∧x.2.2.2.2≤15:=by
 unfold dR at h
 split at h
 ·split at h
  ·cases h
  exact akP
 exact akP
theorem RV {s:Int} {n:Nat} {W:List (List UInt8)} {i:Nat} {x:N5} (h:x∈qx s n W i):1≤x.1∧x.1≤14∧x.2.1≤18∧x.2.2.1≤3∧x.2.2.2.1≤4∧x.2.2.2.2≤15:=by
 unfold qx at h
 cases hw:dR s n i ((W[i]?).getD [])with
 | none=>rw [hw]at h;cases h
 | some o =>
  rw [hw]at h
  cases o with
  | none=>cases h
  | some y =>
   obtain rfl:x=y:=by simpa using h
   exact VL hw
theorem anY {s:Int} {n:Nat} {W:List (List UInt8)} {k:Nat} {x:N5} (h:x∈jd s n W k):1≤x.1∧x.1≤14∧x.2.1≤18∧x.2.2.1≤3∧x.2.2.2.1≤4∧x.2.2.2.2≤15:=by
 obtain⟨i,_,hi⟩:=List.mem_flatMap.1 h
 exact RV hi
theorem Cc:∀ {l:List N5} {a:Nat},jD l→(∀ x∈l,a<x.1∧x.1≤14)→l.length+a≤14∨l=[]
 | [],_,_,_=>.inr rfl
 | x::r,a,h,hb=>by
  have h1:=hb x (by simp)
  obtain⟨h2,h3⟩:=List.pairwise_cons.1 h
  rcases Cc (a:=x.1) h3 (fun y hy=>⟨h2 y hy,(hb y BK).2⟩) with k|k
  ·simp only [iw];omega
  ·subst k;simp only [iw,o9];omega
def ku (s:Int)(words:List (List UInt8)):List (List UInt8):=if s=2 then words.reverse else words
def aJ(s:Int)(cs:List Crs):Nat:=if s=4 then 0 else min cs.length 6
noncomputable def GI (s:Int)(n:Nat)(words:List (List UInt8)):Option (List N5):=pO s n (ku s words)
structure NC where
 bar:Bool
 v:Nat
 i:Nat
 tie:Bool
 l:List N5
noncomputable def jY (s:Int) (n:Nat) (bar:Bool) (v i:Nat) (ws:List (List UInt8)):Option NC :=
 if ws=[[126]]∧s≠4 then some ⟨bar,v,i,true,[]⟩else if ws=[[37]]∧s≠3 then some ⟨bar,v,i,false,[]⟩else (GI s n ws).map fun l=>⟨bar,v,i,false,l⟩
noncomputable def ou (s:Int)(n:Nat)(bar:Bool):List (List UInt8)→Option NC
 | sg::w::r=>(lD (EI s sg) 0 8).bind fun x=>jY s n bar x.1 x.2 (w::r)
 | _=>none
noncomputable def jk (s:Int)(n:Nat)(t:List UInt8):Option NC :=
 match dw 32 t with
 | w::r=>if w=[124]then ou s n true r else ou s n false (w::r)
 | []=>none
def fK (cs:List Crs) (x:N5):Int:=if cs.length<x.1 then 12 else if (cs.getD (x.1-1) (0,0,false)).2.1<(x.2.1:Int)then 13 else 0
def kF(cs:List Crs):List N5→Int
 | []=>0
 | x::r=>if fK cs x≠0 then fK cs x else kF cs r
def oh(cs:List Crs)(first:Bool)(x:NC):Int:=if first=true∧x.v=0 then 20 else if(first && x.tie)=true then 21 else kF cs x.l
noncomputable def iU (s:Int)(cs:List Crs)(k:Nat)(t:List UInt8):Int :=
 match jk s (aJ s cs) t with
 | none=>4
 | some x=>oh cs (k == 0) x
noncomputable def bV (s:Int) (cs:List Crs) (t:List UInt8):NC:=(jk s (aJ s cs) t).getD ⟨false,0,0,false,[]⟩
noncomputable def pK (s:Int)(cs:List Crs):Nat→List (List UInt8)→Option (Nat×Int)
 | _,[]=>none
 | k,t::r=>if iU s cs k t≠0 then some (k,iU s cs k t) else pK s cs (k+1) r
theorem O7 {s:Int} {cs:List Crs}:∀ {L:List (List UInt8)} {k j:Nat} (hj:j<L.length),(∀ i (hi:i<L.length),i<j→iU s cs (k+i) L[i]=0)→iU s cs (k+j) L[j]≠0→pK s cs k L=some (k+j,iU s cs (k+j) L[j])
 | t::r,k,0,hj,_,h=>by
  unfold pK
  rw [if_pos rP];rfl
 | t::r,k,j+1,hj,h1,h=>by
  have h0:=h1 0 (by simp) (by omega)
  simp only [zJ,zM] at h0
  unfold pK
  rw [if_neg (by rw [h0];decide),O7 (k:=k+1) (j:=j) Ez (fun i hi hij=>by
   have:=h1 (i+1) Qu (by omega)
   rw [Ie] at this
   rw [← this];congr 1;omega) (by
   rw [Ie] at h
   rw [show k+1+j=k+(j+1) by omega];exact h)]
  rw [Ie,show k+1+j=k+(j+1) by omega]
theorem uN {s:Int} {cs:List Crs}:∀ {L:List (List UInt8)} {k:Nat},(∀ i (hi:i<L.length),iU s cs (k+i) L[i]=0)→pK s cs k L=none
 | [],_,_=>rfl
 | t::r,k,h=>by
  have h0:=h 0 (by simp)
  simp only [zJ,zM] at h0
  unfold pK
  rw [if_neg (by rw [h0];decide)]
  exact uN fun i hi=>by
   have:=h (i+1) Qu
   rw [Ie] at this
   rw [← this];congr 1;omega
def dN(x:NC)(w:N5→Int):Ev:=⟨x.bar,x.v,IE x.i,EH x.i,x.tie,x.l.map fun n=>(n.1,n.2.1,n.2.2.1,n.2.2.2.1,w n)⟩
def gI(x:NC):Ev:=dN x fun _=>0
def yj (E:List NC)(i:Nat)(x:N5):Int:=(ah (E.map gI) i x.1:Int)
def rC (s:Int)(E:List NC)(i:Nat)(x:N5):Bool:=decide (x.2.2.2.2≠0) && (decide (yj E i x=0)|| (decide (s=1) && decide (yj E i x<x.2.2.2.2)))
def dQ(s:Int)(E:List NC)(i:Nat)(x:N5):Int:=if x.2.2.2.2=0 then 0 else if s=1 then(x.2.2.2.2:Int)else yj E i x
def qZ (s:Int) (E:List NC):Option Nat:=(List.range E.length).find? fun i=>((E[i]?).getD ⟨false,0,0,false,[]⟩).l.any (rC s E i)
def pU (s:Int)(E:List NC):List Ev:=E.mapIdx fun i x=>dN x (dQ s E i)
def lX(l:List UInt8):Option Int :=
 if l.take 10=[116,97,98,108,97,116,117,114,101,32]then
  (if [102,114,101,110,99,104]=l.drop 10 then some 1 else if [105,116,97,108,105,97,110]=l.drop 10 then some 2 else if [115,112,97,110,105,115,104]=l.drop 10 then some 3 else if [103,101,114,109,97,110]=l.drop 10 then some 4 else none)
 else none
def aG (t:List UInt8):(List Crs×List Int)×Int :=
 if (l7 t).2≠0 then (([],[]),(l7 t).2)else if fU (l7 t).1.1 (l7 t).1.2≠0 then (([],[]),fU (l7 t).1.1 (l7 t).1.2)else ((l7 t).1,0)
abbrev Jk:=Int×aS×Int×Int
def jv(line e:Int):Jk:=(0,⟨[],[],[]⟩,line,e)
noncomputable def pR (s:Int)(cs:List Crs)(st:List Int)(tl:List UInt8)(L:List (List UInt8)):Jk :=
 match pK s cs 0 L with
 | some (k,e)=>jv ((k:Int)+3) e
 | none =>
  if tl≠[] then jv ((L.length:Int)+3) 4 else
  match qZ s (L.map (bV s cs)) with
  | some i=>jv ((i:Int)+3) 24
  | none=>(s,⟨cs,st,pU s (L.map (bV s cs))⟩,0,0)
noncomputable def xK (s:Int)(tl:List UInt8):List (List UInt8)→Jk
 | []=>jv 2 4
 | l::L =>
  if (aG l).2≠0 then jv 2 (aG l).2 else
  if 400<L.length+(if tl=[]then 0 else 1)then jv 403 2 else pR s (aG l).1.1 (aG l).1.2 tl L
noncomputable def sU (tl:List UInt8):List (List UInt8)→Jk
 | []=>jv 1 4
 | l::L=>match lX l with
  | none=>jv 1 4
  | some s=>xK s tl L
noncomputable def dD (t:List UInt8):Jk:=sU (eY 10 t).2 (eY 10 t).1
end
section
open Go.RowKit
theorem YX:((List.range' 1 4).all fun s=>(List.range' 1 14).all fun c=>(List.range 19).all fun f=>(rS (s:Int) (c:Int) (f:Int)).all fun b=>decide (b.toNat<128))=true:=by decide +kernel
theorem aeg:((List.range' 1 4).all fun s=>((List.range 4).all fun r=>(rR (s:Int) (r:Int)).all fun b=>decide (b.toNat<128)) && ((List.range 5).all fun g=>(rG (s:Int) (g:Int)).all fun b=>decide (b.toNat<128)) && ((List.range 16).all fun h=>(pH (s:Int) (h:Int) 15).all fun b=>decide (b.toNat<128)))=true:=by decide +kernel
theorem ahA {s aT:Int} {w:List UInt8} {c f r g h:Nat} (hsp:aK s aT=0) (a:IC s aT 15 w c f r g h):∀ b∈w,b.toNat<128:=by
 have hs:=nH hsp
 obtain ⟨a1,a2,a3,a4⟩:=a
 obtain ⟨a5,a6,a7⟩:=xX a4
 obtain ⟨l1,l2⟩:=qm s c f hs au au
 unfold dK at a6
 simp only [aW] at a6
 obtain ⟨k,rfl⟩:=gq (show 0≤s by omega)
 have h1:=List.all_eq_true.1 (List.all_eq_true.1 (List.all_eq_true.1 (List.all_eq_true.1 YX k (List.mem_range'_1.2 au)) c (List.mem_range'_1.2 au)) f (List.mem_range.2 au))
 have h2:=List.all_eq_true.1 aeg k (List.mem_range'_1.2 au)
 simp only [aW] at h2
 have h3:=List.all_eq_true.1 (List.all_eq_true.1 h2.1.1 r (List.mem_range.2 au))
 have h4:=List.all_eq_true.1 (List.all_eq_true.1 h2.1.2 g (List.mem_range.2 au))
 have h5:=List.all_eq_true.1 (List.all_eq_true.1 h2.2 h (List.mem_range.2 au))
 intro b hb
 rw [← a7] at hb
 unfold cellS at hb
 rw [l2 a6.1.1.1] at hb
 simp only [Ig] at hb
 rcases hb with((x|x)|x)|x
 ·exact iY (h1 b x)
 ·exact iY (h3 b x)
 ·exact iY (h4 b x)
 ·exact iY (h5 b x)
def JR(s aT:Int)(w:List UInt8)(pos:Nat):Prop:=∀ c f r g h:Nat,IC s aT 15 w c f r g h→pos≤(rS s c f).length
theorem ahw(s aT:Int)(w:List UInt8):JR s aT w 0:=fun _ _ _ _ _ _=>gU _
theorem ata {l:List UInt8} {i:Nat} (h:i<l.length):(bs l)[i]'(by rw [bY];exact h)=l[i]:=by
 have:(bs l).data.toList=l:=iQ l
 simp only [ByteArray.getElem_eq_getElem_data]
 rw [← Array.getElem_toList]
 congr 1
theorem ahx {s aT:Int} {w:List UInt8} {pos:Nat} (hsp:aK s aT=0) (hp:pos<w.length+1) (hN:JR s aT w pos)
  (hno:pos=0∨∀ c f:Nat,placeOf s aT (w.take pos)=((c:Int),(f:Int),0)→wM s (decide (0<(f:Int))) (w.drop pos)=none):JR s aT w (pos+(Utf8.decode (bs (w++[32])) pos).2):=by
 intro c f r g h a
 have h1:=hN c f r g h a
 obtain ⟨b1,b2,b3,b4⟩:=Hg hsp a
 have hlt:pos<(rS s c f).length:=by
  rcases wW pos (rS s c f).length with k|k
  ·exact k
  ·exfalso
   have e:(rS s c f).length=pos:=by omega
   rw [e] at b3 b4
   rcases hno with h0|hno
   ·omega
   ·rw [hno c f b3] at b4;cases b4
 have hpw:pos<w.length:=by omega
 have hsz:pos<(bs (w++[32])).size:=by rw [bY,aY];simp;omega
 have hb:((bs (w++[32]))[pos]'hsz).toNat<128:=by
  rw [ata (by rw [aY];simp;omega),Tf hpw]
  exact ahA hsp a _ (dS hpw)
 rw [decode_ascii _ _ hsz hb]
 exact hlt
theorem YV {s aT:Int} {w:List UInt8} {pos:Nat} (hsp:aK s aT=0)(hp:w.length+1≤pos)(hN:JR s aT w pos):jr s aT w=none :=
 YZ.1 fun c f r g h a=>by
  have h1:=hN c f r g h a
  obtain⟨b1,b2,b3,b4⟩:=Hg hsp a
  omega
def xu (s:Int)(x:N5):List AV:=[.sc (.int .i64 x.1),.sc (.int .i64 x.2.1),.sc (.int .i64 x.2.2.1),.sc (.int .i64 x.2.2.2.1),.sc (.int .i64 0),.sc (.int .i64 (mQ s x.2.2.2.2))]
theorem atb {s aT:Int} {w:List UInt8} {n:Nat} {c f:Nat} {x:Int×Int×Int} (hsp:aK s aT=0) (h1:1≤n) (hn:n≤w.length) (hp:placeOf s aT (w.take n)=((c:Int),(f:Int),0)) (hm:wM s (decide (0<(f:Int))) (w.drop n)=some x) :
  ∃ y:N5,jr s aT w=some y∧(c:Int)=(y.1:Int)∧(f:Int)=(y.2.1:Int)∧x.1=(y.2.2.1:Int)∧x.2.1=(y.2.2.2.1:Int)∧x.2.2=mQ s y.2.2.2.2:=by
 obtain ⟨c',f',r,g,h,e1,e2,a,rfl⟩:=aiR hsp h1 hn hp hm
 exact ⟨(c',f',r,g,h),JX hsp a,e1,e2,rfl,rfl,rfl⟩
def jZ(e:Ev):List Int×Bool:=(e.stops.map fun x=>x.1,jU e)
theorem abT(c:Int)(l:List Stp):hasB c l=(l.map fun x=>x.1).any fun x=>x == c:=by
 unfold hasB;rw [List.any_map];rfl
theorem abU {c:Int}:∀ (k:Nat) {l m:List Ev},l.map jZ=m.map jZ→lT c k l=lT c k m
 | 0,l,m,_=>by simp [lT]
 | k+1,[],[],_=>rfl
 | k+1,[],y::m,h=>by simp at h
 | k+1,x::l,[],h=>by simp at h
 | k+1,x::l,y::m,h=>by
  rw [wR,wR] at h
  obtain⟨h1,h2⟩:=List.cons.inj h
  unfold jZ at h1
  obtain⟨h3,h4⟩:=Prod.mk.inj h1
  have ih:=abU (c:=c) k h2
  unfold lT
  rw [h4,abT,abT,h3,ih]
theorem Cj {l m:List Ev} (h:l.map jZ=m.map jZ) (i c:Int):ah l i c=ah m i c:=by
 have hl:l.length=m.length:=by have:=congrArg List.length h;simpa using this
 unfold ah
 rw [hl,abU 15 (l:=l.drop (i.toNat+1)) (m:=m.drop (i.toNat+1)) ajE]
def iI(w:N5→Int)(n:N5):Stp:=(n.1,n.2.1,n.2.2.1,n.2.2.2.1,w n)
def dZ (U V:N5→Int)(k:Nat)(l:List N5):List Stp:=(l.take k).map (iI V)++(l.drop k).map (iI U)
def dO (U:N5→Int)(V:Nat→N5→Int)(E:List NC)(n k:Nat):List Ev :=
 E.mapIdx fun i x=>if i<n then dN x (V i) else if i=n then { dN x U with stops:=dZ U (V n) k x.l } else dN x U
section
variable {U:N5→Int} {V:Nat→N5→Int} {E:List NC} {n k:Nat}
theorem iH:(dO U V E n k).length=E.length:=yC
theorem VF (U V:N5→Int)(l:List N5):dZ U V 0 l=l.map (iI U):=by unfold dZ;simp
theorem Y9 (U V:N5→Int)(l:List N5):dZ U V l.length l=l.map (iI V):=by unfold dZ;simp
theorem xJ(U V:N5→Int)(k:Nat)(l:List N5):(dZ U V k l).length=l.length:=by
 unfold dZ;rw [aY,aH,aH,fP,yB];omega
theorem J4 {V:N5→Int} {l:List N5} (h:k<l.length):(dZ U V k l)[k]?=some (iI U l[k]):=by
 unfold dZ
 have hl:((l.take k).map (iI V)).length=k:=by rw [aH,fP];omega
 rw [o8 (by omega),hl,H9,bT,yA,zJ,aI h];rfl
theorem J5 {V:N5→Int} {l:List N5} (h:k<l.length):(dZ U V k l).set k (iI V l[k])=dZ U V (k+1) l:=by
 unfold dZ
 have hl:((l.take k).map (iI V)).length=k:=by rw [aH,fP];omega
 rw [List.set_append_right _ _ (by omega),hl,H9,zL h,wR,MB,mJ h,fC,jA];rfl
theorem VG {V:N5→Int} {l:List N5} (h:k<l.length) (e:V l[k]=U l[k]):dZ U V (k+1) l=dZ U V k l:=by
 rw [← J5 h]
 have h1:=J4 (U:=U) (V:=V) h
 have hk:k<(dZ U V k l).length:=by rw [xJ];exact h
 rw [aI hk] at h1
 have h2:=Option.some.inj h1
 have h3:iI V l[k]=iI U l[k]:=by unfold iI;rw [e]
 rw [h3,← h2,List.set_getElem_self]
theorem VH (U:N5→Int)(V:Nat→N5→Int)(E:List NC):dO U V E 0 0=E.map fun x=>dN x U:=by
 apply fZ (by rw [iH,aH])
 intro i h1 h2
 simp only [dO,jh,iZ,Ic,BA]
 split
 ·rw [VF];rfl
 ·rfl
theorem Zb (U:N5→Int)(V:Nat→N5→Int)(E:List NC):dO U V E E.length 0=E.mapIdx fun i x=>dN x (V i):=by
 apply fZ (by rw [iH,yC])
 intro i h1 h2
 have hi:i<E.length:=by rw [yC]at h2;exact h2
 simp only [dO,jh]
 rw [if_pos hi]
theorem VJ (h:n<E.length):dO U V E n E[n].l.length=dO U V E (n+1) 0:=by
 apply fZ (by rw [iH,iH])
 intro i h1 h2
 simp only [dO,jh]
 by_cases e1:i<n
 ·rw [if_pos e1,if_pos (by omega)]
 ·rw [if_neg e1]
  by_cases e2:i=n
  ·subst e2
   rw [if_pos rfl,if_pos (by omega),Y9];rfl
  ·rw [if_neg e2,if_neg (by omega)]
   split
   ·rw [VF];rfl
   ·rfl
theorem aez (h:n<E.length):(dO U V E n k)[n]?=some { dN E[n] U with stops:=dZ U (V n) k E[n].l }:=by
 rw [aI (by rw [iH];exact h)]
 simp only [dO,jh]
 simp
theorem J6 (h:n<E.length)(f:Ev→List AV)(j:Nat):((dO U V E n j).map f).set n (f { dN E[n] U with stops:=dZ U (V n) k E[n].l })=(dO U V E n k).map f:=by
 rw [← wX]
 congr 1
 apply fZ (by rw [wV,iH,iH])
 intro i h1 h2
 rw [Eu]
 simp only [dO,jh]
 by_cases e:n=i
 ·subst e
  rw [if_pos rfl,if_neg (Nat.lt_irrefl n),if_pos rfl]
 ·rw [if_neg e]
  by_cases e2:i<n
  ·rw [if_pos e2,if_pos e2]
  ·rw [if_neg e2,if_neg (fun h=>e h.symm),if_neg e2,if_neg (fun h=>e h.symm)]
theorem JY (x:NC)(w w':N5→Int):jZ (dN x w)=jZ (dN x w'):=by
 unfold jZ dN jU
 simp [Function.comp_def]
theorem Za (U V:N5→Int)(k:Nat)(l:List N5):(dZ U V k l).map (fun x=>x.1)=l.map fun x=>(x.1:Int):=by
 unfold dZ
 rw [fC,oO,oO]
 have:∀ w:N5→Int,((fun x:Stp=>x.1) ∘ iI w)=fun x=>(x.1:Int):=fun w=>rfl
 rw [this,this,← fC,MP]
theorem Zc:(dO U V E n k).map jZ=(E.map gI).map jZ:=by
 apply fZ (by simp [iH])
 intro i h1 h2
 rw [iZ,iZ,iZ]
 simp only [dO,jh]
 split
 ·exact JY _ _ _
 ·split
  ·unfold jZ jU gI dN
   dsimp only
   rw [Za,xJ]
   simp [Function.comp_def]
  ·exact JY _ _ _
theorem VI (i:Nat)(c:Int):ah (dO U V E n k) i c=ah (E.map gI) i c:=Cj Zc _ _
theorem RU {i:Nat} (h:i<E.length):((dO U V E n k)[i]'(by rw [iH];exact h)).stops.length=E[i].l.length:=by
 simp only [dO,jh]
 split
 ·exact aH _
 ·split
  ·exact xJ _ _ _ _
  ·exact aH _
end
theorem RJ {E:List NC} {i:Nat} (h:i<E.length):(E[i]?).getD ⟨false,0,0,false,[]⟩=E[i]:=by rw [aI h];rfl
theorem ahE {s:Int} {E:List NC} {i k:Nat} (hi:i<E.length) (h0:∀ j (hj:j<E.length),j<i→E[j].l.any (rC s E j)=false) (hk:k<E[i].l.length) (h1:rC s E i E[i].l[k]=true):qZ s E=some i:=by
 unfold qZ
 have e:List.range E.length=List.range i++i::List.range' (i+1) (E.length-(i+1)):=by
  obtain ⟨d,hd⟩:∃ d,E.length-(i+1)=d:=⟨_,rfl⟩
  rw [hd,show E.length=i+(d+1) by omega,Me,Me,← List.range'_append_1,MK]
  simp
 rw [e,Td,List.find?_eq_none.2 fun j hj=>by
  have hj2:=List.mem_range.1 hj
  rw [RJ (by omega),h0 j (by omega) hj2];decide]
 rw [Option.none_or,List.find?_cons_of_pos]
 rw [RJ hi]
 exact List.any_eq_true.2 ⟨_,dS hk,h1⟩
theorem Y3 {s:Int} {E:List NC} (h0:∀ j (hj:j<E.length),E[j].l.any (rC s E j)=false):qZ s E=none:=by
 unfold qZ
 rw [yx]
 intro j hj
 have hj2:=List.mem_range.1 hj
 rw [RJ hj2,h0 j hj2];decide
theorem ahz {α:Type} {f:α→Bool} {l:List α} (h:∀ k(hk:k<l.length),f l[k]=false):l.any f=false:=by
 rw [Ep]
 intro x hx
 obtain⟨k,hk,rfl⟩:=List.mem_iff_getElem.1 hx
 rw [h k hk];decide
section
variable {s:Int} {n:Nat} {W:List (List UInt8)}
theorem VN {i:Nat} {w:List UInt8} {x:N5} (hi:i<n) (h:dR s n i w=some (some x)):x.1=i+1:=by
 unfold dR at h
 rw [if_pos hi] at h
 split at h
 ·cases h
 ·obtain ⟨y,hy,e⟩:=Option.map_eq_some_iff.1 h
  cases e
  exact aei (c:=i+1) au hy
theorem aeD {i:Nat} {w:List UInt8} {x:N5} (hi:n≤i)(h:dR s n i w=some (some x)):s=4∨6<x.1:=by
 unfold dR at h
 rw [if_neg (by omega)]at h
 obtain⟨y,hy,e⟩:=Option.map_eq_some_iff.1 h
 cases e
 exact aej hy
theorem zi {i:Nat} {w:List UInt8} (hi:n≤i)(h:(dR s n i w).isSome=true):∃ x,dR s n i w=some (some x):=by
 unfold dR at h ⊢
 rw [if_neg (by omega)]at h ⊢
 cases hc:jr s 0 w with
 | none=>rw [hc]at h;cases h
 | some x=>exact⟨x,rfl⟩
theorem wG {k:Nat} (h:k<W.length) {x:N5} (hx:dR s n k W[k]=some (some x)):qx s n W k=[x]:=by rw [DR h,hx];rfl
theorem Py {k:Nat} (h:k<W.length)(hx:dR s n k W[k]=some none):qx s n W k=[]:=by rw [DR h,hx];rfl
theorem DU {i:Nat} (hi:i<n) {y:N5} (hy:y∈qx s n W i):y.1=i+1:=by
 unfold qx at hy
 cases hw:dR s n i ((W[i]?).getD [])with
 | none=>rw [hw]at hy;cases hy
 | some o =>
  rw [hw]at hy
  cases o with
  | none=>cases hy
  | some z =>
   obtain rfl:y=z:=by simpa using hy
   exact VN hi hw
theorem J7 {i:Nat} (hi:n≤i) {y:N5} (hy:y∈qx s n W i):s=4∨6<y.1:=by
 unfold qx at hy
 cases hw:dR s n i ((W[i]?).getD [])with
 | none=>rw [hw]at hy;cases hy
 | some o =>
  rw [hw]at hy
  cases o with
  | none=>cases hy
  | some z =>
   obtain rfl:y=z:=by simpa using hy
   exact aeD hi hw
theorem wE {k:Nat} {y:N5}:y∈jd s n W k↔∃ i,i<k∧y∈qx s n W i:=by
 unfold jd
 rw [List.mem_flatMap]
 exact⟨fun⟨i,h1,h2⟩=>⟨i,List.mem_range.1 h1,h2⟩,fun⟨i,h1,h2⟩=>⟨i,List.mem_range.2 h1,h2⟩⟩
theorem VO (i:Nat):(qx s n W i).length≤1:=by
 unfold qx
 cases ((dR s n i ((W[i]?).getD [])).getD none)<;>simp
theorem Cb {a b:List N5} (ha:jD a) (hb:jD b) (h:∀ x∈a,∀ y∈b,x.1<y.1):jD (a++b):=List.pairwise_append.2 ⟨ha,hb,h⟩
theorem Ce {l:List N5} (h:l.length≤1):jD l:=by
 match l,h with
 | [],_=>exact List.Pairwise.nil
 | [x],_=>exact List.pairwise_singleton _ _
theorem abS:∀ {k:Nat},k≤n→jD (jd s n W k)
 | 0,_=>List.Pairwise.nil
 | k+1,h=>by
  rw [xH]
  refine Cb (abS au) (Ce (VO k)) fun x hx y hy=>?_
  obtain ⟨i,hi,hxi⟩:=wE.1 hx
  rw [DU (by omega) hxi,DU (by omega) hy];omega
noncomputable def xI (s:Int)(n:Nat)(W:List (List UInt8))(k:Nat):Nat:=if k≤n then 0 else (((qx s n W (k-1)).head?).getD (0,0,0,0,0)).1
theorem Pm {k:Nat} (h:k≤n):xI s n W k=0:=if_pos h
theorem Pn {k:Nat} (h:n≤k) {x:N5} (hx:qx s n W k=[x]):xI s n W (k+1)=x.1:=by
 unfold xI
 rw [if_neg (by omega),Nat.add_sub_cancel,hx];rfl
theorem aef {k:Nat} (h6:n≤6) (h4:s=4→n=0) (hk:n≤k) (hok:∀ i (h:i<W.length),i<k→(dR s n i W[i]).isSome=true) (hkl:k≤W.length) (ha:jD (jd s n W k)) {x:N5} (hx:qx s n W k=[x]) :
  jD (jd s n W (k+1))↔xI s n W k<x.1:=by
 have hx1:=RV (s:=s) (n:=n) (W:=W) (i:=k) (x:=x) (by rw [hx];simp)
 rw [xH,hx]
 by_cases e:k=n
 ·subst e
  rw [Pm (bJ _)]
  refine ⟨fun _=>by omega,fun _=>Cb ha (Ce (by simp)) fun y hy z hz=>?_⟩
  obtain rfl:=List.mem_singleton.1 hz
  obtain ⟨i,hi,hyi⟩:=wE.1 hy
  have h1:=DU hi hyi
  rcases J7 (s:=s) (n:=k) (W:=W) (bJ k) (by rw [hx];simp:z∈_) with h5|h5
  ·have:=h4 h5;omega
  ·omega
 ·obtain ⟨j,rfl⟩:∃ j,k=j+1:=⟨k-1,by omega⟩
  obtain ⟨y,hy⟩:=zi (i:=j) au (hok j au au)
  have hyx:=wG au hy
  rw [Pn (by omega) hyx]
  rw [xH,hyx] at ha ⊢
  constructor
  ·intro h
   exact (List.pairwise_append.1 h).2.2 y (by simp) x (by simp)
  ·intro h
   refine Cb ha (Ce (by simp)) fun z hz u hu=>?_
   obtain rfl:=List.mem_singleton.1 hu
   rcases List.mem_append.1 hz with q|q
   ·have:=(List.pairwise_append.1 ha).2.2 z q y (by simp)
    omega
   ·obtain rfl:=List.mem_singleton.1 q
    exact h
theorem YW {a b:List N5} (h:a <+: b)(hb:jD b):jD a:=hb.sublist h.sublist
def RN:List N5→N5→List N5
 | [],x=>[x]
 | y::r,x=>if y.1<x.1 then y::RN r x else x::y::r
end
inductive UR where
 | ok (res:AV)(M':List (Nat×AO))(dh:Nat)
 | er (pv:Value)
def Ou (B:World→View→Prop)(g:Nat)(P:Program)(f:FuncId)(args:List AV)(M:List (Nat×AO))(nk:Nat):UR→Prop
 | .ok res M' dh=>jI B g P f args M nk res M' dh
 | .er pv=>Ud B g P f args M nk pv
def auP (P:Program)(fn:Func)(C:Cx):UR→Exit→St→Prop
 | .ok res M' dh=>sK P fn C res M' dh
 | .er pv=>fun e _=>e=.panic (pch pv)
theorem Ou.intro {B:World→View→Prop} {g:Nat} (hS:QJ B g) {P:Program} {f:FuncId} {fn:Func} {c:Code} {args:List AV} {M:List (Nat×AO)} {nk:Nat} {r:UR} (hf:P.funcs[f]?=some fn) (hb:fn.body=some c) {N:Nat} (hN:fn.ntmps=N) (hn:args.length≤N)
  (hp:args.all (AV.inn nk)=true)
  (h:∀ w0 F0 fp pg,Holds B g ⟨w0,F0,N,fp,nk,pg,[]⟩→W P ⟨w0,F0,N,fp,nk,pg,[]⟩ c ⟨number 0 args,M,nk⟩ (auP P fn ⟨w0,F0,N,fp,nk,pg,[]⟩ r)):Ou B g P f args M nk r:=by
 cases r with
 | ok res M' dh=>exact jI.intro hS hf hb hN hn hp h
 | er pv=>exact Ud.intro hS hf hb hN hn hp h
theorem Ou.ok_ {B:World→View→Prop} {g:Nat} {P:Program} {f:FuncId} {args:List AV} {M:List (Nat×AO)} {nk:Nat} {r:UR} {res:AV} {M':List (Nat×AO)} {dh:Nat} (h:Ou B g P f args M nk r)(e:r=.ok res M' dh):jI B g P f args M nk res M' dh:=by subst e;exact h
theorem Ou.er_ {B:World→View→Prop} {g:Nat} {P:Program} {f:FuncId} {args:List AV} {M:List (Nat×AO)} {nk:Nat} {r:UR} {pv:Value} (h:Ou B g P f args M nk r)(e:r=.er pv):Ud B g P f args M nk pv:=by subst e;exact h
section
variable {B:World→View→Prop} {gl:Nat} {P:Program} {f:FuncId} {args:List AV} {res:AV} {M M' X:List (Nat×AO)} {nk dh:Nat}
theorem Kept.apN {S S':Nat→Prop} {w w':World} (h:Kept S w w')(hs:∀ x,S x→S' x):Kept S' w w':=⟨h.os,h.tape,h.output,h.size,fun i hi hn=>h.block i hi fun x=>hn (hs i x)⟩
theorem X5.fr {G:Gh} {w:World} (hO:X5 G w (M++X) nk):X5 G w M nk∧∀ k o,look k M=some o→look k (M++X)=some o:=by
 have hM:∀ k o,look k M=some o→look k (M++X)=some o:=fun k o h=>by rw [wu,h];rfl
 exact ⟨⟨hO.fw,fun k o h=>hO.ob k o (hM k o h),fun k o x h=>hO.my k o x (hM k o h),fun k o k' o' x h h'=>hO.dj k o k' o' x (hM k o h) (hM k' o' h'),fun k o x p u h=>hO.dF k o x p u (hM k o h)⟩,hM⟩
theorem jI.frame (h:jI B gl P f args M nk res M' dh) (hX:∀ k o,look k X=some o→look k M=none∧look k M'=none):jI B gl P f args (M++X) nk res (M'++X) dh:=by
 intro w G vs hB hlo hO hl hR
 obtain ⟨hO1,hM⟩:=hO.fr
 have hXl:∀ k o,look k X=some o→look k (M++X)=some o:=fun k o h=>by rw [wu,(hX k o h).1,h];rfl
 have hf:∀ x,vX G M x→vX G (M++X) x:=fun x ⟨k,o,h1,h2⟩=>⟨k,o,hM k o h1,h2⟩
 have hnX:∀ k o x,look k X=some o→G.fp k x→¬ vX G M x:=fun k o x h1 h2 ⟨k',o',h3,h4⟩=>by
  have:=hO.dj k o k' o' x (hXl k o h1) (hM k' o' h3) h2 h4
  subst this
  rw [(hX k o h1).1] at h3;cases h3
 refine (h w G vs hB (fun x hx=>hlo x (hf x hx)) hO1 hl hR).mono ?_
 rintro e w1 ⟨v,G',he,q1,q2,q3,q4,q5,q6,q7,q8,q9⟩
 let yc:Gh:=⟨G'.F,G'.b,G'.n,G'.h,fun k=>match look k M' with
  | some _=>G'.fp k
  | none=>G.fp k⟩
 have hfM:∀ k o,look k M'=some o→yc.fp k=G'.fp k:=fun k o h=>by
  exact ak7
 have hfX:∀ k,look k M'=none→yc.fp k=G.fp k:=fun k h=>by
  exact ak7
 have hle1:G'.le yc dh:=⟨fun _ _ h=>h,fun _ _=>rfl,fun _ _=>rfl,fun _ _=>rfl⟩
 have hle0:G.le yc nk:=⟨q2,fun k hk=>(q6 k hk).1,fun k hk=>(q6 k hk).2.1,fun k hk=>(q6 k hk).2.2⟩
 have hlk:∀ k o,look k (M'++X)=some o→(look k M'=some o)∨(look k M'=none∧look k X=some o):=fun k o h=>by
  rw [wu] at h
  cases hm:look k M' with
  | some x=>rw [hm] at h;exact .inl h
  | none=>rw [hm] at h;exact .inr ⟨rfl,h⟩
 have hold:∀ k o x,look k X=some o→G.fp k x→x < w.heap.size:=fun k o x h1 h2=>hO.my k o x (hXl k o h1) h2
 have hnew:∀ k o x,look k M'=some o→G'.fp k x→w.heap.size≤x∨vX G M x:=q5
 refine ⟨v,yc,he,q1.apN hf,q2,fun p u hp=>?_,⟨q4.fw,fun k o hk=>?_,fun k o x hk hx=>?_,fun k o k' o' x hk hk' hx hx'=>?_,fun k o x p u hk hx hp=>?_⟩,fun k o x hk hx=>?_,q6,q7,q8,q9.mono hle1 q8⟩
 ·rcases q3 p u hp with g|g|g
  ·exact .inl g
  ·exact .inr (.inl g)
  ·exact .inr (.inr (hf _ g))
 ·rcases hlk k o hk with g|⟨g1,g2⟩
  ·obtain ⟨a1,a2,a3⟩:=q4.ob k o g
   exact ⟨a1,a2,a3.keep hle1 a1 a2 (hfM k o g) fun _ _=>rfl⟩
  ·obtain ⟨a1,a2,a3⟩:=hO.ob k o (hXl k o g2)
   exact ⟨lH a1 q7,AO.QL q7 a2,a3.keep hle0 a1 a2 (hfX k g1) fun x hx=>q1.block x (hold k o x g2 hx) (hnX k o x g2 hx)⟩
 ·rcases hlk k o hk with g|⟨g1,g2⟩
  ·rw [hfM k o g] at hx;exact q4.my k o x g hx
  ·rw [hfX k g1] at hx;exact lH (hold k o x g2 hx) q1.size
 ·rcases hlk k o hk with g|⟨g1,g2⟩<;>rcases hlk k' o' hk' with g'|⟨g1',g2'⟩
  ·rw [hfM k o g] at hx;rw [hfM k' o' g'] at hx';exact q4.dj k o k' o' x g g' hx hx'
  ·rw [hfM k o g] at hx;rw [hfX k' g1'] at hx'
   rcases hnew k o x g hx with z|z
   ·have:=hold k' o' x g2' hx';omega
   ·exact absurd z (hnX k' o' x g2' hx')
  ·rw [hfM k' o' g'] at hx';rw [hfX k g1] at hx
   rcases hnew k' o' x g' hx' with z|z
   ·have:=hold k o x g2 hx;omega
   ·exact absurd z (hnX k o x g2 hx)
  ·rw [hfX k g1] at hx;rw [hfX k' g1'] at hx'
   exact hO.dj k o k' o' x (hXl k o g2) (hXl k' o' g2') hx hx'
 ·rcases hlk k o hk with g|⟨g1,g2⟩
  ·rw [hfM k o g] at hx;exact q4.dF k o x p u g hx hp
  ·rw [hfX k g1] at hx
   rcases q3 p u hp with z|z|z
   ·exact hO.dF k o x p u (hXl k o g2) hx z
   ·have:=hold k o x g2 hx;omega
   ·exact fun e=>hnX k o x g2 hx (e ▸ z)
 ·rcases hlk k o hk with g|⟨g1,g2⟩
  ·rw [hfM k o g] at hx
   rcases hnew k o x g hx with z|z
   ·exact .inl z
   ·exact .inr (hf _ z)
  ·rw [hfX k g1] at hx
   exact .inr ⟨k,o,hXl k o g2,hx⟩
theorem ahl {k:Nat} {o a b:AO} (h:look k [(1,a),(2,b)]=some o):k=1∨k=2:=by
 by_cases e:k=1
 ·exact .inl e
 ·by_cases e2:k=2
  ·exact .inr e2
  ·rw [aj e,aj e2]at h;cases h
theorem jI.fr2 {o o' a b:AO} (h:jI B gl P f args [(0,o)] nk res [(0,o')] dh):jI B gl P f args [(0,o),(1,a),(2,b)] nk res [(0,o'),(1,a),(2,b)] dh :=
 jI.frame (X:=[(1,a),(2,b)]) h fun k ob hk=>by
  rcases ahl hk with rfl|rfl<;>exact⟨rfl,rfl⟩
theorem Ud.frame {pv:Value} (h:Ud B gl P f args M nk pv):Ud B gl P f args (M++X) nk pv:=by
 intro w G vs hB hlo hO hl hR
 obtain⟨hO1,hM⟩:=hO.fr
 have hf:∀ x,vX G M x→vX G (M++X) x:=fun x⟨k,o,h1,h2⟩=>⟨k,o,hM k o h1,h2⟩
 exact (h w G vs hB (fun x hx=>hlo x (hf x hx)) hO1 hl hR).mono fun e w1⟨g1,g2,g3⟩=>⟨g1,g2.apN hf,g3⟩
end
def Uk (P:Program)(f:FuncId)(args:List AV)(M:List (Nat×AO))(nk:Nat)(u u':FrameMode)(M':List (Nat×AO)):Prop :=
 ∀ (w:World)(G:Gh)(vs:List Value),X5 G w M nk→vs.length=args.length→(∀ (i:Nat) av u,args[i]?=some av→vs[i]?=some u→R G av u) →
  CallsD P f vs.toArray u w fun e u2 w'=>u2=u'∧∃ v G',e=.returned v∧Kept (vX G M) w w'∧View.le G.F G'.F∧(∀ p u,G'.F p=some u→G.F p=some u∨w.heap.size≤p.block∨vX G M p.block)∧X5 G' w' M' nk ∧
   (∀ k o x,look k M'=some o→G'.fp k x→w.heap.size≤x∨vX G M x)∧(∀ k,k<nk→G'.b k=G.b k∧G'.n k=G.n k∧G'.h k=G.h k)
theorem Uk.intro {P:Program} {f:FuncId} {fn:Func} {id:Nat} {o:Oper} {d:Tmp} {c:Code} {args:List AV} {M:List (Nat×AO)} {nk:Nat} {res:AV} {M':List (Nat×AO)} {u u':FrameMode} {rv:Value} (hf:P.funcs[f]?=some fn) (hb:fn.body=some (.seq (.region id #[o] false) c)) {N:Nat} (hN:fn.ntmps=N) (hn:args.length≤N)
  (hp:args.all (AV.inn nk)=true) (hg:o.guard=none) (hd:o.dst=some d) (hdN:Nat.blt d N=true) (ho:∀ (a:Act) w,(execOp a.eval o).run P w=.ok .recover w)
  (hrec:∀ (c₀:Frame) (cs:List Frame),c₀.mode=u→recoverD (c₀::cs)=some (rv,{ c₀ with mode:=u' }::cs)∨(recoverD (c₀::cs)=none∧rv=.nilIface∧u'=u))
  (h:∀ w0 F0 fp pg,W P ⟨w0,F0,N,fp,nk,pg,[]⟩ c ⟨(d,.sc rv)::number 0 args,M,nk⟩ (sK P fn ⟨w0,F0,N,fp,nk,pg,[]⟩ res M' nk)):Uk P f args M nk u u' M':=by
 intro w G vs hO hl hR
 subst hN
 refine callsD_of_wpS hf hb fun c₀ cs hu=>?_
 refine wpS_seq (wpS_region ?_)
 have ok0:Ok ⟨w,G.F,fn.ntmps,vX G M,nk,G,[]⟩ ⟨number 0 args,M,nk⟩ G { tmps:=vs.toArray++Array.replicate (fn.ntmps - vs.toArray.size) undef,defers:=[] } w :=
  ⟨by simp;omega,⟨rfl,bJ _,fun k _=>⟨rfl,rfl,rfl⟩⟩,fun i av hx=>by
   obtain ⟨_,h2⟩:=kZ args 0 i av hx
   simp only [F7] at h2
   have hi:i < args.length:=(List.getElem?_eq_some_iff.1 h2).1
   have hv:i < vs.length:=by omega
   refine ⟨by show i < fn.ntmps;omega,E8 (List.all_eq_true.1 hp av (cO h2)),hR i av _ h2 ?_⟩
   simp [dM,Es,hv],
   Kept.refl _ _,hO.fw,fun _ _ h=>h,fun _ _ h=>.inl h,hO.ob,(fun k o x h1 h2=>⟨.inr ⟨k,o,h1,h2⟩,hO.my k o x h1 h2⟩),hO.dj,hO.dF⟩
 have ok1:=ok0.set (d:=some d) (av:=.sc rv) (v:=rv) (.pu _ _ (.sc _)) (.sc _) (fun x hx=>by cases hx;exact dP hdN)
 have h1:=h w G.F (vX G M) G G _ w ok1
 have hw:∀ y,Region.wanted o y=true:=fun y=>by unfold Region.wanted;rw [hg]
 have hfin:∀ u2,u2=u'→Code.wpS P c (bodyPostS P fn c₀ cs fun e u2 w'=>u2=u'∧∃ v G',e=.returned v∧Kept (vX G M) w w'∧View.le G.F G'.F∧(∀ p u,G'.F p=some u→G.F p=some u∨w.heap.size≤p.block∨vX G M p.block)∧X5 G' w' M' nk ∧
   (∀ k o x,look k M'=some o→G'.fp k x→w.heap.size≤x∨vX G M x)∧(∀ k,k < nk→G'.b k=G.b k∧G'.n k=G.n k∧G'.h k=G.h k))
   (({ tmps:=vs.toArray++Array.replicate (fn.ntmps - vs.toArray.size) undef,defers:=[] }:Act).put o.dst rv) ({ c₀ with mode:=u2 }::cs) w:=fun u2 e2=>by
  subst e2
  rw [hd]
  refine wpS_of_wp (wp_mono h1 fun e a w' ⟨σ,G1,⟨he,hfin⟩,ok⟩=>?_)
  obtain ⟨v,G',hr,ok',hbd,hres⟩:=hfin G1 a w' ok
  rcases he with rfl|rfl
  all_goals
   exact ⟨ok'.df.1,_,rfl,v,hr,rfl,v,G',rfl,ok'.bel,ok'.f0,ok'.f1,⟨ok'.fw,ok'.ob,fun k o x h1 h2=>(ok'.my k o x h1 h2).2,ok'.dj,ok'.dF⟩,fun k o x h1 h2=>(ok'.my k o x h1 h2).1,ok'.df.2.2⟩
 show wpOpsS P #[o] _ [0] _ _ _
 unfold wpOpsS
 simp only [List.getElem?_toArray,List.getElem?_cons_zero,hw,if_true,ho]
 rcases hrec c₀ cs hu with e|⟨e,rfl,e2⟩
 ·rw [e]
  exact hfin _ rfl
 ·rw [e]
  exact hfin c₀.mode (hu.trans e2.symm)
def aed:Exit→Option FrameMode
 | .normal|.ret=>some .returning
 | .panic ch=>some (.panicking ch)
 | _=>none
section
variable {P:Program} {C:Cx} {σ:St} {G:Gh} {a:Act} {w:World}
theorem at6 (ok:Ok C σ G a w) (hds:C.ds=[]) {id:Nat} {o1 o2:Oper} {Q:Exit→Act→World→Prop} {f:FuncId} {xs:Array Operand} {caps:List AV} {d1:Tmp} (hg1:o1.guard=none) (ho1:o1.op=.makeFunc (.func f) #[] xs) (hd1:o1.dst=some d1) (hN:Nat.blt d1 C.N=true) (hx:σ.evs xs.toList=some caps)
  (hg2:o2.guard=none) (ho2:o2.op=.defer { callee:=.value (.tmp d1),args:=#[],argTypes:=#[] }) (hd2:o2.dst=none)
  (h:∀ G' a' w' cs,Ok ⟨C.w0,C.F0,C.N,C.fp,σ.nk,G',[⟨.fn (.func f) cs,#[]⟩]⟩ (σ.put d1 (.fn f caps)) G' a' w'→cs.size=caps.length→(∀ (i:Nat) av u,caps[i]?=some av→cs[i]?=some u→R G' av u)→Q .normal a' w') :
  (Code.region id #[o1,o2] false).wp P Q a w:=by
 refine wp_region_lit (l:=[o1,o2]) ?_
 refine wpList_plain hg1 fun K hK=>?_
 refine WO.Wh hd1 hN (WV.mkf ho1 hx) G a w ok K _ fun G' a' w' ok'=>hK _ _ ?_
 refine wpList_plain hg2 fun K' hK'=>?_
 have hs:(σ.put d1 (.fn f caps)).ev (.tmp d1)=some (.fn f caps):=aA
 obtain ⟨cs,e,h1,h2⟩:=(ok'.nO hs).2.A8
 refine lJ ?_
 have e3:(#[]++(#[]:Array Operand).map a'.eval:Array Value)=#[]:=by simp
 simp only [ho2,resolve,e,Deferred.ofValue,Sem.run_bind,Sem.run_pure,Result.andThen_ok,Oper.upon,e3]
 refine hK' _ _ (wpList_nil ?_)
 refine h G' _ w' cs ?_ h1 h2
 rw [hd2]
 exact ⟨ok'.sz,⟨by show _::a'.defers=_;rw [ok'.df.1,hds],bJ _,fun k _=>⟨rfl,rfl,rfl⟩⟩,ok'.tm,ok'.bel,ok'.fw,ok'.f0,ok'.f1,ok'.ob,ok'.my,ok'.dj,ok'.dF⟩
theorem Ok.arK {T:List (Nat×AV)} {Mi Mf:List (Nat×AO)} {nk:Nat} {w':World} {G':Gh} (ok:Ok C ⟨T,Mi,nk⟩ G a w) (h1:Kept (vX G Mi) w w') (h2:View.le G.F G'.F) (h3:∀ p u,G'.F p=some u→G.F p=some u∨w.heap.size≤p.block∨vX G Mi p.block) (h4:X5 G' w' Mf nk)
  (h5:∀ k o x,look k Mf=some o→G'.fp k x→w.heap.size≤x∨vX G Mi x) (h6:∀ k,k<nk→G'.b k=G.b k∧G'.n k=G.n k∧G'.h k=G.h k):Ok C ⟨T,Mf,nk⟩ G' a w':=by
 have hmay:∀ x,w.heap.size≤x∨vX G Mi x→C.may x:=fun x hx=>hx.elim (fun h=>.inl (jV ok.bel.size h)) fun ⟨k,o,g1,g2⟩=>(ok.my k o x g1 g2).1
 have hle:G.le G' nk:=⟨h2,fun k hk=>(h6 k hk).1,fun k hk=>(h6 k hk).2.1,fun k hk=>(h6 k hk).2.2⟩
 refine ⟨ok.sz,⟨ok.df.1,ok.df.2.1,fun k hk=>?_⟩,fun i av h=>?_,ok.bel.on h1 fun x hx=>hmay x (.inr hx),h4.fw,fun p u x=>h2 p u (ok.f0 p u x),fun p u x=>?_,h4.ob,fun k o x g1 g2=>⟨hmay x (h5 k o x g1 g2),h4.my k o x g1 g2⟩,h4.dj,h4.dF⟩
 ·obtain ⟨g1,g2,g3⟩:=ok.df.2.2 k hk
  obtain ⟨e1,e2,e3⟩:=h6 k (lH hk ok.df.2.1)
  exact ⟨e1.trans g1,e2.trans g2,e3.trans g3⟩
 ·obtain ⟨g1,g2,g3⟩:=ok.tm i av h
  exact ⟨g1,g2,g3.mono hle g2⟩
 ·rcases h3 p u x with g|g
  ·exact ok.f1 p u g
  ·exact .inr (hmay _ g)
end
def ay2(n:Nat):AV→Bool
 | .pt k _ _=>Nat.blt k n
 | _=>false
theorem kJ.asT {B:World→View→Prop} {g:Nat} (hS:QJ B g) {P:Program} {f fD:FuncId} {fn:Func} {c0 c1 c2:Code} {id:Nat} {o1 o2:Oper} {args caps:List AV} {res:AV} {xs:Array Operand} {d1:Tmp} {σ0 σ1:St} {T:List (Nat×AV)} {Mi Mf:List (Nat×AO)} {u u':FrameMode} {nk:Nat} (hf:P.funcs[f]?=some fn) (hb:fn.body=some (c0.seq (c1.seq ((Code.region id #[o1,o2] false).seq c2)))) {N:Nat} (hN:fn.ntmps=N) (hn:args.length≤N) (hp:∀ (i:Nat) av,args[i]?=some av→Bd 0 av)
  (hg1:o1.guard=none) (ho1:o1.op=.makeFunc (.func fD) #[] xs) (hd1:o1.dst=some d1) (hdN:Nat.blt d1 N=true) (hx:σ1.evs xs.toList=some caps) (hg2:o2.guard=none) (ho2:o2.op=.defer { callee:=.value (.tmp d1),args:=#[],argTypes:=#[] }) (hd2:o2.dst=none) (hnk:σ1.nk=nk) (hcap:caps.all (ay2 nk)=true)
  (hcf:∀ vs w,(callFunc fD vs).run P w=.ok (.enter fD vs) w)
  (h0:∀ w0 F0,Holds B g ⟨w0,F0,N,fun _=>False,0,G0,[]⟩→W P ⟨w0,F0,N,fun _=>False,0,G0,[]⟩ c0 (St.init args) (fun e s=>e=.normal∧Tr ⟨w0,F0,N,fun _=>False,0,G0,[]⟩ s σ0))
  (h1:∀ w0 F0,Holds B g ⟨w0,F0,N,fun _=>False,0,G0,[]⟩→W P ⟨w0,F0,N,fun _=>False,0,G0,[]⟩ c1 σ0 (fun e s=>e=.normal∧Tr ⟨w0,F0,N,fun _=>False,0,G0,[]⟩ s σ1))
  (h2:∀ w0 F0 pg ds,Holds B g ⟨w0,F0,N,fun _=>False,nk,pg,ds⟩→W P ⟨w0,F0,N,fun _=>False,nk,pg,ds⟩ c2 (σ1.put d1 (.fn fD caps)) (fun e s=>aed e=some u∧Tr ⟨w0,F0,N,fun _=>False,nk,pg,ds⟩ s ⟨T,Mi,nk⟩))
  (hD:Uk P fD caps Mi nk u u' Mf) (hs:settle u'=.returning) (hR:∀ C,Fin P fn C ⟨T,Mf,nk⟩ res):kJ B P f args res:=by
 intro w F vs hB hF hRL
 subst hN hnk
 refine calls_of_wp_defers hf hb ?_
 have hsz:vs.toArray.size=args.length:=by simpa using hRL.1
 have hH:∀ np pg ds,Holds B g ⟨w,F,fn.ntmps,fun _=>False,np,pg,ds⟩:=fun np pg ds=>⟨fun w2 F2 k1 k2=>hS.2 w w2 F F2 (fun i hi=>k1.block i (lH hi (hS.1 w F hB)) fun h=>h) k2 hB,fun x hx=>hx.elim (fun h=>jV (hS.1 w F hB) h) fun h=>h.elim⟩
 have ok0:Ok ⟨w,F,fn.ntmps,fun _=>False,0,G0,[]⟩ (St.init args) ⟨F,fun _=>0,fun _=>0,fun _=>undef,fun _ _=>False⟩ { tmps:=vs.toArray++Array.replicate (fn.ntmps - vs.toArray.size) undef,defers:=[] } w :=
  ⟨by simp;have:=hRL.1;omega,⟨rfl,bJ _,fun k hk=>absurd hk (Ic k)⟩,fun i av hx=>by
   obtain ⟨_,h2⟩:=kZ args 0 i av hx
   simp only [F7] at h2
   have hi:i < args.length:=(List.getElem?_eq_some_iff.1 h2).1
   have hv:i < vs.length:=by rw [hRL.1];exact hi
   refine ⟨by show i < fn.ntmps;omega,hp i av h2,.pu _ _ (hRL.2 i av _ h2 ?_)⟩
   simp [dM,Es,hv],
   Kept.refl _ _,hF,fun _ _ h=>h,fun _ _ h=>.inl h,(fun k o h=>by cases h),(fun k o x h=>by cases h),(fun k o k' o' x h=>by cases h),(fun k o x p u h=>by cases h)⟩
 refine wp_seq (wp_mono (h0 w F (hH _ _ _) _ _ _ ok0) fun e a1 w1 ⟨s1,G1',⟨he,hs1⟩,azd⟩=>?_)
 subst he
 obtain ⟨G1,ok1⟩:=hs1 _ _ _ azd
 refine wp_seq (wp_mono (h1 w F (hH _ _ _) _ _ _ ok1) fun e a2 w2 ⟨s2,G2',⟨he,hs2⟩,aze⟩=>?_)
 subst he
 obtain ⟨G2,ok2⟩:=hs2 _ _ _ aze
 refine wp_seq (at6 ok2 rfl hg1 ho1 hd1 hdN hx hg2 ho2 hd2 fun G3 a3 w3 cs ok3 hcs hcR=>?_)
 refine wp_mono (h2 w F G3 _ (hH _ _ _) G3 a3 w3 ok3) fun e a4 w4 ⟨s4,G4,⟨he,htr⟩,ok4⟩=>?_
 obtain ⟨G5,ok5⟩:=htr G4 a4 w4 ok4
 have hun:u≠.run:=by
  intro e2;subst e2;cases e<;>cases he
 have hl:Leaves P fn a4.tmps (fun e w'=>∃ v F',e=.returned v∧Below w.heap.size w w'∧View.le F F'∧(∀ p u,F' p=some u→w'.cell? p=some u)∧(∀ p u,F' p=some u→F p=some u∨w.heap.size≤p.block)∧RP F' res v) a4.defers u w4:=by
  rw [ok5.df.1]
  refine leaves_cons (f:=fD) (args:=cs) hun ?_ ?_
  ·simp [invoke,hcf]
  have hO:X5 G5 w4 Mi σ1.nk:=⟨ok5.fw,ok5.ob,fun k o x g1 g2=>(ok5.my k o x g1 g2).2,ok5.dj,ok5.dF⟩
  have hRc:∀ (i:Nat) av u,caps[i]?=some av→cs.toList[i]?=some u→R G5 av u:=fun i av u g1 g2=>by
   have r:=hcR i av u g1 (by simpa using g2)
   have hpt:=List.all_eq_true.1 hcap av (cO g1)
   cases av with
   | pt k i j =>
    have hk:k < σ1.nk:=dP hpt
    obtain ⟨p,rfl,e1,e2,e3⟩:=r.lV
    obtain ⟨q1,q2,_⟩:=ok5.df.2.2 k hk
    exact .pt k i j p (e1.trans q1.symm) (e2.trans (by rw [q2])) e3
   | _=>cases hpt
  have hc:=hD w4 G5 cs.toList hO (by simpa using hcs) hRc
  rw [aan] at hc
  refine hc.mono fun e2 u2 w5 ⟨hu2,v,G6,he2,k1,k2,k3,k4,k5,k6⟩=>?_
  subst hu2 he2
  show Leaves P fn a4.tmps _ [] (settle u2) w5
  rw [hs]
  have ok6:=ok5.arK k1 k2 k3 k4 k5 k6
  obtain ⟨v,F',hr,hle,hfw,hnew,hres⟩:=hR _ G6 a4 w5 ok6
  exact ⟨v,hr,v,F',rfl,ok6.bel.Xl (fun _ h=>h),fun p u x=>hle p u (ok6.f0 p u x),hfw,fun p u x=>(hnew p u x).elim (fun y=>(ok6.f1 p u y).elim .inl fun z=>.inr (z.elim (fun h=>h) fun h=>h.elim)) fun z=>.inr (z.elim (fun h=>h) fun h=>h.elim),hres⟩
 cases e with
 | normal=>cases he;exact hl
 | ret=>cases he;exact hl
 | panic ch=>cases he;exact hl
 | _=>cases he
section
variable {P:Program} {C:Cx} {σ:St} {ops:Array Oper} {l:List Oper} {Q Q' Q1 Q2 Q3:Exit→St→Prop}
theorem nP.mono {id:Nat} (h:∀ e s,Q e s→Q' e s):∀ e s,nP id Q e s→nP id Q' e s:=fun e s q=>by
 cases e with
 | exit id' =>
  show if id'=id then Q' .normal s else Q' (.exit id') s
  have q:if id'=id then Q .normal s else Q (.exit id') s:=q
  by_cases e:id'=id
  ·rw [if_pos e] at q ⊢;exact h _ _ q
  ·rw [if_neg e] at q ⊢;exact h _ _ q
 | _=>exact h _ _ q
theorem kD.mono {N N':St→Prop} (hN:∀ s,N s→N' s)(h:∀ e s,Q e s→Q' e s):∀ e s,kD N Q e s→kD N' Q' e s:=fun e s q=>by
 cases e with
 | normal=>exact hN s q
 | _=>exact h _ _ q
theorem WL.mono (h:WL P C ops l σ Q)(hq:∀ e s,Q e s→Q' e s):WL P C ops l σ Q':=fun G a w ok=>su (h G a w ok) fun e a w⟨s,g,q,o⟩=>⟨s,g,hq e s q,o⟩
theorem WL.aho {id:Nat} {x y:Code} (σm:St)(h:WL P C ops l σ (kD (fun s=>W P C x s (nP id (kD (fun s=>Tr C s σm) Q))) Q1))(k:W P C y σm Q2) :
  WL P C ops l σ (kD (fun s=>W P C x s (nP id (kD (fun s=>W P C y s Q2) Q))) Q1) :=
 WL.mono h (kD.mono (fun s q=>W.mono q (nP.mono (kD.mono (fun s q=>W.tr q k) fun _ _ q=>q))) fun _ _ q=>q)
theorem W.aho {id:Nat} {x y:Code} (σm:St)(h:W P C x σ (nP id (kD (fun s=>Tr C s σm) Q)))(k:W P C y σm Q2):W P C x σ (nP id (kD (fun s=>W P C y s Q2) Q)) :=
 W.mono h (nP.mono (kD.mono (fun s q=>W.tr q k) fun _ _ q=>q))
theorem sK.sub {fn:Func} {res:AV} {M' M'':List (Nat×AO)} {dh:Nat} {e:Exit} (h:sK P fn C res M' dh e σ) (hs:bP M'' M'):sK P fn C res M'' dh e σ :=
 ⟨h.1,fun G a w ok=>by
  obtain ⟨v,G',e1,ok',b,r⟩:=h.2 G a w ok
  have g:=zf hs
  exact ⟨v,G',e1,⟨ok'.sz,ok'.df,ok'.tm,ok'.bel,ok'.fw,ok'.f0,ok'.f1,fun k o x=>ok'.ob k o (g k o x),fun k o x h1 h2=>ok'.my k o x (g k o h1) h2,fun k o k' o' x h1 h2=>ok'.dj k o k' o' x (g k o h1) (g k' o' h2),fun k o x p u h1=>ok'.dF k o x p u (g k o h1)⟩,b,r⟩⟩
theorem apj {fn:Func} {bI:List AV} {res:AV} {M':List (Nat×AO)} {dh:Nat} (h:CP P σ fn.results.toList=some bI)(hp:bI.all (fun av=>!ownB av)=true)(e:resT bI=res)(hs:bP M' σ.M)(hk:σ.nk=dh):sK P fn C res M' dh .ret σ :=
 sK.sub (Au h hp e rfl hk) hs
end
section
variable {C:Cx} {σ:St}
theorem Tr.am7 (k d:Nat) {T n:Nat} {rows rows':List (List AV)} (hk:look k σ.M=some (.jM T n rows)) (hs:∀ r∈rows,∀ av∈r,av.Oo d=true) (hr:(rows.map fun r=>r.map (AV.fz d))=rows'):Tr C σ (σ.upd k (.row T n rows')):=fun G a w ok=>by
 obtain ⟨hkn,_,hb1,hb2,hb3⟩:=ok.ob k _ hk
 obtain ⟨h1,vs,Φ,h2,h3,h4,h5,h6,h7,h8,h9⟩:=hb3
 classical
 let F':View:=fun p=>if ∃ i j,Φ i j p.block then w.cell? p else G.F p
 have hF:G.F.le F':=fun p u h=>by
  show (if _ then _ else _)=_
  rw [if_neg (fun e=>by obtain ⟨i,j,e⟩:=e;exact ok.dF k _ p.block p u hk (h6 i j _ e).1 h rfl)];exact h
 have hFn:∀ p u,F' p=some u→G.F p=some u∨((∃ i j,Φ i j p.block)∧w.cell? p=some u):=fun p u h=>by
  have h:(if ∃ i j,Φ i j p.block then w.cell? p else G.F p)=some u:=h
  by_cases e:∃ i j,Φ i j p.block
  ·rw [if_pos e] at h;exact .inr ⟨e,h⟩
  ·rw [if_neg e] at h;exact .inl h
 let G':Gh:={ (G.fpk k fun x=>(G.h k).ownBlock=some x) with F:=F' }
 have hle:G.le G' σ.nk:=⟨hF,fun _ _=>rfl,fun _ _=>rfl,fun _ _=>rfl⟩
 have hfs:G'.fp k=fun x=>(G.h k).ownBlock=some x:=qw
 have hfo:∀ q,q≠k→G'.fp q=G.fp q:=fun q h=>lM h
 have hl:∀ i o,look i (σ.upd k (.row T n rows')).M=some o→(i=k∧o=.row T n rows')∨(i≠k∧look i σ.M=some o):=fun i o hx=>by
  by_cases e:i=k
  ·subst e
   rw [show look i (σ.upd i (.row T n rows')).M=some (.row T n rows') from aA] at hx
   cases hx
   exact NG
  ·rw [show look i (σ.upd k (.row T n rows')).M=look i σ.M from aj e] at hx
   exact .inr ⟨e,hx⟩
 have hφ:∀ i o x,look i (σ.upd k (.row T n rows')).M=some o→G'.fp i x→∃ o0,look i σ.M=some o0∧G.fp i x:=fun i o x h e=>by
  rcases hl i o h with⟨rfl,rfl⟩|⟨e1,y⟩
  ·rw [hfs] at e;exact ⟨_,hk,h5 x e⟩
  ·rw [hfo i e1] at e;exact ⟨_,y,e⟩
 refine ⟨G',ok.sz,ok.df,fun i av h=>⟨(ok.tm i av h).1,(ok.tm i av h).2.1,(ok.tm i av h).2.2.mono hle (ok.tm i av h).2.1⟩,ok.bel,fun p u h=>?_,fun p u h=>hF p u (ok.f0 p u h),fun p u h=>?_,fun i o h=>?_,fun i o x a1 a2=>?_,fun i o i' o' x a1 a2 a3 a4=>?_,fun i o x p u a1 a2 a3=>?_⟩
 ·exact aaD
 ·rcases hFn p u h with h|⟨⟨i,j,h⟩,_⟩
  ·exact ok.f1 p u h
  ·exact .inr (ok.my k _ _ hk (h6 i j _ h).1).1
 ·rcases hl i o h with⟨rfl,rfl⟩|⟨e,y⟩
  ·refine ⟨hkn,trivial,hb1,hb2,?_⟩
   rw [hfs,← hr]
   refine ⟨fun r hrm=>?_,vs,fun _ _ _=>False,h2,by rw [aH];exact h3,h4,fun g hg=>hg,fun _ _ _ h=>h.elim,fun _ _ _ _ _ h=>h.elim,fun q r r' b1 b2=>?_,fun q r r' j av u b1 b2 b3 b4=>?_⟩
   ·obtain ⟨r0,h0,rfl⟩:=List.mem_map.1 hrm
    rw [aH];exact h1 r0 h0
   ·rw [bT] at b1
    cases h0:rows[q]? with
    | none=>simp [h0] at b1
    | some r0 =>
     simp only [h0,oM,Option.some.injEq] at b1
     subst b1
     rw [aH];exact h8 q r0 r' h0 b2
   ·rw [bT] at b1
    cases h0:rows[q]? with
    | none=>simp [h0] at b1
    | some r0 =>
     simp only [h0,oM,Option.some.injEq] at b1
     subst b1
     rw [bT] at b3
     cases hj0:r0[j]? with
     | none=>simp [hj0] at b3
     | some av0 =>
      simp only [hj0,oM,Option.some.injEq] at b3
      subst b3
      have x:OW G.F w av0 u (Φ q j):=h9 q r0 r' j av0 u h0 b2 hj0 b4
      exact OW.fix hF d x (fun p hp=>if_pos ⟨q,j,hp⟩) (hs r0 (cO h0) av0 (cO hj0))
  ·obtain ⟨a1,a2,a3⟩:=ok.ob i o y
   exact ⟨a1,a2,a3.keep hle a1 a2 (hfo i e) fun _ _=>rfl⟩
 ·obtain ⟨o0,b1,b2⟩:=hφ i o x a1 a2
  exact ok.my i o0 x b1 b2
 ·obtain ⟨o0,b1,b2⟩:=hφ i o x a1 a3
  obtain ⟨o1,c1,c2⟩:=hφ i' o' x a2 a4
  exact ok.dj i o0 i' o1 x b1 c1 b2 c2
 ·obtain ⟨o0,b1,b2⟩:=hφ i o x a1 a2
  rcases hFn p u a3 with h|⟨⟨q,j,h⟩,_⟩
  ·exact ok.dF i o0 x p u b1 b2 h
  ·intro e
   rw [e] at h
   have hik:=ok.dj i o0 k _ x b1 hk b2 (h6 q j _ h).1
   subst hik
   rw [hfs] at a2
   exact (h6 q j _ h).2 a2
end
def awK:Op→Bool
 | .move _=>true
 | .build _ _=>true
 | .buildSlice _ _ _=>true
 | .call c=>match c.callee with
  | .builtin .append=>true
  | _=>false
 | .assign _=>true
 | .alloc _=>true
 | .box _ _=>true
 | .load _ _=>true
 | .store _ _ _=>true
 | .fieldAddr _ _ _=>true
 | .field _ _ _=>true
 | .indexAddr _ _ _=>true
 | .index _ _ _=>true
 | .nilCheck _=>true
 | .binOp _ _ _ _ _=>true
 | .extract _ _=>true
 | _=>false
structure azD (ops A:Array Oper)(π ρ:Nat→Nat)(i j:Nat):Prop where
 sz:A.size=ops.size
 lt:∀ p,p<ops.size→π p<ops.size
 inv:∀ p,p<ops.size→ρ (π p)=p
 ltr:∀ q,q<ops.size→ρ q<ops.size
 inr:∀ q,q<ops.size→π (ρ q)=q
 hi:i<ops.size
 hj:j<ops.size
 op:∀ (p:Nat)(o:Oper),ops[p]?=some o→∃ X:Array Edge,A[π p]?=some { o with after:=X }∧(∀ e∈X,Region.binds .any e=true→(∃ e'∈o.after,Region.binds .any e'=true∧e.on=π e'.on)∨(p=j∧e.on=π i)) ∧
  (∀ e'∈o.after,Region.binds .any e'=true→∃ e∈X,Region.binds .any e=true∧e.on=π e'.on)
 tm:∀ (p:Nat)(o:Oper),ops[p]?=some o→(p=i∨p=j∨awK o.op=true)∧o.guard=none∧∀ e∈o.after,e.on<ops.size
structure aAr (n:Nat)(π:Nat→Nat)(L LA:Array Bool):Prop where
 s1:L.size=n
 s2:LA.size=n
 at_:∀ p,p<n→LA.getD (π p) false=L.getD p false
end
end Go.Proofs.YthehkchjdkdbiaaGreatDoor
