/- Reading a piece: plain words: the notes of a chord ascend. -/
import Derived.Test.YthohlofpphjofaaGreatDoorFZGq
import Derived.Test.YthohlofpphjofaaGreatDoorRPcPGq
import Derived.Lib.TrimU
set_option linter.unusedVariables false
set_option linter.unusedSimpArgs false
namespace Go.Proofs.YthohlofpphjofaaGreatDoor
theorem gQ {p q:Prop}(k:q)(h:aS q→p:=by
 intro hq
 refine kX ?_
 refine kX ?_
 exact hq.k):p:=h ⟨k⟩
section
open Go.RowKit
def vH (x:Int×Int×Int):List AV:=[.sc (.int .i64 x.1),.sc (.int .i64 x.2.1),.sc (.int .i64 x.2.2)]
theorem afT(x:Int×Int×Int):∀ (i:Nat)av,(vH x)[i]?=some av→∃ u,av=.sc u∧(Hy x)[i]?=some u∧u.oneCell'=true:=by
 intro i av a
 match i with
 | 0=>cases a;exact⟨_,rfl,rfl,rfl⟩
 | 1=>cases a;exact⟨_,rfl,rfl,rfl⟩
 | 2=>cases a;exact⟨_,rfl,rfl,rfl⟩
 | i+3=>simp [vH]at a
def aaY (p:aN):List (Int×Int×Int):=if aO p=0 then nR p.evs p.evs.length else []
theorem rQ (p:aN) (hO:fH p):Ctr Tryz.prog 116 [eF p] (.tu [.ls 3 ((aaY p).map vH),.sc (.int .i64 (aO p))]):=by
 intro w F vs hF hR
 match vs,hR.1 with
 | [v],_ =>
  obtain ⟨M,rfl,hM⟩:=DW hF (hR.2 0 _ v rfl rfl)
  unfold aaY
  by_cases h0:aO p=0
  ·rw [if_pos h0,h0]
   refine (KL M p w hM hO h0).mono fun e w' ⟨v,he,hrow,hb⟩=>?_
   obtain ⟨L,hL⟩:∃ L,nR p.evs p.evs.length=L:=⟨_,rfl⟩
   rw [hL] at hrow ⊢
   have hfl:iJ L=(L.map Hy).flatten:=by unfold iJ;rw [List.flatMap_def]
   rw [hfl] at hrow
   obtain ⟨A,c,rfl,hrd,hat,hc⟩:=rd_of_own (l:=L.map Hy) hrow (fun r hr=>by obtain ⟨x,_,rfl⟩:=List.mem_map.1 hr;rfl) rfl (by simp)
   refine ⟨_,newF F w w',he,hb,uY hF,uX hF hb,qw,.tu _ _ rfl fun i av u a b=>?_⟩
   match i with
   | 0 =>
    cases a;cases b
    exact yB (F:=F) (w:=w) hrd (fun ad e=>(hat ad e).2) hc (e:=vH) (fun _=>rfl) afT
   | 1=>cases a;cases b;exact .sc _
   | i+2=>simp at a
  ·rw [if_neg h0]
   refine (Gu M p w hM hO h0).mono fun e w' ⟨he,hb⟩=>?_
   refine ⟨_,newF F w w',he,hb,uY hF,uX hF hb,qw,.tu _ _ rfl fun i av u a b=>?_⟩
   match i with
   | 0=>cases a;cases b;exact .ls 3 [] none 0 ⟨0,0,none⟩ (fun _ _=>undef) (by simp) (by simp) (by simp) (by simp) (by simp)
   | 1=>cases a;cases b;exact .sc _
   | i+2=>simp at a
theorem ach {s aQ:Int} {w:List UInt8} {n:Nat} {c f:Int} {x:Int×Int×Int} (hsp:aC s aQ=0) (h1:1≤n) (hn:n≤w.length) (hp:placeOf s aQ (w.take n)=(c,f,0)) (hm:qG s (decide (0<f)) (w.drop n)=some x) :
  ∃ c' f' r g h:Nat,c=(c':Int)∧f=(f':Int)∧BF s aQ 15 w c' f' r g h∧x=((r:Int),(g:Int),jV s h):=by
 have hs:=kD hsp
 rcases vT (w.take n) hsp with⟨c',f',p1,p2,p3,p4,p5⟩|p
 ·rw [hp] at p1
  obtain ⟨rfl,rfl⟩:c=(c':Int)∧f=(f':Int):=by
   simp_all
  obtain ⟨r,g,h,q1,q2,q3,q4,q5,q6,q7,q8,q9⟩:=amo hs hm
  obtain ⟨l1,l2⟩:=lU s c' f' hs aj aj
  have hne:rS s c' f'≠[]:=by
   grind[iC]
  have hok:Gv s c' f'=true:=by
   simp_all
  have hw:cellS s c' f' r g h 15=w:=by
   grind[cellS,Fb]
  refine ⟨c',f',r,g,h,rfl,rfl,⟨p2,p3,p4,?_⟩,q9⟩
  grind[stM,dZ]
 simp_all
theorem Aj {s aQ:Int} {w:List UInt8} {c f r g h:Nat} (hsp:aC s aQ=0) (a:BF s aQ 15 w c f r g h) :
  1≤(rS s c f).length∧(rS s c f).length≤w.length∧placeOf s aQ (w.take (rS s c f).length)=((c:Int),(f:Int),0)∧qG s (decide (0<(f:Int))) (w.drop (rS s c f).length)=some ((r:Int),(g:Int),jV s h):=by
 obtain ⟨b1,b2,b3⟩:=abU hsp a
 have hs:=kD hsp
 obtain ⟨a1,a2,a3,a4⟩:=a
 obtain ⟨a5,a6,a7⟩:=su a4
 obtain ⟨l1,l2⟩:=lU s c f hs aj aj
 unfold dZ at a6
 simp only [dw]at a6
 have hw:w=rS s c f++(rR s r++rG s g++pH s h 15):=by
  simp_all[cellS]
 refine ⟨b1,b2,b3,?_⟩
 grind[ahe]
abbrev N5:=Nat×Nat×Nat×Nat×Nat
abbrev Crs:=Int×Int×Bool
open Classical in
noncomputable def iY (s aQ:Int)(w:List UInt8):Option N5 :=
 if h:∃ x:N5,BF s aQ 15 w x.1 x.2.1 x.2.2.1 x.2.2.2.1 x.2.2.2.2 then some (Classical.choose h)else none
theorem Dp {s aQ:Int} {w:List UInt8} {c f r g h:Nat} (hsp:aC s aQ=0) (a:BF s aQ 15 w c f r g h):iY s aQ w=some (c,f,r,g,h):=by
 have ex:∃ x:N5,BF s aQ 15 w x.1 x.2.1 x.2.2.1 x.2.2.2.1 x.2.2.2.2:=⟨(c,f,r,g,h),a⟩
 unfold iY
 rw [dif_pos ex]
 obtain ⟨e1,e2,e3,e4,e5⟩:=Y0 hsp aj (Classical.choose_spec ex) a
 grind
theorem qA {s aQ:Int} {w:List UInt8} {x:N5} (h:iY s aQ w=some x):BF s aQ 15 w x.1 x.2.1 x.2.2.1 x.2.2.2.1 x.2.2.2.2:=by
 unfold iY at h
 split at h
 all_goals grind
theorem Rw {s aQ:Int} {w:List UInt8}:(∀ c f r g h:Nat,¬ BF s aQ 15 w c f r g h)↔iY s aQ w=none:=by
 simp[iY]
noncomputable def bQ (s:Int)(n i:Nat)(w:List UInt8):Option (Option N5) :=
 if i<n then (if w=[45] then some none else (iY s ((i:Int)+1) w).map some) else (iY s 0 w).map some
noncomputable def lX (s:Int)(n:Nat)(W:List (List UInt8))(i:Nat):List N5:=((bQ s n i ((W[i]?).getD [])).getD none).toList
noncomputable def fJ (s:Int)(n:Nat)(W:List (List UInt8))(k:Nat):List N5:=(List.range k).flatMap (lX s n W)
def gU(l:List N5):Prop:=l.Pairwise fun a b=>a.1<b.1
open Classical in
noncomputable def lM (s:Int)(n:Nat)(W:List (List UInt8)):Option (List N5) :=
 if n≤W.length∧(∀ i (h:i<W.length),(bQ s n i W[i]).isSome=true)∧gU (fJ s n W W.length)∧fJ s n W W.length≠[]then some (fJ s n W W.length)else none
theorem Oq {s:Int} {n:Nat} {W:List (List UInt8)} (h:W.length<n):lM s n W=none:=if_neg fun k=>by have:=k.1;omega
theorem Dn {s:Int} {n i:Nat} {W:List (List UInt8)} (hi:i<W.length)(h:bQ s n i W[i]=none):lM s n W=none:=if_neg fun k=>by
 grind
theorem Yk {s:Int} {n:Nat} {W:List (List UInt8)} (h:¬ gU (fJ s n W W.length)):lM s n W=none:=if_neg fun k=>h k.2.2.1
theorem Ia {s:Int} {n:Nat} {W:List (List UInt8)} (h:fJ s n W W.length=[]):lM s n W=none:=if_neg fun k=>k.2.2.2 h
theorem Ib {s:Int} {n:Nat} {W:List (List UInt8)} (h1:n≤W.length) (h2:∀ i (h:i<W.length),(bQ s n i W[i]).isSome=true) (h3:gU (fJ s n W W.length)) (h4:fJ s n W W.length≠[]) :
  lM s n W=some (fJ s n W W.length):=if_pos ⟨h1,h2,h3,h4⟩
theorem akm (s:Int)(n:Nat)(W:List (List UInt8)):fJ s n W 0=[]:=rfl
theorem rJ (s:Int)(n:Nat)(W:List (List UInt8))(k:Nat):fJ s n W (k+1)=fJ s n W k++lX s n W k:=by
 simp[fJ,LM]
theorem aa4 (s:Int)(n:Nat)(W:List (List UInt8)) {k m:Nat} (h:k≤m):fJ s n W k <+: fJ s n W m:=by
 obtain⟨d,rfl⟩:=Nat.exists_eq_add_of_le h
 induction d<;>grind[rJ]
theorem yc {s:Int} {n:Nat} {W:List (List UInt8)} {k:Nat} (h:k<W.length):lX s n W k=((bQ s n k W[k]).getD none).toList:=by
 simp_all[lX]
theorem Yl {s:Int} {c:Nat} {w:List UInt8} {x:N5} (hc:0<c)(h:iY s c w=some x):x.1=c:=by
 have a:=(qA h).2.2.1
 grind[dU]
theorem Ym {s:Int} {w:List UInt8} {x:N5} (h:iY s 0 w=some x):s=4∨6<x.1:=by
 have a:=(qA h).2.2.1
 grind[dU]
theorem abe {s aQ:Int} {w:List UInt8} {x:N5} (h:iY s aQ w=some x):1≤x.1∧x.1≤14∧x.2.1≤18∧x.2.2.1≤3∧x.2.2.2.1≤4∧x.2.2.2.2≤15:=by
 obtain⟨a1,a2,a3,a4⟩:=qA h
 obtain⟨a5,a6,a7⟩:=su a4
 omega
theorem OI {s:Int} {n i:Nat} {w:List UInt8} {x:N5} (h:bQ s n i w=some (some x)):1≤x.1∧x.1≤14∧x.2.1≤18∧x.2.2.1≤3∧x.2.2.2.1≤4∧x.2.2.2.2≤15:=by
 grind[bQ,Us,abe]
theorem KA {s:Int} {n:Nat} {W:List (List UInt8)} {i:Nat} {x:N5} (h:x∈lX s n W i):1≤x.1∧x.1≤14∧x.2.1≤18∧x.2.2.1≤3∧x.2.2.2.1≤4∧x.2.2.2.2≤15:=by
 unfold lX at h
 cases hw:bQ s n i ((W[i]?).getD [])<;>grind[OI]
theorem agJ {s:Int} {n:Nat} {W:List (List UInt8)} {k:Nat} {x:N5} (h:x∈fJ s n W k):1≤x.1∧x.1≤14∧x.2.1≤18∧x.2.2.1≤3∧x.2.2.2.1≤4∧x.2.2.2.2≤15:=by
 obtain⟨i,_,hi⟩:=List.mem_flatMap.1 h
 exact KA hi
theorem wO:∀ {l:List N5} {a:Nat},gU l→(∀ x∈l,a<x.1∧x.1≤14)→l.length+a≤14∨l=[]
 | [],_,_,_=>.inr rfl
 | x::r,a,h,hb=>by
  have h1:=hb x (by simp)
  obtain⟨h2,h3⟩:=List.pairwise_cons.1 h
  rcases wO (a:=x.1) h3 (fun y hy=>⟨h2 y hy,(hb y qV).2⟩) with k|k
  all_goals grind
def iL (s:Int)(words:List (List UInt8)):List (List UInt8):=if s=2 then words.reverse else words
def aG(s:Int)(cs:List Crs):Nat:=if s=4 then 0 else min cs.length 6
noncomputable def zV (s:Int)(n:Nat)(words:List (List UInt8)):Option (List N5):=lM s n (iL s words)
structure NC where
 bar:Bool
 v:Nat
 i:Nat
 tie:Bool
 l:List N5
noncomputable def iK (s:Int) (n:Nat) (bar:Bool) (v i:Nat) (ws:List (List UInt8)):Option NC :=
 if ws=[[126]]∧s≠4 then some ⟨bar,v,i,true,[]⟩else if ws=[[37]]∧s≠3 then some ⟨bar,v,i,false,[]⟩else (zV s n ws).map fun l=>⟨bar,v,i,false,l⟩
noncomputable def kR (s:Int)(n:Nat)(bar:Bool):List (List UInt8)→Option NC
 | sg::w::r=>(jm (yV s sg) 0 8).bind fun x=>iK s n bar x.1 x.2 (w::r)
 | _=>none
noncomputable def eY (s:Int)(n:Nat)(t:List UInt8):Option NC :=
 match aV 32 t with
 | w::r=>if w=[124]then kR s n true r else kR s n false (w::r)
 | []=>none
def dK (cs:List Crs) (x:N5):Int:=if cs.length<x.1 then 12 else if (cs.getD (x.1-1) (0,0,false)).2.1<(x.2.1:Int)then 13 else 0
def iO(cs:List Crs):List N5→Int
 | []=>0
 | x::r=>if dK cs x≠0 then dK cs x else iO cs r
def kP(cs:List Crs)(first:Bool)(x:NC):Int:=if first=true∧x.v=0 then 20 else if(first && x.tie)=true then 21 else iO cs x.l
noncomputable def eX (s:Int)(cs:List Crs)(k:Nat)(t:List UInt8):Int :=
 match eY s (aG s cs) t with
 | none=>4
 | some x=>kP cs (k == 0) x
noncomputable def aX (s:Int) (cs:List Crs) (t:List UInt8):NC:=(eY s (aG s cs) t).getD ⟨false,0,0,false,[]⟩
noncomputable def jY (s:Int)(cs:List Crs):Nat→List (List UInt8)→Option (Nat×Int)
 | _,[]=>none
 | k,t::r=>if eX s cs k t≠0 then some (k,eX s cs k t) else jY s cs (k+1) r
theorem H7 {s:Int} {cs:List Crs}:∀ {L:List (List UInt8)} {k j:Nat} (hj:j<L.length),(∀ i (hi:i<L.length),i<j→eX s cs (k+i) L[i]=0)→eX s cs (k+j) L[j]≠0→jY s cs k L=some (k+j,eX s cs (k+j) L[j])
 | t::r,k,0,hj,_,h=>by
  simp_all[jY]
 | t::r,k,j+1,hj,h1,h=>by
  have h0:=h1 0 (by simp) (by omega)
  simp only [vY,uK] at h0
  unfold jY
  rw [if_neg (by rw [h0];decide),H7 (k:=k+1) (j:=j) yR (fun i hi hij=>by
   grind) (by
   grind)]
  grind
theorem oV {s:Int} {cs:List Crs}:∀ {L:List (List UInt8)} {k:Nat},(∀ i (hi:i<L.length),eX s cs (k+i) L[i]=0)→jY s cs k L=none
 | [],_,_=>rfl
 | t::r,k,h=>by
  have h0:=h 0 (by simp)
  simp only [vY,uK] at h0
  unfold jY
  rw [if_neg (by rw [h0];decide)]
  exact oV fun i hi=>by
   have:=h (i+1) (by simpa using hi)
   grind
def bZ(x:NC)(w:N5→Int):Ev:=⟨x.bar,x.v,Ar x.i,yG x.i,x.tie,x.l.map fun n=>(n.1,n.2.1,n.2.2.1,n.2.2.2.1,w n)⟩
def dJ(x:NC):Ev:=bZ x fun _=>0
def sN (E:List NC)(i:Nat)(x:N5):Int:=(ah (E.map dJ) i x.1:Int)
def nT (s:Int)(E:List NC)(i:Nat)(x:N5):Bool:=decide (x.2.2.2.2≠0) && (decide (sN E i x=0)|| (decide (s=1) && decide (sN E i x<x.2.2.2.2)))
def bP(s:Int)(E:List NC)(i:Nat)(x:N5):Int:=if x.2.2.2.2=0 then 0 else if s=1 then(x.2.2.2.2:Int)else sN E i x
def mZ (s:Int) (E:List NC):Option Nat:=(List.range E.length).find? fun i=>((E[i]?).getD ⟨false,0,0,false,[]⟩).l.any (nT s E i)
def lN (s:Int)(E:List NC):List Ev:=E.mapIdx fun i x=>bZ x (bP s E i)
def iV(l:List UInt8):Option Int :=
 if l.take 10=[116,97,98,108,97,116,117,114,101,32]then
  (if [102,114,101,110,99,104]=l.drop 10 then some 1 else if [105,116,97,108,105,97,110]=l.drop 10 then some 2 else if [115,112,97,110,105,115,104]=l.drop 10 then some 3 else if [103,101,114,109,97,110]=l.drop 10 then some 4 else none)
 else none
def aA (t:List UInt8):(List Crs×List Int)×Int :=
 if (jI t).2≠0 then (([],[]),(jI t).2)else if gB (jI t).1.1 (jI t).1.2≠0 then (([],[]),gB (jI t).1.1 (jI t).1.2)else ((jI t).1,0)
abbrev BZ:=Int×aN×Int×Int
def fV(line e:Int):BZ:=(0,⟨[],[],[]⟩,line,e)
noncomputable def jG (s:Int)(cs:List Crs)(st:List Int)(tl:List UInt8)(L:List (List UInt8)):BZ :=
 match jY s cs 0 L with
 | some (k,e)=>fV ((k:Int)+3) e
 | none =>
  if tl≠[] then fV ((L.length:Int)+3) 4 else
  match mZ s (L.map (aX s cs)) with
  | some i=>fV ((i:Int)+3) 24
  | none=>(s,⟨cs,st,lN s (L.map (aX s cs))⟩,0,0)
noncomputable def pU (s:Int)(tl:List UInt8):List (List UInt8)→BZ
 | []=>fV 2 4
 | l::L =>
  if (aA l).2≠0 then fV 2 (aA l).2 else
  if 400<L.length+(if tl=[]then 0 else 1)then fV 403 2 else jG s (aA l).1.1 (aA l).1.2 tl L
noncomputable def kQ (tl:List UInt8):List (List UInt8)→BZ
 | []=>fV 1 4
 | l::L=>match iV l with
  | none=>fV 1 4
  | some s=>pU s tl L
noncomputable def au (t:List UInt8):BZ:=kQ (aI 10 t).2 (aI 10 t).1
end
section
open Go.RowKit
theorem Ru:((List.range' 1 4).all fun s=>(List.range' 1 14).all fun c=>(List.range 19).all fun f=>(rS (s:Int) (c:Int) (f:Int)).all fun b=>decide (b.toNat<128))=true:=by decide +kernel
theorem Yj:((List.range' 1 4).all fun s=>((List.range 4).all fun r=>(rR (s:Int) (r:Int)).all fun b=>decide (b.toNat<128)) && ((List.range 5).all fun g=>(rG (s:Int) (g:Int)).all fun b=>decide (b.toNat<128)) && ((List.range 16).all fun h=>(pH (s:Int) (h:Int) 15).all fun b=>decide (b.toNat<128)))=true:=by decide +kernel
theorem aa9 {s aQ:Int} {w:List UInt8} {c f r g h:Nat} (hsp:aC s aQ=0) (a:BF s aQ 15 w c f r g h):∀ b∈w,b.toNat<128:=by
 have hs:=kD hsp
 obtain ⟨a1,a2,a3,a4⟩:=a
 obtain ⟨a5,a6,a7⟩:=su a4
 obtain ⟨l1,l2⟩:=lU s c f hs aj aj
 unfold dZ at a6
 simp only [dw] at a6
 obtain ⟨k,rfl⟩:=dP (show 0≤s by omega)
 have h1:=List.all_eq_true.1 (List.all_eq_true.1 (List.all_eq_true.1 (List.all_eq_true.1 Ru k (List.mem_range'_1.2 aj)) c (List.mem_range'_1.2 aj)) f (List.mem_range.2 aj))
 have h2:=List.all_eq_true.1 Yj k (List.mem_range'_1.2 aj)
 grind[cellS]
def Dj(s aQ:Int)(w:List UInt8)(pos:Nat):Prop:=∀ c f r g h:Nat,BF s aQ 15 w c f r g h→pos≤(rS s c f).length
theorem aa5(s aQ:Int)(w:List UInt8):Dj s aQ w 0:=fun _ _ _ _ _ _=>dD _
theorem ako {l:List UInt8} {i:Nat} (h:i<l.length):(bs l)[i]'(by rw [bs_size];exact h)=l[i]:=by
 simp[bs,ByteArray.getElem_eq_getElem_data]
theorem aa6 {s aQ:Int} {w:List UInt8} {pos:Nat} (hsp:aC s aQ=0) (hp:pos<w.length+1) (hN:Dj s aQ w pos)
  (hno:pos=0∨∀ c f:Nat,placeOf s aQ (w.take pos)=((c:Int),(f:Int),0)→qG s (decide (0<(f:Int))) (w.drop pos)=none):Dj s aQ w (pos+(Utf8.decode (bs (w++[32])) pos).2):=by
 intro c f r g h a
 have h1:=hN c f r g h a
 obtain ⟨b1,b2,b3,b4⟩:=Aj hsp a
 grind[bs_size,ako,aa9,decode_ascii]
theorem Rq {s aQ:Int} {w:List UInt8} {pos:Nat} (hsp:aC s aQ=0)(hp:w.length+1≤pos)(hN:Dj s aQ w pos):iY s aQ w=none :=
 Rw.1 fun c f r g h a=>by
  have h1:=hN c f r g h a
  obtain⟨b1,b2,b3,b4⟩:=Aj hsp a
  omega
def qX (s:Int)(x:N5):List AV:=[.sc (.int .i64 x.1),.sc (.int .i64 x.2.1),.sc (.int .i64 x.2.2.1),.sc (.int .i64 x.2.2.2.1),.sc (.int .i64 0),.sc (.int .i64 (jV s x.2.2.2.2))]
theorem akp {s aQ:Int} {w:List UInt8} {n:Nat} {c f:Nat} {x:Int×Int×Int} (hsp:aC s aQ=0) (h1:1≤n) (hn:n≤w.length) (hp:placeOf s aQ (w.take n)=((c:Int),(f:Int),0)) (hm:qG s (decide (0<(f:Int))) (w.drop n)=some x) :
  ∃ y:N5,iY s aQ w=some y∧(c:Int)=(y.1:Int)∧(f:Int)=(y.2.1:Int)∧x.1=(y.2.2.1:Int)∧x.2.1=(y.2.2.2.1:Int)∧x.2.2=jV s y.2.2.2.2:=by
 obtain ⟨c',f',r,g,h,e1,e2,a,rfl⟩:=ach hsp h1 hn hp hm
 exact ⟨(c',f',r,g,h),Dp hsp a,e1,e2,rfl,rfl,rfl⟩
def jU(e:Ev):List Int×Bool:=(e.stops.map fun x=>x.1,jl e)
theorem agL(c:Int)(l:List Stp):hasB c l=(l.map fun x=>x.1).any fun x=>x == c:=by
 grind[hasB]
theorem VL {c:Int}:∀ (k:Nat) {l m:List Ev},l.map jU=m.map jU→nK c k l=nK c k m
 | 0,l,m,_=>by simp [nK]
 | k+1,[],[],_=>rfl
 | k+1,[],y::m,h=>by simp at h
 | k+1,x::l,[],h=>by simp at h
 | k+1,x::l,y::m,h=>by
  rw [qM,qM] at h
  obtain⟨h1,h2⟩:=List.cons.inj h
  unfold jU at h1
  obtain⟨h3,h4⟩:=Prod.mk.inj h1
  have ih:=VL (c:=c) k h2
  grind[nK,agL]
theorem wR {l m:List Ev} (h:l.map jU=m.map jU)(i c:Int):ah l i c=ah m i c:=by
 have hl:l.length=m.length:=by have:=congrArg List.length h;simpa using this
 grind[ah,VL,L6]
def gu(w:N5→Int)(n:N5):Stp:=(n.1,n.2.1,n.2.2.1,n.2.2.2.1,w n)
def cO (U V:N5→Int)(k:Nat)(l:List N5):List Stp:=(l.take k).map (gu V)++(l.drop k).map (gu U)
def bG (U:N5→Int)(V:Nat→N5→Int)(E:List NC)(n k:Nat):List Ev :=
 E.mapIdx fun i x=>if i<n then bZ x (V i) else if i=n then { bZ x U with stops:=cO U (V n) k x.l } else bZ x U
section
variable {U:N5→Int} {V:Nat→N5→Int} {E:List NC} {n k:Nat}
theorem jg:(bG U V E n k).length=E.length:=Jg
theorem OB (U V:N5→Int)(l:List N5):cO U V 0 l=l.map (gu U):=by unfold cO;simp
theorem RJ (U V:N5→Int)(l:List N5):cO U V l.length l=l.map (gu V):=by unfold cO;simp
theorem wS(U V:N5→Int)(k:Nat)(l:List N5):(cO U V k l).length=l.length:=by
 grind[cO]
theorem Du {V:N5→Int} {l:List N5} (h:k<l.length):(cO U V k l)[k]?=some (gu U l[k]):=by
 grind[cO]
theorem Dv {V:N5→Int} {l:List N5} (h:k<l.length):(cO U V k l).set k (gu V l[k])=cO U V (k+1) l:=by
 unfold cO
 have hl:((l.take k).map (gu V)).length=k:=by grind
 grind[kV,gq]
theorem OC {V:N5→Int} {l:List N5} (h:k<l.length)(e:V l[k]=U l[k]):cO U V (k+1) l=cO U V k l:=by
 rw [← Dv h]
 grind[Du,gu,List.set_getElem_self]
theorem OD (U:N5→Int)(V:Nat→N5→Int)(E:List NC):bG U V E 0 0=E.map fun x=>bZ x U:=by
 apply jT (by simp[jg])
 intro i h1 h2
 simp only [bG,AL,EK,ED,if_false]
 split
 ·rw [OB];rfl
 ·rfl
theorem RQ (U:N5→Int)(V:Nat→N5→Int)(E:List NC):bG U V E E.length 0=E.mapIdx fun i x=>bZ x (V i):=by
 grind[jT,Jg,bG]
theorem OG (h:n<E.length):bG U V E n E[n].l.length=bG U V E (n+1) 0:=by
 apply jT (by simp[jg])
 intro i h1 h2
 simp only [bG,AL]
 by_cases e1:i<n
 ·grind
 ·rw [if_neg e1]
  by_cases e2:i=n
  ·subst e2
   rw [if_pos rfl,if_pos (by omega),RJ];rfl
  ·rw [if_neg e2,if_neg (by omega)]
   split
   ·rw [OB];rfl
   ·rfl
theorem YD (h:n<E.length):(bG U V E n k)[n]?=some { bZ E[n] U with stops:=cO U (V n) k E[n].l }:=by
 simp_all[bG]
theorem Dw (h:n<E.length)(f:Ev→List AV)(j:Nat):((bG U V E n j).map f).set n (f { bZ E[n] U with stops:=cO U (V n) k E[n].l })=(bG U V E n k).map f:=by
 rw [← Az]
 grind[jT,I9,jg,bG]
theorem RN (U V:N5→Int)(k:Nat)(l:List N5):(cO U V k l).map (fun x=>x.1)=l.map fun x=>(x.1:Int):=by
 unfold cO
 rw [gK,oC,oC]
 have:∀ w:N5→Int,((fun x:Stp=>x.1) ∘ gu w)=fun x=>(x.1:Int):=fun w=>rfl
 simp_all
theorem RS:(bG U V E n k).map jU=(E.map dJ).map jU:=by
 apply jT (by simp [jg])
 grind[bG,jU,jl,dJ,bZ,RN,wS,Function.comp_def]
theorem OE (i:Nat)(c:Int):ah (bG U V E n k) i c=ah (E.map dJ) i c:=wR RS _ _
theorem Kz {i:Nat} (h:i<E.length):((bG U V E n k)[i]'(by simp_all[jg])).stops.length=E[i].l.length:=by
 simp only [bG,AL]
 split
 ·exact dH _
 ·split
  ·simp[wS]
  ·exact dH _
end
theorem abf {s:Int} {E:List NC} {i k:Nat} (hi:i<E.length) (h0:∀ j (hj:j<E.length),j<i→E[j].l.any (nT s E j)=false) (hk:k<E[i].l.length) (h1:nT s E i E[i].l[k]=true):mZ s E=some i:=by
 unfold mZ
 have e:List.range E.length=List.range i++i::List.range' (i+1) (E.length-(i+1)):=by
  obtain ⟨d,hd⟩:∃ d,E.length-(i+1)=d:=⟨_,rfl⟩
  rw [hd,show E.length=i+(d+1)by omega,EM,EM,← List.range'_append_1,Fg]
  simp
 grind
theorem Ry {s:Int} {E:List NC} (h0:∀ j (hj:j<E.length),E[j].l.any (nT s E j)=false):mZ s E=none:=by
 simp_all[mZ]
theorem aa8 {α:Type} {f:α→Bool} {l:List α} (h:∀ k(hk:k<l.length),f l[k]=false):l.any f=false:=by
 grind[List.mem_iff_getElem]
section
variable {s:Int} {n:Nat} {W:List (List UInt8)}
theorem OJ {i:Nat} {w:List UInt8} {x:N5} (hi:i<n) (h:bQ s n i w=some (some x)):x.1=i+1:=by
 unfold bQ at h
 rw [if_pos hi] at h
 split at h
 ·cases h
 ·obtain ⟨y,hy,e⟩:=Option.map_eq_some_iff.1 h
  cases e
  exact Yl (c:=i+1) aj hy
theorem YH {i:Nat} {w:List UInt8} {x:N5} (hi:n≤i)(h:bQ s n i w=some (some x)):s=4∨6<x.1:=by
 grind[bQ,Us,Ym]
theorem uf {i:Nat} {w:List UInt8} (hi:n≤i)(h:(bQ s n i w).isSome=true):∃ x,bQ s n i w=some (some x):=by
 unfold bQ at h ⊢
 rw [if_neg (by omega)]at h ⊢
 simp_all[iY]
theorem qB {k:Nat} (h:k<W.length) {x:N5} (hx:bQ s n k W[k]=some (some x)):lX s n W k=[x]:=by simp_all[yc]
theorem Io {k:Nat} (h:k<W.length)(hx:bQ s n k W[k]=some none):lX s n W k=[]:=by simp_all[yc]
theorem yg {i:Nat} (hi:i<n) {y:N5} (hy:y∈lX s n W i):y.1=i+1:=by
 unfold lX at hy
 cases hw:bQ s n i ((W[i]?).getD [])<;>grind[OJ]
theorem Dx {i:Nat} (hi:n≤i) {y:N5} (hy:y∈lX s n W i):s=4∨6<y.1:=by
 unfold lX at hy
 cases hw:bQ s n i ((W[i]?).getD [])<;>grind[YH]
theorem qy {k:Nat} {y:N5}:y∈fJ s n W k↔∃ i,i<k∧y∈lX s n W i:=by
 simp[fJ]
theorem OL(i:Nat):(lX s n W i).length≤1:=by
 grind[lX]
theorem wM {a b:List N5} (ha:gU a) (hb:gU b) (h:∀ x∈a,∀ y∈b,x.1<y.1):gU (a++b):=List.pairwise_append.2 ⟨ha,hb,h⟩
theorem wP {l:List N5} (h:l.length≤1):gU l:=by
 match l,h with
 | [],_=>exact List.Pairwise.nil
 | [x],_=>exact List.pairwise_singleton _ _
theorem VK:∀ {k:Nat},k≤n→gU (fJ s n W k)
 | 0,_=>List.Pairwise.nil
 | k+1,h=>by
  rw [rJ]
  refine wM (VK aj) (wP (OL k)) fun x hx y hy=>?_
  obtain ⟨i,hi,hxi⟩:=qy.1 hx
  rw [yg (by omega) hxi,yg (by omega) hy];omega
noncomputable def rM (s:Int)(n:Nat)(W:List (List UInt8))(k:Nat):Nat:=if k≤n then 0 else (((lX s n W (k-1)).head?).getD (0,0,0,0,0)).1
theorem Ig {k:Nat} (h:k≤n):rM s n W k=0:=if_pos h
theorem Ih {k:Nat} (h:n≤k) {x:N5} (hx:lX s n W k=[x]):rM s n W (k+1)=x.1:=by
 grind[rM]
theorem Yi {k:Nat} (h6:n≤6) (h4:s=4→n=0) (hk:n≤k) (hok:∀ i (h:i<W.length),i<k→(bQ s n i W[i]).isSome=true) (hkl:k≤W.length) (ha:gU (fJ s n W k)) {x:N5} (hx:lX s n W k=[x]) :
  gU (fJ s n W (k+1))↔rM s n W k<x.1:=by
 have hx1:=KA (s:=s) (n:=n) (W:=W) (i:=k) (x:=x) (by rw [hx];simp)
 rw [rJ,hx]
 by_cases e:k=n
 ·subst e
  rw [Ig (Nat.le_refl _)]
  refine ⟨fun _=>by omega,fun _=>wM ha (wP (by simp)) fun y hy z hz=>?_⟩
  obtain rfl:=List.mem_singleton.1 hz
  obtain ⟨i,hi,hyi⟩:=qy.1 hy
  have h1:=yg hi hyi
  rcases Dx (s:=s) (n:=k) (W:=W) (Nat.le_refl k) (by rw [hx];simp:z∈_) with h5|h5
  all_goals omega
 ·obtain ⟨j,rfl⟩:∃ j,k=j+1:=⟨k-1,by omega⟩
  obtain ⟨y,hy⟩:=uf (i:=j) aj (hok j aj aj)
  have hyx:=qB aj hy
  rw [Ih (by omega) hyx]
  rw [rJ,hyx] at ha ⊢
  constructor
  ·intro h
   exact (List.pairwise_append.1 h).2.2 y (by simp) x (by simp)
  ·intro h
   refine wM ha (wP (by simp)) fun z hz u hu=>?_
   obtain rfl:=List.mem_singleton.1 hu
   rcases List.mem_append.1 hz with q|q
   ·have:=(List.pairwise_append.1 ha).2.2 z q y (by simp)
    omega
   simp_all
theorem Rt {a b:List N5} (h:a <+: b)(hb:gU b):gU a:=hb.sublist h.sublist
end
end
end Go.Proofs.YthohlofpphjofaaGreatDoor
