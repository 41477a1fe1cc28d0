/- piece.Onsets of a piece that is not valid. -/
import Derived.Test.YthohlofpphjofaaGreatDoorGYLq
import Derived.RangeFuncNested
import Derived.RangeFuncBound
import Derived.Shelf.RegionOpen
import Derived.OwnWalkIn
import Derived.LoopNIn
import Derived.LoopIn
import Derived.Test.YthohlofpphjofaaGreatDoorCkDLq
set_option maxHeartbeats 8000000
set_option maxRecDepth 100000
set_option linter.unusedVariables false
set_option linter.unusedSimpArgs false
namespace Go.Proofs.YthohlofpphjofaaGreatDoor
theorem amT {p:Prop}(h:p:=by
 go_wp2_with (go_at_call 51;refine (HC.out _ CU).mono ?_;rintro e' w1⟨rfl,hb1⟩;have k1:=(yV.new _ _ _).after hb1;have l1:w.heap.size < w1.heap.size:=k1.lt;clear k1);exact vJ):p:=h
theorem asD {p:Prop}(h:p:=by
 refine hR.mono ?_;rintro e W3 ⟨rfl,hJ3,hk3⟩;gi_wp2;go_roundw;case rel=>exact ⟨k+1,by omega,by go_num,by rw [HFR.out],hJ3,(HX.out.trans (HBB.out.mono (by have:=HX.out.size;omega))).trans hk3⟩
 case measure=>simp [intOf];omega):p:=h
section
open Go.RowKit
def sZ(e:Ev):List Int×Bool:=(e.stops.map λx=>x.1,lC e)
theorem apk(c:Int)(l:List Stp):hasB c l=(l.map λx=>x.1).any λx=>x == c:=by grind[hasB]
theorem ac8 {c:Int}:∀ (k:Nat) {l m:List Ev},l.map sZ=m.map sZ->tN c k l=tN c k m
 | 0,l,m,_=>by simp [tN]| k+1,[],[],_=>rfl| k+1,[],y::m,h=>by simp at h| k+1,x::l,[],h=>by simp at h| k+1,x::l,y::m,h=>by
  rw [AB,AB] at h;obtain⟨h1,h2⟩:=List.cons.inj h;unfold sZ at h1;obtain⟨h3,h4⟩:=Prod.mk.inj h1;have ih:=ac8 (c:=c) k h2;grind[tN,apk]
theorem LH {l m:List Ev} (h:l.map sZ=m.map sZ)(i c:Int):ak l i c=ak m i c:=by
 have hl:l.length=m.length:=by have:=congrArg List.length h;simpa using this
 grind[ak,ac8,Q7]
def gu(w:N5->Int)(n:N5):Stp:=(n.1,n.2.1,n.2.2.1,n.2.2.2.1,w n)
def bJ (U V:N5->Int)(k:Nat)(l:List N5):List Stp:=(l.take k).map (gu V)++(l.drop k).map (gu U)
def aU (U:N5->Int)(V:Nat->N5->Int)(E:List NC)(n k:Nat):List Ev :=E.mapIdx λi x=>if i<n then dJ x (V i) else if i=n then { dJ x U with stops:=bJ U (V n) k x.l } else dJ x U
section
variable {U:N5→Int} {V:Nat→N5→Int} {E:List NC} {n k:Nat}
theorem iR:(aU U V E n k).length=E.length:=NH
theorem Xk (U V:N5->Int)(l:List N5):bJ U V 0 l=l.map (gu U):=by unfold bJ;simp
theorem aac (U V:N5->Int)(l:List N5):bJ U V l.length l=l.map (gu V):=by unfold bJ;simp
theorem yG(U V:N5->Int)(k:Nat)(l:List N5):(bJ U V k l).length=l.length:=by grind[bJ]
theorem Dx {V:N5->Int} {l:List N5} (h:k<l.length):(bJ U V k l)[k]?=some (gu U l[k]):=by grind[bJ]
theorem Dy {V:N5->Int} {l:List N5} (h:k<l.length):(bJ U V k l).set k (gu V l[k])=bJ U V (k+1) l:=by
 unfold bJ;have hl:((l.take k).map (gu V)).length=k:=by grind
 grind[pX,kF]
theorem IL {V:N5->Int} {l:List N5} (h:k<l.length)(e:V l[k]=U l[k]):bJ U V (k+1) l=bJ U V k l:=by
 rw [← Dy h];grind[Dx,gu,List.set_getElem_self]
theorem LM (U:N5->Int)(V:Nat->N5->Int)(E:List NC):aU U V E 0 0=E.map λx=>dJ x U:=by
 apply oV (by simp[iR]);intro i h1 h2;simp only [aU,Jh,Yx,Yz,if_false];split;.rw [Xk];rfl
 .rfl
theorem Dz (U:N5->Int)(V:Nat->N5->Int)(E:List NC):aU U V E E.length 0=E.mapIdx λi x=>dJ x (V i):=by grind[oV,NH,aU]
theorem IU (h:n<E.length):aU U V E n E[n].l.length=aU U V E (n+1) 0:=by
 apply oV (by simp[iR]);intro i h1 h2;simp only [aU,Jh];by_cases e1:i<n;.grind
 .rw [if_neg e1];by_cases e2:i=n
  .subst e2;rw [if_pos rfl,if_pos (by omega),aac];rfl
  .rw [if_neg e2,if_neg (by omega)];split;.rw [Xk];rfl
   .rfl
theorem Qn (h:n<E.length):(aU U V E n k)[n]?=some { dJ E[n] U with stops:=bJ U (V n) k E[n].l }:=by simp_all[aU]
theorem yH (h:n<E.length)(f:Ev->List AV)(j:Nat):((aU U V E n j).map f).set n (f { dJ E[n] U with stops:=bJ U (V n) k E[n].l })=(aU U V E n k).map f:=by
 rw [← FI];grind[oV,Rh,iR,aU]
theorem aad (U V:N5->Int)(k:Nat)(l:List N5):(bJ U V k l).map (λx=>x.1)=l.map λx=>(x.1:Int):=by
 unfold bJ;rw [iC,Jf,Jf];have:∀ w:N5->Int,((λx:Stp=>x.1) ∘ gu w)=λx=>(x.1:Int):=λw=>rfl;simp_all
theorem aae:(aU U V E n k).map sZ=(E.map iQ).map sZ:=by
 apply oV (by simp [iR]);grind[aU,sZ,lC,iQ,dJ,aad,yG,Function.comp_def]
theorem IQ (i:Nat)(c:Int):ak (aU U V E n k) i c=ak (E.map iQ) i c:=LH aae _ _
theorem EO {i:Nat} (h:i<E.length):((aU U V E n k)[i]'(by simp_all[iR])).stops.length=E[i].l.length:=by
 simp only [aU,Jh];split;.exact bK _
 .split;.simp[yG]
  .exact bK _
end
theorem Xd {s:Int} {E:List NC} {i k:Nat} (hi:i<E.length) (h0:∀ j (hj:j<E.length),j<i->E[j].l.any (nU s E j)=false) (hk:k<E[i].l.length) (h1:nU s E i E[i].l[k]=true):pG s E=some i:=by
 unfold pG;have e:List.range E.length=List.range i++i::List.range' (i+1) (E.length-(i+1)):=by
  obtain ⟨d,hd⟩:∃ d,E.length-(i+1)=d:=⟨_,rfl⟩;rw [hd,show E.length=i+(d+1)by omega,Rj,Rj,← List.range'_append_1,FP];simp
 grind
theorem Lu {s:Int} {E:List NC} (h0:∀ j (hj:j<E.length),E[j].l.any (nU s E j)=false):pG s E=none:=by simp_all[pG]
theorem Xc {α:Type} {f:α->Bool} {l:List α} (h:∀ k(hk:k<l.length),f l[k]=false):l.any f=false:=by grind[List.mem_iff_getElem]
section
variable {s:Int} {n:Nat} {W:List (List UInt8)}
theorem LQ {i:Nat} {w:List UInt8} {x:N5} (hi:i<n) (h:bF s n i w=some (some x)):x.1=i+1:=by
 unfold bF at h;rw [if_pos hi] at h;split at h;.cases h
 .obtain ⟨y,hy,e⟩:=Option.map_eq_some_iff.1 h;cases e;exact afh (c:=i+1) au hy
theorem afu {i:Nat} {w:List UInt8} {x:N5} (hi:n<=i)(h:bF s n i w=some (some x)):s=4\/6<x.1:=by grind[bF,abx,afi]
theorem uP {i:Nat} {w:List UInt8} (hi:n<=i)(h:(bF s n i w).isSome=true):∃ x,bF s n i w=some (some x):=by
 unfold bF at h ⊢;rw [if_neg (by omega)]at h ⊢;simp_all[iP]
theorem jg {k:Nat} (h:k<W.length) {x:N5} (hx:bF s n k W[k]=some (some x)):kV s n W k=[x]:=by simp_all[TA]
theorem BA {k:Nat} (h:k<W.length)(hx:bF s n k W[k]=some none):kV s n W k=[]:=by simp_all[TA]
theorem vX {i:Nat} (hi:i<n) {y:N5} (hy:y∈kV s n W i):y.1=i+1:=by
 unfold kV at hy;cases hw:bF s n i ((W[i]?).getD [])<;>grind[LQ]
theorem ET {i:Nat} (hi:n<=i) {y:N5} (hy:y∈kV s n W i):s=4\/6<y.1:=by
 unfold kV at hy;cases hw:bF s n i ((W[i]?).getD [])<;>grind[afu]
theorem uM {k:Nat} {y:N5}:y∈gQ s n W k↔∃ i,i<k/\y∈kV s n W i:=by simp[gQ]
theorem aiL {k:Nat} {y:N5}:y∈jA s n W k->∃ i,k<=i/\i<W.length/\y∈kV s n W i:=by grind[jA]
theorem EP(i:Nat):(kV s n W i).length<=1:=by grind[kV]
theorem uN {a b:List N5} (ha:eX a) (hb:eX b) (h:∀ x∈a,∀ y∈b,x.1<y.1):eX (a++b):=List.pairwise_append.2 ⟨ha,hb,h⟩
theorem qy {l:List N5} (h:l.length<=1):eX l:=by match l,h with
 | [],_=>exact List.Pairwise.nil| [x],_=>exact List.pairwise_singleton _ _
theorem Tv:∀ {k:Nat},k<=n->eX (gQ s n W k)
 | 0,_=>List.Pairwise.nil| k+1,h=>by
  rw [wO];refine uN (Tv au) (qy (EP k)) λx hx y hy=>?_;obtain ⟨i,hi,hxi⟩:=uM.1 hx;rw [vX (by omega) hxi,vX (by omega) hy];omega
noncomputable def vW (s:Int)(n:Nat)(W:List (List UInt8))(k:Nat):Nat:=if k<=n then 0 else (((kV s n W (k-1)).head?).getD (0,0,0,0,0)).1
theorem qA {k:Nat} (h:k<=n):vW s n W k=0:=if_pos h
theorem GU {k:Nat} (h:n<=k) {x:N5} (hx:kV s n W k=[x]):vW s n W (k+1)=x.1:=by grind[vW]
theorem GH {k:Nat} (h6:n<=6) (h4:s=4->n=0) (hk:n<=k) (hok:∀ i (h:i<W.length),i<k->(bF s n i W[i]).isSome=true) (hkl:k<=W.length) (ha:eX (gQ s n W k)) {x:N5} (hx:kV s n W k=[x]) :eX (gQ s n W (k+1))↔vW s n W k<x.1:=by
 have hx1:=Bz (s:=s) (n:=n) (W:=W) (i:=k) (x:=x) (by rw [hx];simp);rw [wO,hx];by_cases e:k=n
 .subst e;rw [qA (Nat.le_refl _)];refine ⟨λ_=>by omega,λ_=>uN ha (qy (by simp)) λy hy z hz=>?_⟩;obtain rfl:=List.mem_singleton.1 hz;obtain ⟨i,hi,hyi⟩:=uM.1 hy;have h1:=vX hi hyi;rcases ET (s:=s) (n:=k) (W:=W) (Nat.le_refl k) (by rw [hx];simp:z∈_) with h5|h5;all_goals omega
 .obtain ⟨j,rfl⟩:∃ j,k=j+1:=⟨k-1,by omega⟩;obtain ⟨y,hy⟩:=uP (i:=j) au (hok j au au);have hyx:=jg au hy;rw [GU (by omega) hyx];rw [wO,hyx] at ha ⊢;constructor
  .intro h;exact (List.pairwise_append.1 h).2.2 y (by simp) x (by simp)
  .intro h;refine uN ha (qy (by simp)) λz hz u hu=>?_;obtain rfl:=List.mem_singleton.1 hu;rcases List.mem_append.1 hz with q|q
   .have:=(List.pairwise_append.1 ha).2.2 z q y (by simp);omega
   simp_all
theorem ZU {a b:List N5} (h:a <+: b)(hb:eX b):eX a:=hb.sublist h.sublist
theorem ZV {a b:List N5} (h:a <:+ b)(hb:eX b):eX a:=hb.sublist h.sublist
noncomputable def gV (s:Int)(n:Nat)(W:List (List UInt8))(k:Nat):Nat:=if W.length<=k then 0 else (((kV s n W k).head?).getD (0,0,0,0,0)).1
theorem LC:gV s n W W.length=0:=if_pos (Nat.le_refl _)
theorem LD {k:Nat} (h:k<W.length) {x:N5} (hx:kV s n W k=[x]):gV s n W k=x.1:=by simp_all[gV,if_neg]
theorem apj {k:Nat} (h6:n<=6)(h4:s=4->n=0)(hk:k<n)(hkl:k<W.length)(ha:eX (jA s n W (k+1))):eX (jA s n W k)/\∀ x∈kV s n W k,∀ y∈jA s n W (k+1),x.1<y.1:=by
 have hlt:∀ x∈kV s n W k,∀ y∈jA s n W (k+1),x.1<y.1:=λx hx y hy=>by
  have h1:=vX hk hx;obtain⟨i,i1,i2,i3⟩:=aiL hy;rcases FM i n with q|q;all_goals grind[vX,ET]
 grind[GI,uN,qy,EP]
theorem Xa {k:Nat} (hk:n<=k) (hkl:k<W.length) (hok:∀ i (h:i<W.length),k<i->(bF s n i W[i]).isSome=true) (ha:eX (jA s n W (k+1))) {x:N5} (hx:kV s n W k=[x]) :(gV s n W (k+1)=0\/x.1<gV s n W (k+1))↔(eX (jA s n W k)/\∀ y∈jA s n W (k+1),x.1<y.1):=by
 have hx1:=Bz (s:=s) (n:=n) (W:=W) (i:=k) (x:=x) (by rw [hx];simp);rw [GI s n W hkl,hx];by_cases e:k+1=W.length;.simp_all[Lp,qy,LC]
 .obtain ⟨y,hy⟩:=uP (i:=k+1) au (hok (k+1) au au);have hyx:=jg au hy;have hy1:=Bz (s:=s) (n:=n) (W:=W) (i:=k+1) (x:=y) (by rw [hyx];simp);rw [LD (by omega) hyx];have hR:jA s n W (k+1)=[y]++jA s n W (k+1+1):=by grind[GI]
  rw [hR] at ha ⊢;constructor
  .intro h;have h2:x.1<y.1:=by omega
   have hall:∀ z∈[y]++jA s n W (k+1+1),x.1<z.1:=λz hz=>by
    rcases List.mem_append.1 hz with q|q;.obtain rfl:=List.mem_singleton.1 q;exact h2
    .have:=(List.pairwise_append.1 ha).2.2 y (by simp) z q;omega
   grind[uN,qy]
  simp_all
def oN:List N5->N5->List N5
 | [],x=>[x]| y::r,x=>if y.1<x.1 then y::oN r x else x::y::r
theorem zV:∀ {l:List N5} {x:N5},(∀ y∈l,y.1<x.1)->oN l x=l++[x]
 | [],_,_=>rfl| y::r,x,h=>by
  unfold oN;rw [if_pos (h y (by simp)),zV λz hz=>h z (by simp [hz])];rfl
theorem Ci {l:List N5} {x:N5} (h:∀ y∈l,x.1<y.1):oN l x=x::l:=by cases l<;>grind[oN]
theorem Z9 (w:List UInt8):iP 3 0 w=none:=Du.1 λc f r g h a=>by
 obtain ⟨a1,a2,a3,a4⟩:=a;obtain ⟨a5,a6,a7⟩:=yR a4;unfold iJ at a6;simp only [gG] at a6;have h1:=a6.1.1.1;unfold fO at a3;rw [if_neg (by omega)] at a3;simp only [CQ,beq_iff_eq,dH] at a3;have h2:((List.range' 7 8).all λc=>(List.range 19).all λf=>!Qu 3 (c:Int) (f:Int))=true:=by decide +kernel
 have h3:=List.all_eq_true.1 (List.all_eq_true.1 h2 c (List.mem_range'_1.2 au)) f (List.mem_range.2 au);simp_all
end
def axC(s h:Int):Nat:=if h=0 then 0 else if s=1 then h.toNat else 15
def xK(s:Int)(lg h:Nat):Int:=if h=0 then 0 else if s=1 then(h:Int)else(lg:Int)
theorem aiY {s:Int} (hs:1<=s/\s<=4):s=1\/s=2\/s=3\/s=4:=by omega
theorem auB {s:Int} {h lg:Nat} (hs:1<=s/\s<=4)(ok:xM s h 15=true)(h1:h≠0->lg≠0)(h2:s=1->h<=lg):xM s (xK s lg h) lg=true/\pH s (xK s lg h) lg=pH s h 15/\0<=xK s lg h/\xK s lg h<=lg/\(0<xK s lg h↔0<h)/\axC s (xK s lg h)=if h=0 then 0 else if s=1 then h else 15:=by
 unfold xK axC;grind[xM,rH,pH]
structure NwS(s:Int)(L:Int->Nat)(x:Stp):Prop where
 c:1<=x.1/\x.1<=14f:0<=x.2.1/\x.2.1<=18r:0<=x.2.2.1/\x.2.2.1<=3g:0<=x.2.2.2.1/\x.2.2.2.1<=4h:0<=x.2.2.2.2/\x.2.2.2.2<=(L x.1:Int)l:L x.1<=15z:0<x.2.2.2.2->x.2.1≠0k:stK s L x=true
def apn (s:Int)(L:Int->Nat)(n:Nat)(l:List Stp):List (List UInt8):=(List.range n).map (λj:Nat=>stF s L l ((j:Int)+1))++(l.filter λx=>decide ((n:Int)<x.1)).map (Y4 s L)
def EU (s:Int)(L:Int->Nat)(n:Nat)(l:List Stp):List (List UInt8):=if s=2 then tq s L n l++gW s L n l else gW s L n l++tq s L n l
theorem auC (s:Int)(L:Int->Nat)(n:Nat)(l:List Stp):fJ s (EU s L n l)=apn s L n l:=by
 unfold fJ EU apn tq gW;by_cases e:s=2
 .rw [if_pos e,if_pos e,if_pos e,List.reverse_append,List.reverse_reverse];congr 1;apply oV;all_goals grind[cAt]
 simp_all[cAt]
section
variable {s:Int} {L:Int→Nat} {n:Nat} {l:List Stp}
def jv (s:Int)(L:Int->Nat)(x:N5):Stp:=(x.1,x.2.1,x.2.2.1,x.2.2.2.1,xK s (L x.1) x.2.2.2.2)
def NwH(s:Int)(L:Int->Nat)(x:N5):Prop:=(x.2.2.2.2≠0->L x.1≠0)/\(s=1->x.2.2.2.2<=L x.1)
theorem aiW (hs:1<=s/\s<=4) {aI:Int} {w:List UInt8} {x:N5} (h:iP s aI w=some x) (hh:NwH s L x) (h15:L x.1<=15):NwS s L (jv s L x)/\Y4 s L (jv s L x)=w:=by
 obtain ⟨a1,a2,a3,a4⟩:=EL h;obtain ⟨a5,a6,a7⟩:=yR a4;have a8:=a6;unfold iJ at a8;simp only [gG] at a8;obtain ⟨b1,b2,b3,b4,b5,b6⟩:=auB hs a8.2 hh.1 hh.2;obtain ⟨c,f,r,g,k⟩:=x;dsimp only at a1 a2 a3 a5 a7 a8 b1 b2 b3 b4 b5 h15;refine ⟨⟨?_,?_,?_,?_,?_,?_,?_,?_⟩,?_⟩;.show (1:Int)<=(c:Int)/\(c:Int)<=14;omega
 .show (0:Int)<=(f:Int)/\(f:Int)<=18;omega
 .show (0:Int)<=(r:Int)/\(r:Int)<=3;omega
 .show (0:Int)<=(g:Int)/\(g:Int)<=4;omega
 .exact ⟨b3,b4⟩
 .exact h15
 .exact λq=>a5.2.2.2 (b5.1 q)
 .show iJ s c f r g (xK s (L c) k) (L c)=true;simp_all[iJ]
 .show cellS s c f r g (xK s (L c) k) (L c)=w;simp_all[cellS]
theorem ai0 {W:List (List UInt8)} {i:Nat} {x:N5} (hi:i<W.length)(h:x∈kV s n W i):bF s n i W[i]=some (some x):=by
 rw [TA hi]at h;cases hw:bF s n i W[i]<;>simp_all
theorem aiZ {i:Nat} {w:List UInt8} {x:N5} (h:bF s n i w=some (some x)):iP s (if i<n then (i:Int)+1 else 0) w=some x:=by grind[bF,abx]
theorem aiV {V:List (List UInt8)} {nl:List N5} (hs:1<=s/\s<=4) (h6:n<=6) (h4:s=4->n=0) (h:nM s n V=some nl) (hh:∀ x∈nl,NwH s L x) (h15:∀ c,L c<=15) :apn s L n (nl.map (jv s L))=V/\(∀ x∈nl.map (jv s L),NwS s L x)/\eX nl/\nl≠[]:=by
 unfold nM at h;split at h
 .rename_i hk;obtain ⟨hn,hok,hasc,hne⟩:=hk;have hnl:gQ s n V V.length=nl:=Option.some.inj h;rw [hnl] at hasc hne;have hmem:∀ {i:Nat} {x:N5},i<V.length->x∈kV s n V i->x∈nl:=λ{i x} hi hx=>by grind[uM]
  have hcell:∀ {i:Nat} {x:N5} (hi:i<V.length),x∈kV s n V i->NwS s L (jv s L x)/\Y4 s L (jv s L x)=V[i]:=λ{i x} hi hx=>aiW hs (aiZ (ai0 hi hx)) (hh x (hmem hi hx)) (h15 _);refine ⟨?_,λy hy=>?_,hasc,hne⟩;rotate_left;.grind[uM]
  have hout:(nl.map (jv s L)).filter (λx=>decide ((n:Int)<x.1))=(((List.range' n (V.length-n)).flatMap (kV s n V)).map (jv s L)):=by
   rw [← hnl];have e:gQ s n V V.length=gQ s n V n++(List.range' n (V.length-n)).flatMap (kV s n V):=by
    unfold gQ;rw [Rj,show V.length=n+(V.length-n) by omega,← List.range'_append_1,List.flatMap_append,← Rj];simp
   rw [e,iC,Ux];have e1:((gQ s n V n).map (jv s L)).filter (λx=>decide ((n:Int)<x.1))=[]:=by
    rw [List.filter_eq_nil_iff];intro y hy;obtain ⟨x,hx,rfl⟩:=List.mem_map.1 hy;obtain ⟨i,hi,hxi⟩:=uM.1 hx;have:=vX hi hxi;show ¬ decide ((n:Int)<(x.1:Int))=true;simp;omega
   have e2:(((List.range' n (V.length-n)).flatMap (kV s n V)).map (jv s L)).filter (λx=>decide ((n:Int)<x.1))=((List.range' n (V.length-n)).flatMap (kV s n V)).map (jv s L):=by
    rw [List.filter_eq_self];intro y hy;obtain ⟨x,hx,rfl⟩:=List.mem_map.1 hy;obtain ⟨i,hi,hxi⟩:=List.mem_flatMap.1 hx;have hi2:=List.mem_range'_1.1 hi;have hb:=Bz hxi;show decide ((n:Int)<(x.1:Int))=true;rcases ET hi2.1 hxi with e4|e4;.have:=h4 e4;simp;omega
    .simp;omega
   grind
  have hone:∀ d k,n<=k->k+d=V.length->(((List.range' k d).flatMap (kV s n V)).map (jv s L)).map (Y4 s L)=V.drop k:=by
   intro d;induction d with
   | zero=>intro k _ hk;rw [AL (by omega)];rfl| succ d ih =>
    intro k hk hd;have hkl:k<V.length:=by omega
    obtain ⟨x,hx⟩:=uP hk (hok k hkl);have hxk:=jg hkl hx;have ih2:=ih (k+1) au au;have hc:=(hcell hkl (x:=x) (by rw [hxk];simp)).2;rw [FP,NG,hxk,iC,iC,pX hkl];show [Y4 s L (jv s L x)]++_=_;rw [hc];exact congrArg (V[k]::.) ih2
  unfold apn;rw [hout];have h1:=hone (V.length-n) n (Nat.le_refl n) au;rw [h1];have hst:((List.range n).map λj:Nat=>stF s L (nl.map (jv s L)) ((j:Int)+1))=V.take n:=by
   apply oV;.simp;omega
   .intro j j1 j2;have hj:j<n:=by simpa using j1
    have hjl:j<V.length:=by omega
    rw [Yx,abq,List.getElem_take];have axh:∀ {x y:N5},x∈nl->y∈nl->x.1=y.1->x=y:=λ{x y} hx hy e=>by
     obtain ⟨a,ha,rfl⟩:=oz hx;obtain ⟨b,hb,rfl⟩:=oz hy;rcases Q8 a b with q|q|q;.have:=List.pairwise_iff_getElem.1 hasc a b ha hb q;omega
     .subst q;rfl
     .have:=List.pairwise_iff_getElem.1 hasc b a hb ha q;omega
    cases hw:bF s n j V[j] with
    | none=>have:=hok j hjl;rw [hw] at this;cases this| some o =>cases o with
     | none =>
      have hd:V[j]=[45]:=by
       unfold bF at hw;rw [if_pos hj] at hw;split at hw;.assumption
       .obtain ⟨y,_,e⟩:=Option.map_eq_some_iff.1 hw;cases e
      have hno:JC (nl.map (jv s L)) ((j:Int)+1)=none:=by
       apply ags;intro y hy e;obtain ⟨x,hx,rfl⟩:=List.mem_map.1 hy;have hx2:=hx;rw [← hnl] at hx2;obtain ⟨i,hi,hxi⟩:=uM.1 hx2;have e2:(x.1:Int)=(j:Int)+1:=e;rcases FM i n with q|q
       .have:=vX q hxi;have:i=j:=by omega
        subst this;rw [BA hjl hw] at hxi;cases hxi
       .rcases ET q hxi with e4|e4;.have:=h4 e4;omega
        .omega
      unfold stF;rw [hno,hd]| some x =>
      have hxk:=jg hjl hw;have hxm:=hmem hjl (x:=x) (by rw [hxk];simp);have hx1:=LQ hj hw;have hc:=(hcell hjl (x:=x) (by rw [hxk];simp)).2;cases hs2:JC (nl.map (jv s L)) ((j:Int)+1) with
      | none =>
       exfalso;unfold JC at hs2;rw [NJ] at hs2;have:=hs2 (jv s L x) (List.mem_map.2 ⟨x,hxm,rfl⟩);apply this;show ((x.1:Int) == (j:Int)+1)=true;simp;omega| some y =>
       obtain ⟨m1,m2⟩:=adF hs2;obtain ⟨z,hz,rfl⟩:=List.mem_map.1 m1;have m3:(z.1:Int)=(j:Int)+1:=m2;have:z=x:=axh hz hxm au;subst this;unfold stF;rw [hs2];exact hc
  simp_all
 .cases h
end
def aX (t:List UInt8):List AV:=[.sc (.string (bs t))]
theorem jB.apr {B:World->View->Prop} {P:Program} {f:FuncId} {args:List AV} {xs:List Value} {T:TypeId} {L:List (List UInt8)} (hs:JW args=some xs)(h:∀ w F,B w F->Calls P f xs.toArray w λe w'=>e=.returned (.slice (some ⟨w.heap.size,0,none⟩) L.length L.length)/\w'=w.alloc (.cells (L.map λl=>Value.string (bs l)).toArray T)):jB B P f args (.ls 1 (L.map aX)):=by
 intro w F vs hB hF hR;have:vs=xs:=DX (G:=⟨F,λ_=>0,λ_=>0,λ_=>undef,λ_ _=>False⟩) hs hR.1 λi av u a b=>.pu _ _ (hR.2 i av u a b);subst this;refine (h w F hB).mono λe w' ⟨he,hw⟩=>?_;have hb:Below w.heap.size w w':=by subst hw;exact Gf (Below.refl _ _) _
 have hcell:∀ (i:Nat) l,L[i]?=some l->w'.cell? ⟨w.heap.size,i,none⟩=some (.string (bs l)):=λi l hl=>by
  have hh:w'.heap[w.heap.size]?=some (.cells (L.map λl=>Value.string (bs l)).toArray T):=by
   subst hw;show (w.heap.push _)[w.heap.size]?=_;simp
  rw [Lib.cell_of_heap hh];simp [hl]
 refine ⟨_,newF F w w',he,hb,Bq hF,Bo hF hb,xI,?_⟩;have hlen:L.length=(L.map aX).length:=by simp
 rw [hlen];refine .ls 1 (L.map aX) _ _ ⟨w.heap.size,0,none⟩ (λi j=>((L[i]?).map λl=>Value.string (bs l)).getD undef) (by simp) (λr hr=>?_) (λ_=>rfl) (λi r j av hr hav=>?_) (λi r j av hr hav=>?_);.obtain ⟨l,_,rfl⟩:=List.mem_map.1 hr;rfl
 .rw [dw] at hr;cases hx:L[i]? with
  | none=>simp [hx] at hr| some l =>
   rw [hx] at hr;obtain rfl:aX l=r:=by simpa using hr
   match j,hav with
   | 0,hav =>
    refine ⟨?_,by simp [Value.oneCell']⟩;unfold newF;have e:Addr.add (⟨w.heap.size,0,none⟩:Addr) (i*1+0)=⟨w.heap.size,i,none⟩:=by
     simp [Addr.add];intro h;exact h.symm
    rw [e,if_neg (by show ¬ w.heap.size<w.heap.size;omega),hcell i l hx];simp| j+1,hav=>simp [aX] at hav
 .rw [dw] at hr;cases hx:L[i]? with
  | none=>simp [hx] at hr| some l =>
   rw [hx] at hr;obtain rfl:aX l=r:=by simpa using hr
   match j,hav with
   | 0,hav =>
    obtain rfl:AV.sc (.string (bs l))=av:=by simpa [aX] using hav
    simp [hx];exact .sc _| j+1,hav=>simp [aX] at hav
end
section
open Go.RowKit Go.Shelf
attribute [local go_sem]Oper.semAt_some
def Io:Int->List Ev->Int
 | t,[]=>t| t,e::r=>Io (if 0<JZ e.val e.dot e.three then JZ e.val e.dot e.three else t) r
theorem VL (e:Ev):∀ (t:Int)(l:List Ev),Io t (l++[e])=if 0<JZ e.val e.dot e.three then JZ e.val e.dot e.three else Io t l
 | t,[]=>rfl| t,x::l=>VL e _ l
theorem ahH {evs:List Ev} {k:Nat} (h:k<evs.length)(t:Int):Io t (evs.take (k+1))=if 0<JZ evs[k].val evs[k].dot evs[k].three then JZ evs[k].val evs[k].dot evs[k].three else Io t (evs.take k):=by rw [kF h,VL]
theorem zH {a b:World} (h:Below a.heap.size a b)(row:Option Nat):a.grownBy b row:=⟨h.os,h.tape,h.output,h.size,λk hk _=>h.block k hk⟩
theorem QN (n:Nat) (hn:1<=n) (l Bp n₀ len c:Nat) (A:Option Addr) (evs:List Ev) (hlen:evs.length=len) (hO:len<=420) (B0:Nat) (J:Nat->World->Prop) (hJ:AbidesFrom B0 J)(hY:∀ k W,J k W->k < len->YieldAt Fence.wide (n - 1) Tryz.prog l #[.int .i64 (k:Int),.int .i64 (Io 0 (evs.take (k+1)))] W λe W'=>e=.returned (.bool true)/\J (k+1) W'/\Below n₀ W W')(W:World) (hn₀:n₀<=W.heap.size) (hc:W.cell? ⟨Bp,2,none⟩=some (.slice A len c)) (hE:vO W n₀ A evs) (h0:J 0 W) :CallsIn Fence.wide n Tryz.prog 212 #[.func (.yield l) #[] #[],.pointer (some ⟨Bp,0,none⟩)] W λe W'=>(∃ v,e=.returned v)/\J len W':=by
 have HE:=Lib.hid hE;have HJ:=Lib.hid hJ;have HL:=Lib.hid hlen;clear hE hlen;refine callsIn_of_wp Tryz.func212 rfl trivial ?_ rfl;simp only [Tryz.ntmps212,QY,pW,AA,Nat.reduceAdd,Nat.reduceSub,abm,abn,List.push_toArray,abo,Un,QW];gi_wp2;gi_loopw [3,10] (λt i wr=>∃ k:Nat,k<=len/\i=.int .i64 k/\t=.int .i64 (Io 0 (evs.take k))/\J k wr/\Below n₀ W wr)(λ_ i _=>len - (intOf i).toNat);case atStart=>exact ⟨0,iT _,rfl,rfl,h0,Below.refl _ _⟩
 case round =>
  obtain ⟨k,hk,rfl,rfl,hJs,hnx⟩:=hrel;have HX:=Lib.hid hnx;by_cases hlt:k < len
  .have hk2:k < evs.length:=by have:=HL.out;omega
   obtain ⟨ad,S,c',hA,hb,e0,e1,e2,e3,e4,e5,hS⟩:=(HE.out.below hnx).ev hk2;subst hA;have hfr:=ahH hk2 0;have KT:=Lib.hid (λw=>QM evs[k].val evs[k].dot evs[k].three w);obtain ⟨T,hT⟩:∃ T,JZ evs[k].val evs[k].dot evs[k].three=T:=⟨_,rfl⟩;rw [hT] at hfr KT;obtain ⟨e,he⟩:∃ e,evs[k]=e:=⟨_,rfl⟩;rw [he] at e0 e1 e2 e3 e4 e5 KT;obtain ⟨m,hm⟩:∃ m,e.stops.length=m:=⟨_,rfl⟩;rw [hm] at e5;clear hS hT;have HFR:=Lib.hid hfr;have HY:=hY k;by_cases hT0:0 < T
   .rw [if_pos hT0] at HFR;gi_wp2_with (refine ⟨trivial,?_⟩;gi_at_call 172;refine (callsIn_wide.2 (KT.out _)).mono ?_;rintro e' w1 ⟨rfl,hb1⟩;have hbb:Below wr.heap.size wr w1:=((Below.refl _ wr).alloc (Nat.le_refl _) _).trans (hb1.mono (by simp));have HBB:=Lib.hid hbb;obtain ⟨fn,tmps,assign,body,hy,hR⟩:=HY w1 (HJ.out _ wr w1 none hJs (zH hbb _) (λr h=>by cases h)) hlt;clear hbb;rw [HFR.out] at hy);exact asD
   .rw [if_neg hT0] at HFR;obtain ⟨T0,awQ⟩:∃ T0,Io 0 (evs.take k)=T0:=⟨_,rfl⟩;rw [awQ] at HFR;rw [awQ];gi_wp2_with (refine ⟨trivial,?_⟩;gi_at_call 172;refine (callsIn_wide.2 (KT.out _)).mono ?_;rintro e' w1 ⟨rfl,hb1⟩;have hbb:Below wr.heap.size wr w1:=((Below.refl _ wr).alloc (Nat.le_refl _) _).trans (hb1.mono (by simp));have HBB:=Lib.hid hbb;obtain ⟨fn,tmps,assign,body,hy,hR⟩:=HY w1 (HJ.out _ wr w1 none hJs (zH hbb _) (λr h=>by cases h)) hlt;clear hbb;rw [HFR.out] at hy);exact asD
  .obtain rfl:k=len:=by omega
   gi_wp2;go_end0;exact ⟨⟨_,rfl⟩,hJs⟩
theorem QO (M:PM) (p:bV) (w:World):Calls Tryz.prog 153 #[jD M p] w λe w'=>e=.returned (.func (.func 212) #[] #[.pointer (some ⟨w.heap.size,0,none⟩)]) /\w'=w.alloc (.cells #[.slice M.A1 p.cs.length M.c1,.slice M.A2 p.st.length M.c2,.slice M.A3 p.evs.length M.c3] 30):=by
 unfold jD;go_enter Tryz.func153,Tryz.ntmps153;go_wp2;go_ret;exact ⟨rfl,rfl⟩
def adz (n₀:Nat)(I:Nat->World->Prop)(k:Nat)(W:World):Exit->Act->World->Prop
 | .normal,_,W'=>KeepsOthers W W'/\Below n₀ W W'/\I (k+1) W'| _,_,_=>False
theorem Yq {P:Program} {n:Nat} {g:Operand} {ps:Array Tmp} {assign body:Code} {Q:Exit->Act->World->Prop} {a:Act} {w:World} {gf:Nat} {lb:Array Value}(hg:a.eval g=.func (.func gf) #[] lb) (eg:∀ args w,(callFunc gf args).run P w=.ok (.enter gf args) w) {encs:Nat->Array Value} {len n₀:Nat} (hn₀:n₀<=w.heap.size)(hit:∀ (l:Nat) (J:Nat->World->Prop) (W:World),Below w.heap.size w W->AbidesFrom W.heap.size J ->(∀ k W1,J k W1->k < len->YieldAt Fence.wide (n - 1 - 1) P l (encs k) W1 λe W'=>e=.returned (.bool true)/\J (k+1) W'/\Below n₀ W1 W')->J 0 W ->CallsIn Fence.wide (n - 1) P gf (#[.func (.yield l) #[] #[]]++lb) W λe W'=>(∃ v,e=.returned v)/\J len W')(hps:∀ k,(encs k).size=ps.size) (I:Nat->World->Prop) (hI:OwnFrom w.heap.size I) (h0:I 0 w) (a₁:Nat->Act)(hassign:∀ (l k:Nat) (W:World) (K:Act->World->Prop),K (a₁ k) W ->assign.wpIn (Fence.wide.inRound l) (n - 1 - 1) P (Exit.then K (λ_ _ _=>False)) { tmps:=(ps.zip (encs k)).foldl (λt (p,v)=>t.setIfInBounds p v) a.tmps,defers:=[] } W)(hbody:∀ (l k:Nat) (W:World),I k W->k < len->body.wpIn (Fence.wide.inRound l) (n - 1 - 1) P (adz n₀ I k W) (a₁ k) W)(hdone:∀ (D:Nat) (W:World),w.heap.size<=D->I len W->W.heap[D]?=some (.deferred (some []))->Q .normal { a with defers:={ target:=.collected D,args:=#[] }::a.defers } W) :(Code.rangeFunc g ps assign body).wpIn Fence.wide n P Q a w:=by
 refine wpIn_rangeFunc λfn hfn=>?_;obtain ⟨rec,hrec⟩:∃ rec:LoopState->Option Code->Loop,rec=λst pe=>{ state:=st,pending:=pe,fn,tmps:=a.tmps,params:=ps,assign,body,defers:=w.heap.size }:=⟨_,rfl⟩;obtain ⟨W1,hW1⟩:∃ W1,(w.alloc (.deferred (some []))).alloc (.loop (rec .ready none))=W1:=⟨_,rfl⟩;have hL:W1.heap[w.heap.size+1]?=some (.loop (rec .ready none)):=by
  have:=World.alloc_heap_new (w.alloc (.deferred (some []))) (.loop (rec .ready none));rwa [World.size_alloc,hW1] at this
 have hD:W1.heap[w.heap.size]?=some (.deferred (some [])):=by rw [← hW1];exact (Below.heap_alloc _ _ _ (by simp)).trans (World.alloc_heap_new w _)
 have hB1:Below w.heap.size w W1:=by rw [← hW1];exact ((Below.refl _ w).alloc (Nat.le_refl _) _).alloc (by simp) _
 have hS1:w.heap.size<=W1.heap.size:=hB1.size;refine ⟨w.heap.size+1,[{ target:=.collected w.heap.size,args:=#[] }],W1,{ target:=.fn (.func gf) lb,args:=#[.func (.yield (w.heap.size+1)) #[] #[]] },W1,gf,#[.func (.yield (w.heap.size+1)) #[] #[]]++lb,W1,?_,?_,λ_ _=>trivial,?_,λh=>?_,?_⟩;.rw [← hW1,hrec];exact run_enterLoop_outer _ _ _ _ _
 .simp only [resolve,hg];simp [go_sem]
 .simp [invoke,go_sem,eg]
 .simp [Fence.wide] at h
 .have turn:∀ {A B:World} {row:Option Nat} {k:Nat} {o:Obj},A.grownBy B row->(∀ r,row=some r->W1.heap.size<=r/\∃ o:Obj,A.heap[r]?=some o/\o.isWalk=true)->A.heap[k]?=some o->o.isWalk=false->B.heap[k]?=some o :=λhg' hr hk ho=>(grownBy_keeps hg' (λr e=>(hr r e).2) hk ho).trans hk;refine (hit (w.heap.size+1) (λk W=>I k W/\W.heap[w.heap.size+1]?=some (.loop (rec .ready none))/\W.heap[w.heap.size]?=some (.deferred (some []))) W1 hB1 (λs A B row hs hg' hr=>⟨hI s A B row hs.1 hg' λr e=>⟨gX hS1 (hr r e).1,(hr r e).2.imp λo h=>⟨h.1,Obj.not_cells_of_walk h.2⟩⟩,turn hg' hr hs.2.1 rfl,turn hg' hr hs.2.2 rfl⟩) ?_ ⟨by rw [← hW1];exact hI.alloc _ (hI.alloc _ h0),hL,hD⟩).mono ?_
  .rintro k W ⟨hi,hl,hd⟩ hk;have hlt:w.heap.size+1 < W.heap.size:=(Array.getElem?_eq_some_iff.1 hl).1;have hy:=run_yield (P:=P) (args:=encs k) hl (by rw [hrec];exact hps k);rw [hrec] at hy;refine ⟨fn,_,assign,body,hy,roundIn_of_wpIn hfn (hassign _ k W _ ⟨_,run_beginRound hl (by rw [hrec]),?_⟩)⟩;obtain ⟨W2,hW2⟩:∃ W2,W.putObj (w.heap.size+1) (.loop { rec .ready none with state:=.busy })=W2:=⟨_,rfl⟩;have hl2:W2.heap[w.heap.size+1]?=some (.loop { rec .ready none with state:=.busy }):=by rw [← hW2];exact World.putObj_heap_same hlt
   have hd2:W2.heap[w.heap.size]?=some (.deferred (some [])):=by rw [← hW2];exact (World.putObj_heap_other (by omega)).trans hd
   have hb2:Below n₀ W W2:=by rw [← hW2];exact belowK_b hn₀ W _ _ _ (by omega) hl rfl rfl
   have hi2:I k W2:=by rw [← hW2];exact hI.putObj _ hi (by omega) hl rfl
   rw [hW2];refine wpIn_mono (hbody _ k W2 hi2 hk) ?_;rintro e a3 W3 hp;cases e with
   | normal =>
    obtain ⟨hk3,hb3,hi3⟩:=hp;have hl3:=hk3.same _ _ hl2 rfl;have hr:=run_endRound (P:=P) none hl3;rw [hrec] at hr;refine ⟨_,_,hr,rfl,⟨hI.putObj _ hi3 au hl3 rfl,?_,(World.putObj_heap_other au).trans (hk3.same _ _ hd2 rfl)⟩,(hb2.trans hb3).trans (belowK_b hn₀ W3 _ _ _ au hl3 rfl rfl)⟩;rw [hrec];exact World.putObj_heap_same (Array.getElem?_eq_some_iff.1 hl3).1| ret=>exact hp.elim| exit id=>exact hp.elim| goto t=>exact hp.elim| panic ch=>exact hp.elim| outgrown=>exact hp.elim
  .rintro e W2 ⟨⟨v,rfl⟩,hi,hl,hd⟩;have hr:=run_endLoop (P:=P) hl (by rw [hrec];simp);rw [hrec] at hr;exact ⟨none,_,hr,hdone _ _ (Nat.le_refl _) (hI.putObj _ hi au hl rfl) ((World.putObj_heap_other au).trans hd)⟩
end
section
open Go.RowKit
theorem Xx (M:PM)(p:bV)(w:World)(hP:ag9 w w.heap.size M p)(hO:jh p)(hC:∀ w':World,Below w.heap.size w w'->Calls Tryz.prog 51 #[jD M p] w' (iZ (.int .i64 (bM p)) w'))(h0:bM p≠0):Calls Tryz.prog 79 #[jD M p] w (iZ (.tuple #[.slice none 0 0,.int .i64 (bM p)]) w):=by
 obtain⟨E,hE⟩:∃ E,bM p=E:=⟨_,rfl⟩;rw [hE] at hC h0 ⊢;obtain⟨A1,A2,A3,c1,c2,c3⟩:=M;unfold jD at *;simp only at *;have HC:=Lib.hid hC;have e1:(E == 0)=false:=by simpa using h0
 have e2:(E != 0)=true:=by simpa using h0
 clear hC hP hO h0 hE;go_enter Tryz.func79,Tryz.ntmps79;exact amT
theorem O4 (M:PM)(p:bV)(w:World)(hP:ag9 w w.heap.size M p)(hO:jh p)(hC:∀ w':World,Below w.heap.size w w'->Calls Tryz.prog 51 #[jD M p] w' (iZ (.int .i64 (bM p)) w'))(h0:bM p≠0):Calls Tryz.prog 116 #[jD M p] w (iZ (.tuple #[.slice none 0 0,.int .i64 (bM p)]) w):=by
 obtain⟨E,hE⟩:∃ E,bM p=E:=⟨_,rfl⟩;rw [hE] at hC h0 ⊢;obtain⟨A1,A2,A3,c1,c2,c3⟩:=M;unfold jD at *;simp only at *;have HC:=Lib.hid hC;have e1:(E == 0)=false:=by simpa using h0
 have e2:(E != 0)=true:=by simpa using h0
 clear hC hP hO h0 hE;go_enter Tryz.func116,Tryz.ntmps116;exact amT
end
end Go.Proofs.YthohlofpphjofaaGreatDoor
