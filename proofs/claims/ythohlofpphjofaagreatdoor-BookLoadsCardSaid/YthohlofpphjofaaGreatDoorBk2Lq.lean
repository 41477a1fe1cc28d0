/- Books: the reference's Check, Find, Copy, Same; how big a book is. -/
import Derived.Test.YthohlofpphjofaaGreatDoorMlPLq
import Derived.Test.YthohlofpphjofaaGreatDoorClmLq
set_option maxHeartbeats 8000000
set_option maxRecDepth 100000
set_option linter.unusedVariables false
set_option linter.unusedSimpArgs false
namespace Go.Proofs.YthohlofpphjofaaGreatDoor
theorem adY {p:Prop}(h:p:=by rw [mW];omega):p:=h
theorem Vb {p:Prop}(h:p:=by
 refine AX ?_;exact qL):p:=h
theorem ab9 {p:Prop}(h:p:=by
 refine W.tr (Tr.afe (t:=4) 1 rfl) ?_;exact gZ):p:=h
theorem al4 {p:Prop}(h:p:=by
 show (match p.evs[k]? with|some e=>_|none=>_)=_;rw [aO hk]):p:=h
theorem aln {p:Prop}(h:p:=by
 clear hk0;gi_wp2;rw [← Int.zero_add T];exact WX (x:=((k:Int),0,0)) hT (if_pos hN) hv2 hr2 hB azJ hb2):p:=h
theorem ali {p:Prop}(h:p:=by exact ⟨k+1,⟨by omega,λi hi h=>by
  by_cases e:i=k;.subst e;exact he
  .exact hno i au h⟩,by omega,(zqt id)⟩):p:=h
theorem akX {p q:Prop}(k:q)(h:iF q->p:=by
 intro hq;repeat (first|refine DK.st rfl ?_|refine DK.ixs rfl rfl wY ?_|refine DK.nil ?_)
 exact hq.k):p:=h ⟨k⟩
theorem YQ {p q:Prop}(k:q)(h:iF q->p:=by
 intro hq;repeat (first|refine nD.st rfl rfl ?_|refine nD.nil ?_)
 exact hq.k):p:=h ⟨k⟩
section
open Go.RowKit
def auF (p:bV):List (List AV):=if bM p=0 then (jG p.evs p.evs.length).map eInt else []
def VB (p:bV):AV:=.ag [.ls 3 (p.cs.map bg),.ls 1 (p.st.map eInt),.ls 6 (p.evs.map iO),.ls 1 (auF p)]
theorem ae9 (p:bV) (hO:jh p):bC Tryz.prog 233 [iG p] (.tu [VB p,.sc (.int .i64 (bM p))]):=by
 refine dV Tryz.func233 Tryz.ntmps233 λw0 F0=>?_;dsimp only [St.init,number,Nat.reduceAdd];refine H7 ?_;refine WL.vl rfl (WV.call rfl (aj Tryz.func79 rfl rfl) rfl rfl (DI p hO)) ?_;refine H7 ?_;exact gZ
theorem ati (p:bV) (hO:jh p) (h0:bM p=0):bC Tryz.prog 267 [VB p] (.sc (.int .i64 (aY p.evs p.evs.length))):=by
 have hn:=hO.n3;have hl:(jG p.evs p.evs.length).length=p.evs.length+1:=rC _ _;have he:VB p=.ag [.ls 3 (p.cs.map bg),.ls 1 (p.st.map eInt),.ls 6 (p.evs.map iO),.ls 1 ((jG p.evs p.evs.length).map eInt)]:=by unfold VB auF;rw [if_pos h0]
 rw [he];refine dV Tryz.func267 Tryz.ntmps267 λw0 F0=>?_;dsimp only [St.init,number,Nat.reduceAdd];refine aAA ?_;refine W.ret (fin1 rfl rfl (Ak ?_) rfl);simp [jG]
def ap7 (p:bV):List AV:=[.ls 3 (p.cs.map bg),.ls 1 (p.st.map eInt),.ls 6 (p.evs.map iO),.ls 1 ((jG p.evs p.evs.length).map eInt)]
theorem Sr {p:bV} (h0:bM p=0):VB p=.ag (ap7 p):=by unfold VB auF ap7;rw [if_pos h0]
theorem aqd (p:bV) (hO:jh p) (h0:bM p=0) (i:Nat) (h:Int) (hh:0<=h) (hi:i+h.toNat+1<=p.evs.length) :bC Tryz.prog 268 [VB p,.sc (.int .i64 i),.sc (.int .i64 h)] (.sc (.int .i64 ((pR p.evs (i+h.toNat+1):Int) - 1))):=by
 have hn:=hO.n3;rw [Sr h0];unfold ap7;obtain ⟨q,rfl⟩:∃ q:Nat,h=q:=⟨h.toNat,by omega⟩;simp only [gy] at hi ⊢;refine dV Tryz.func268 Tryz.ntmps268 λw0 F0=>?_;dsimp only [St.init,number,Nat.reduceAdd];refine avt ?_;refine W.loop (λm:Nat=>i+q<=m/\m+1<=p.evs.length/\pR p.evs (i+q+1)=pR p.evs (m+1)) (λm=>⟨[(3,.pt 0 0 0),(7,.sc (.int .i64 m))],[(0,.box 328 [.ls 3 (p.cs.map bg),.ls 1 (p.st.map eInt),.ls 6 (p.evs.map iO),.ls 1 ((jG p.evs p.evs.length).map eInt)])],1⟩) (λm=>p.evs.length - m) (i+q) ⟨Nat.le_refl _,by omega,rfl⟩ (zqt id) λm hm=>?_;obtain ⟨hm1,hm2,hm3⟩:=hm;have ez:((m:Int)+1).toNat=m+1:=by omega
 by_cases hlt:m+1 < p.evs.length
 .refine ax7 ?_;(refine W.cond rfl (λhif=>?_) (λhif=>?_)<;>(try simp only [dH,dO,eu,eF,dP,eG] at hif))
  .refine avt ?_;exact ⟨m+1,⟨by omega,by omega,by rw [hm3,agx hlt hif]⟩,by omega,(zqt id)⟩
  .rw [show ((pR p.evs (i+q+1):Int) - 1)=m by rw [hm3,ake hlt hif];omega];refine avt ?_;exact W.ret kR
 .refine ax7 ?_;refine W.ret (fin1 rfl rfl (Ak ?_) rfl);rw [hm3,agw (by omega)];omega
theorem D5 {s:NS} (h:F7 s)(t:Int):∀ k,F7 (nI t k s)/\(nI t k s).out.length=s.out.length
 | 0=>⟨h,rfl⟩| k+1=>by
  obtain⟨h1,h2⟩:=D5 h t k;obtain⟨h3,h4⟩:=Nj h1 k t;exact⟨h3,h4.trans h2⟩
theorem anZ {p:bV} {i:Nat} {x:Stp} {s:NS} (h:F7 s)(hx:1<=x.1/\x.1<=14)(hl:s.out.length<10000):F7 (addN p i x s)/\(addN p i x s).out.length=s.out.length+1:=by
 obtain⟨h1,h2⟩:=Nj h x.1.toNat (aY p.evs i);unfold addN;refine⟨⟨?_,λc=>?_,by simp;omega⟩,by simp;omega⟩
 .dsimp only;split;.exact h1.len
  .simpa using h1.len
 .have h3:=h1.rng c;dsimp only;rw [dS];split;.simp only [Je];omega
  .by_cases e:x.1.toNat=c
   .subst e;simp only [dL];rw [sK (by rw [h1.len];omega)];simp;omega
   .simp only [dL]at h3 ⊢;rw [pV e];simp only [Je];omega
theorem RS {p:bV} {k:Nat} {l:List Stp} {s:NS} (h:F7 s) (hx:∀ x∈l,1<=x.1/\x.1<=14) (hl:s.out.length+l.length<10000):∀ q,q<=l.length->F7 (uq p k l s q)/\(uq p k l s q).out.length=s.out.length+q
 | 0,_=>⟨h,rfl⟩| q+1,hq=>by
  obtain ⟨h1,h2⟩:=RS h hx hl q au;have e:uq p k l s (q+1)=addN p k l[q] (uq p k l s q):=by
   show (match l[q]? with|some x=>addN p k x (uq p k l s q)|none=>uq p k l s q)=_;rw [aO (by omega)]
  rw [e];obtain ⟨h3,h4⟩:=anZ (p:=p) (i:=k) h1 (hx l[q] (gB _)) (by omega);exact ⟨h3,by omega⟩
theorem Xq {p:bV} {k:Nat} {e:Ev} {s:NS} (h:F7 s):F7 (vY p k e s)/\(vY p k e s).out.length=s.out.length:=by
 unfold vY;split;.exact D5 h _ 15
 .exact⟨h,rfl⟩
theorem aiT {p:bV} {k:Nat} (hk:k<p.evs.length):zY p (k+1)=uq p k p.evs[k].stops (vY p k p.evs[k] (zY p k)) p.evs[k].stops.length:=by exact al4
theorem adp {p:bV} {k:Nat} (hk:k<p.evs.length):DN p (k+1)=DN p k++p.evs[k].stops.map (XC p k):=by exact al4
theorem aag {p:bV} (hO:jh p) (h0:bM p=0):∀ k,k<=p.evs.length->F7 (zY p k)/\(zY p k).out.length<=20*k
 | 0,_=>⟨⟨by simp [zY],λc=>by
   have e:(zY p 0).ring.getD c 0=0:=by
    show (List.replicate 15 (0:Int)).getD c 0=0;rw [dL,abl];split<;>rfl
   rw [e];exact ⟨wz 0,wz 0⟩,by simp [zY]⟩,by simp [zY]⟩| k+1,hk=>by
  obtain ⟨h1,h2⟩:=aag hO h0 k au;have hk':k<p.evs.length:=by omega
  have hn:=hO.n3;have h20:=hO.n4 k hk';obtain ⟨h3,h4⟩:=Xq (p:=p) (k:=k) (e:=p.evs[k]) h1;obtain ⟨h5,h6⟩:=RS (p:=p) (k:=k) h3 (λx hx=>⟨((Bj h0 hk').stops x hx).aI.1,((Bj h0 hk').stops x hx).c14⟩) au p.evs[k].stops.length (Nat.le_refl _);rw [aiT hk'];exact ⟨h5,by omega⟩
theorem XD {p:bV} (hO:jh p):∀ k,k<=p.evs.length->(DN p k).length<=20*k
 | 0,_=>by simp [DN]| k+1,hk=>by
  have h1:=XD hO k au;have h20:=hO.n4 k au;rw [adp (by omega)];simp;omega
theorem akg (z:Int)(t:Int)(s:NS)(hz:1<=z/\z<=14)(h:F7 s) :jr jJ 0 Tryz.prog 265 [.sc (.int .i64 z),.sc (.int .i64 t),.pt 0 0 0,.pt 1 0 0] [(0,.box 355 (pz s.ring)),(1,.box 267 [.sl 2]),(2,.row 273 5 (s.out.map xA))] 3 (.tu []) [(0,.box 355 (pz (pU z.toNat t s).ring)),(1,.box 267 [.sl 2]),(2,.row 273 5 ((pU z.toNat t s).out.map xA))] 3:=by
 obtain⟨c,rfl⟩:∃ c:Nat,z=c:=⟨z.toNat,by omega⟩;rw [gy];exact Qq c t s au h
theorem TF {evs:List Ev} {n i:Nat} (h:i<=n):(jG evs n)[i]?=some (aY evs i):=by
 unfold jG;rw [dw,Uk (by omega)];rfl
theorem Xp {evs:List Ev} {n i:Nat} (h:i<=n)(h2:i<(jG evs n).length):(jG evs n)[i]=aY evs i:=by
 have:=TF (evs:=evs) h;rw [aO h2] at this;exact Option.some.inj this
theorem aiE (p:bV) (hO:jh p) (h0:bM p=0):bC Tryz.prog 234 [VB p] (.tu [.ls 5 ((zY p p.evs.length).out.map xA),.ls 5 ((DN p p.evs.length).map xA)]):=by
 have hn:=hO.n3;have hl:(jG p.evs p.evs.length).length=p.evs.length+1:=rC _ _;have hE:=ati p hO h0;have hSt:=aqd p hO h0;obtain ⟨hI,hn4,_⟩:=uo h0;obtain ⟨i1,i2,i3,i4,i5⟩:=uG hI;rw [Sr h0] at hE hSt ⊢;unfold ap7 at hE hSt ⊢;refine dV Tryz.func234 Tryz.ntmps234 λw0 F0=>?_;dsimp only [St.init,number,Nat.reduceAdd];refine AX ?_;refine WL.vl rfl (WV.mkf rfl rfl) ?_;refine AX ?_;refine W.tr (Tr.oJ (k:=1) (j:=0) 273 5 rfl rfl rfl rfl) ?_;refine W.tr (Tr.nil (t:=5) 360 5 rfl rfl) ?_;refine RG ?_;refine W.loop (λk:Nat=>k<=p.evs.length) (λk=>⟨[(1,.pt 0 0 0),(4,.pt 1 0 0),(5,.sl 4),(6,.pt 2 0 0),(7,.fn 265 [.pt 2 0 0,.pt 1 0 0]),(20,.ls 6 (p.evs.map iO)),(21,.sc (.int .i64 p.evs.length)),(22,.sc (.int .i64 k))],[(0,.box 328 [.ls 3 (p.cs.map bg),.ls 1 (p.st.map eInt),.ls 6 (p.evs.map iO),.ls 1 ((jG p.evs p.evs.length).map eInt)]),(1,.box 267 [.sl 3]),(2,.box 355 (pz (zY p k).ring)),(3,.row 273 5 ((zY p k).out.map xA)),(4,.row 360 5 ((DN p k).map xA))],5⟩) (λk=>p.evs.length - k) 0 au (zqt id) λk hk=>?_;obtain ⟨hok,hsz⟩:=aag hO h0 k hk;have hpl:=XD hO k hk;by_cases hlt:k < p.evs.length;rotate_left
 ·obtain rfl:k=p.evs.length:=by omega
  refine Pj ?_;refine W.tr (Tr.freeze 3 rfl) ?_;refine W.tr (Tr.freeze 4 rfl) ?_;exact gZ
 have h20:=hO.n4 k hlt;have hev:=Bj h0 hlt;have azV:(jG p.evs p.evs.length)[k]' au=aY p.evs k:=Xp au _;obtain ⟨hok2,hsz2⟩:=Xq (p:=p) (k:=k) (e:=p.evs[k]) hok;refine Pj ?_;rw [azV];refine WL.ac5 ⟨[(1,.pt 0 0 0),(4,.pt 1 0 0),(5,.sl 4),(6,.pt 2 0 0),(7,.fn 265 [.pt 2 0 0,.pt 1 0 0]),(20,.ls 6 (p.evs.map iO)),(21,.sc (.int .i64 p.evs.length)),(22,.sc (.int .i64 k)),(8,.sc (.int .i64 k)),(9,.pt 5 0 0),(10,.sc (.int .i64 (aY p.evs k)))],[(0,.box 328 [.ls 3 (p.cs.map bg),.ls 1 (p.st.map eInt),.ls 6 (p.evs.map iO),.ls 1 ((jG p.evs p.evs.length).map eInt)]),(1,.box 267 [.sl 3]),(2,.box 355 (pz (vY p k p.evs[k] (zY p k)).ring)),(3,.row 273 5 ((vY p k p.evs[k] (zY p k)).out.map xA)),(4,.row 360 5 ((DN p k).map xA)),(5,.box 90 (iO p.evs[k]))],6⟩ ?_ ?_
 ·refine WL.aP rfl rfl rfl rfl (λhp=>?_) (λhp=>?_)
  ·have hp:=rP hp;refine AX ?_;(refine W.cond rfl (λhif=>?_) (λhif=>?_)<;>(try simp only [dH,dO,eu,eF,dP,eG] at hif))
   ·have hr:lC p.evs[k]=true:=by unfold lC;simp [hif];exact sN (by omega)
    have ho:vY p k p.evs[k] (zY p k)=nI (aY p.evs k) 15 (zY p k):=if_pos hr;rw [ho];refine AX ?_;refine W.loop (λc:Nat=>c<=15) (λc=>⟨[(1,.pt 0 0 0),(4,.pt 1 0 0),(5,.sl 4),(6,.pt 2 0 0),(7,.fn 265 [.pt 2 0 0,.pt 1 0 0]),(20,.ls 6 (p.evs.map iO)),(21,.sc (.int .i64 p.evs.length)),(22,.sc (.int .i64 k)),(8,.sc (.int .i64 k)),(9,.pt 5 0 0),(10,.sc (.int .i64 (aY p.evs k))),(41,.sc (.int .i64 c))],[(0,.box 328 [.ls 3 (p.cs.map bg),.ls 1 (p.st.map eInt),.ls 6 (p.evs.map iO),.ls 1 ((jG p.evs p.evs.length).map eInt)]),(1,.box 267 [.sl 3]),(2,.box 355 (pz (nI (aY p.evs k) c (zY p k)).ring)),(3,.row 273 5 ((nI (aY p.evs k) c (zY p k)).out.map xA)),(4,.row 360 5 ((DN p k).map xA)),(5,.box 90 (iO p.evs[k]))],6⟩) (λc=>15 - c) 0 au (zqt id) λc hc=>?_;by_cases hc2:c < 15
    ·refine Pj ?_;refine WL.qQ (dD _) [2,1,3] rfl rfl (aj Tryz.func265 rfl rfl) (Qq c (aY p.evs k) _ hc2 (D5 hok _ c).1) rfl rfl rfl ⟨⟨rfl,rfl,rfl⟩,⟨rfl,rfl,rfl⟩,⟨rfl,rfl,rfl⟩,trivial⟩ rfl rfl rfl rfl ?_;refine Pj ?_;exact ⟨c+1,by omega,by omega,(zqt id)⟩
    ·obtain rfl:c=15:=by omega
     refine Pj ?_;exact qL
   ·have ho:vY p k p.evs[k] (zY p k)=zY p k:=if_neg (by unfold lC;simp [hif]);rw [ho];exact Vb
  ·have hp:=zi hp;have ho:vY p k p.evs[k] (zY p k)=zY p k:=if_neg (by unfold lC;simp;intro h;rw [h] at hp;exact absurd rfl hp);rw [ho];exact Vb
 refine AX ?_;have hst:∀ x∈p.evs[k].stops,1<=x.1/\x.1<=14:=λx hx=>⟨(hev.stops x hx).aI.1,(hev.stops x hx).c14⟩;obtain ⟨S0,hS0⟩:∃ S0,vY p k p.evs[k] (zY p k)=S0:=⟨_,rfl⟩;rw [hS0] at hok2 hsz2 ⊢;refine W.loop (λq:Nat=>q<=p.evs[k].stops.length) (λq=>⟨[(1,.pt 0 0 0),(4,.pt 1 0 0),(5,.sl 4),(6,.pt 2 0 0),(7,.fn 265 [.pt 2 0 0,.pt 1 0 0]),(20,.ls 6 (p.evs.map iO)),(21,.sc (.int .i64 p.evs.length)),(22,.sc (.int .i64 k)),(8,.sc (.int .i64 k)),(9,.pt 5 0 0),(10,.sc (.int .i64 (aY p.evs k))),(50,.ls 5 (p.evs[k].stops.map bI)),(51,.sc (.int .i64 p.evs[k].stops.length)),(52,.sc (.int .i64 q))],[(0,.box 328 [.ls 3 (p.cs.map bg),.ls 1 (p.st.map eInt),.ls 6 (p.evs.map iO),.ls 1 ((jG p.evs p.evs.length).map eInt)]),(1,.box 267 [.sl 3]),(2,.box 355 (pz (uq p k p.evs[k].stops S0 q).ring)),(3,.row 273 5 ((uq p k p.evs[k].stops S0 q).out.map xA)),(4,.row 360 5 ((DN p k++(p.evs[k].stops.take q).map (XC p k)).map xA)),(5,.box 90 (iO p.evs[k]))],6⟩) (λq=>p.evs[k].stops.length - q) 0 (by omega) (ku (λq=>q) (by repeat (first|exact trivial|refine ⟨⟨?_,?_,?_⟩,?_⟩|rfl|exact congrArg (λq=>some (AO.row _ _ q)) rfl|exact congrArg (λq=>some (AO.row _ _ q)) (by simp))) rfl) λq hq=>?_;obtain ⟨atT,hsz3⟩:=RS (p:=p) (k:=k) hok2 hst au q hq;by_cases atZ:q < p.evs[k].stops.length;rotate_left
 ·obtain rfl:q=p.evs[k].stops.length:=by omega
  refine Pj ?_;refine ⟨k+1,by omega,by omega,?_⟩;rw [aiT hlt,hS0,adp hlt];exact (ku (λq=>q) (by repeat (first|exact trivial|refine ⟨⟨?_,?_,?_⟩,?_⟩|rfl|exact congrArg (λq=>some (AO.row _ _ q)) rfl|exact congrArg (λq=>some (AO.row _ _ q)) (by rw [jw]))) rfl)
 obtain ⟨S,hS⟩:∃ S,uq p k p.evs[k].stops S0 q=S:=⟨_,rfl⟩;have hadd:uq p k p.evs[k].stops S0 (q+1)=addN p k p.evs[k].stops[q] S:=by
  show (match p.evs[k].stops[q]? with|some x=>addN p k x (uq p k p.evs[k].stops S0 q)|none=>uq p k p.evs[k].stops S0 q)=_;rw [aO atZ,hS]
 have htk:p.evs[k].stops.take (q+1)=p.evs[k].stops.take q++[p.evs[k].stops[q]]:=kF atZ;have hso:=hev.stops _ (gB atZ);rw [hS] at atT hsz3 ⊢;refine Pj ?_;obtain ⟨x,hx⟩:∃ x,p.evs[k].stops[q]=x:=⟨_,rfl⟩;rw [hx] at hadd htk hso ⊢;have hc1:=hso.aI;have hc2:=hso.c14;refine WL.qQ (dD _) [2,1,3] rfl rfl (aj Tryz.func265 rfl rfl) (akg x.1 (aY p.evs k) S ⟨by omega,by omega⟩ atT) rfl rfl rfl ⟨⟨rfl,rfl,rfl⟩,⟨rfl,rfl,rfl⟩,⟨rfl,rfl,rfl⟩,trivial⟩ rfl rfl rfl rfl ?_;obtain ⟨aoJ,az1⟩:=Nj atT x.1.toNat (aY p.evs k);obtain ⟨S1,hS1⟩:∃ S1,pU x.1.toNat (aY p.evs k) S=S1:=⟨_,rfl⟩;rw [hS1] at aoJ az1 ⊢;refine WL.tr (σ':=⟨[(1,.pt 0 0 0),(4,.pt 1 0 0),(5,.sl 4),(6,.pt 2 0 0),(7,.fn 265 [.pt 2 0 0,.pt 1 0 0]),(20,.ls 6 (p.evs.map iO)),(21,.sc (.int .i64 p.evs.length)),(22,.sc (.int .i64 k)),(8,.sc (.int .i64 k)),(9,.pt 5 0 0),(10,.sc (.int .i64 (aY p.evs k))),(50,.ls 5 (p.evs[k].stops.map bI)),(51,.sc (.int .i64 p.evs[k].stops.length)),(52,.sc (.int .i64 q)),(13,.pt 6 0 0)],[(0,.box 328 [.ls 3 (p.cs.map bg),.ls 1 (p.st.map eInt),.ls 6 (p.evs.map iO),.ls 1 ((jG p.evs p.evs.length).map eInt)]),(1,.box 267 [.sl 3]),(2,.box 355 (pz S1.ring)),(3,.row 273 5 (S1.out.map xA)),(4,.row 360 5 ((DN p k++(p.evs[k].stops.take q).map (XC p k)).map xA)),(5,.box 90 (iO p.evs[k])),(6,.box 69 (bI x))],7⟩) (zqt id) ?_;have hAt:=auI p.cs p.st x.1 x.2.1 hI hc1 hso.awz;refine Pj ?_;refine WL.vl rfl (aS Tryz.func266 hAt) ?_;refine Pj ?_;refine W.ay9 9 [false,false,false,false,false,false,false,false,true] [0,6] aK aK aK aK aK Oi ?_;refine YQ ?_;refine nD.v0 rfl (aS Tryz.func267 hE) ?_;refine YQ ?_;refine nD.al rfl rfl rfl rfl Oi ?_;refine YQ ?_;refine ⟨rfl,?_⟩;refine AX ?_;have aza:(addN p k x S).out=S1.out++[xJ p k x]:=by unfold addN;rw [hS1]
 have hL:k+x.2.2.2.2.toNat+1<=p.evs.length:=by have:=Ti hlt x.1;have:=hso.hold;omega
 refine W.meet ⟨[(1,.pt 0 0 0),(4,.pt 1 0 0),(5,.sl 4),(6,.pt 2 0 0),(7,.fn 265 [.pt 2 0 0,.pt 1 0 0]),(20,.ls 6 (p.evs.map iO)),(21,.sc (.int .i64 p.evs.length)),(22,.sc (.int .i64 k)),(8,.sc (.int .i64 k)),(9,.pt 5 0 0),(10,.sc (.int .i64 (aY p.evs k))),(50,.ls 5 (p.evs[k].stops.map bI)),(51,.sc (.int .i64 p.evs[k].stops.length)),(52,.sc (.int .i64 q)),(13,.pt 6 0 0),(16,.pt 7 0 0)],[(0,.box 328 [.ls 3 (p.cs.map bg),.ls 1 (p.st.map eInt),.ls 6 (p.evs.map iO),.ls 1 ((jG p.evs p.evs.length).map eInt)]),(1,.box 267 [.sl 3]),(2,.box 355 (pz (addN p k x S).ring)),(3,.row 273 5 (S1.out.map xA)),(4,.row 360 5 ((DN p k++(p.evs[k].stops.take q).map (XC p k)).map xA)),(5,.box 90 (iO p.evs[k])),(6,.box 69 (bI x)),(7,.box 273 (xA (xJ p k x)))],8⟩ ?_ ?_
 ·(refine W.cond rfl (λhif=>?_) (λhif=>?_)<;>(try simp only [dH,dO,eu,eF,dP,eG] at hif))
  ·have en:xJ p k x=((k:Int),x.1,DJ p.cs p.st x.1 x.2.1,aY p.evs k,aY p.evs (pR p.evs (k+x.2.2.2.2.toNat+1))):=by unfold xJ;rw [if_pos hif]
   have er:(addN p k x S).ring=S1.ring:=by unfold addN;rw [hS1,if_pos hif]
   rw [en,er];have hsy:=hSt k x.2.2.2.2 hso.hold.1 hL;have hj:=akd hL;obtain ⟨J,hJ⟩:∃ J,pR p.evs (k+x.2.2.2.2.toNat+1)=J:=⟨_,rfl⟩;rw [hJ] at hsy hj ⊢;have eJ:∀ h,(jG p.evs p.evs.length)[((J:Int) - 1+1).toNat]'h=aY p.evs J:=λh=>by
    have e:((J:Int) - 1+1).toNat=J:=by omega
    simp only [e];exact Xp hj.2 _
   refine W.dkT 11 aK aK aK aK ?_;refine Oj ?_;refine DK.vl rfl (aS Tryz.func268 hsy) ?_;refine Oj ?_;simp only [eJ];refine ⟨trivial,?_⟩;exact Vb
  ·have en:xJ p k x=((k:Int),x.1,DJ p.cs p.st x.1 x.2.1,aY p.evs k,aY p.evs p.evs.length):=by unfold xJ;rw [if_neg (by omega)]
   have er:(addN p k x S).ring=S1.ring.set x.1.toNat (S1.out.length+1):=by unfold addN;rw [hS1,if_neg (by omega)]
   rw [en,er];have hb4:=aoJ.big;refine Pj ?_;refine WL.idp rfl rfl ⟨by omega,by omega⟩ (show 0+x.1.toNat*1=x.1.toNat by omega) ?_;refine WL.stx rfl rfl rfl rfl (by rw [PD];omega) ?_;rw [PE (by rw [aoJ.len];omega)];exact Vb
 have hb4:=aoJ.big;have h1:S1.out.map xA++[xA (xJ p k x)]=(addN p k x S).out.map xA:=by rw [aza];simp
 have h2:(DN p k++(p.evs[k].stops.take q).map (XC p k)).map xA++[xA (XC p k x)]=(DN p k++(p.evs[k].stops.take q++[x]).map (XC p k)).map xA:=by simp
 refine AX ?_;refine ⟨q+1,by omega,by omega,?_⟩;rw [hadd,htk];exact (ku (λq=>bif Nat.beq q 3 then 9 else bif Nat.beq q 4 then 11 else q) (by repeat (first|exact trivial|refine ⟨⟨?_,?_,?_⟩,?_⟩|rfl|exact congrArg (λq=>some (AO.row _ _ q)) h1|exact congrArg (λq=>some (AO.row _ _ q)) h2)) rfl)
def Dp(p:bV):List Nt:=if bM p=0 then dY p p.evs.length else []
theorem Dq {p:bV} (hO:jh p)(h0:bM p=0):(dY p p.evs.length).length<=8400:=by
 have:=(aag hO h0 _ (Nat.le_refl _)).2;rw [Qr h0]at this;have:=hO.n3;omega
theorem GZ (p:bV) (hO:jh p):bC Tryz.prog 178 [iG p] (.tu [.ls 5 ((Dp p).map xA),.sc (.int .i64 (bM p))]):=by
 have hL:=ae9 p hO;by_cases h0:bM p=0
 .have hN:=aiE p hO h0;have e1:Dp p=dY p p.evs.length:=if_pos h0;rw [Qr h0] at hN;rw [Sr h0] at hN hL;rw [e1,h0];rw [h0] at hL;refine dV Tryz.func178 Tryz.ntmps178 λw0 F0=>?_;dsimp only [St.init,number,Nat.reduceAdd];refine aql ?_;refine WL.vl rfl (aS Tryz.func233 hL) ?_;refine aql ?_;refine WL.vl rfl (aS Tryz.func234 hN) ?_;refine aql ?_;exact gZ
 .have e1:Dp p=[]:=if_neg h0;rw [e1];obtain ⟨E,hE⟩:∃ E,bM p=E:=⟨_,rfl⟩;rw [hE] at hL h0 ⊢;refine dV Tryz.func178 Tryz.ntmps178 λw0 F0=>?_;dsimp only [St.init,number,Nat.reduceAdd];refine aql ?_;refine WL.vl rfl (aS Tryz.func233 hL) ?_;refine aAB ?_;refine W.tr (Tr.afe (t:=2) 5 rfl) ?_;exact gZ
theorem apa (a b:Int):bC Tryz.prog 185 [.sc (.int .i64 a),.sc (.int .i64 b)] (.sc (.int .i64 (if a < b then b else a))):=by
 refine dV Tryz.func185 Tryz.ntmps185 λw0 F0=>?_;dsimp only [St.init,number,Nat.reduceAdd];refine H7 ?_;refine WL.mm rfl rfl (show (if b > a then b else a)=if a < b then b else a from rfl) ?_;refine H7 ?_;exact W.ret kR
theorem aff {p:bV}:∀ m,m<=p.evs.length->∀ n∈dY p m,∃ i:Nat,n.1=i/\i<p.evs.length:=by
 intro m;induction m with
 | zero=>intro _ n hn;cases hn| succ m ih =>
  intro hm n hn;have e1:dY p (m+1)=dY p m++p.evs[m].stops.map (Ll p m):=by
   show (match p.evs[m]? with|some e=>_|none=>_)=_;rw [aO (show m<p.evs.length by omega)]
  rw [e1] at hn;rcases List.mem_append.1 hn with hn|hn;.exact ih au n hn
  .obtain⟨x,_,rfl⟩:=List.mem_map.1 hn;exact⟨m,rfl,by omega⟩
theorem Ei (l:List Int)(k:Nat)(v:Int):(l.map eInt).set k (jL 0 [.sc (.int .i64 v)] (eInt (l.getD k 0)))=(l.set k v).map eInt:=by rw [FI];rfl
theorem aeE {n k:Nat} (h:k<n):(List.replicate k (-1:Int)++List.replicate (n-k) 0).set k (-1)=List.replicate (k+1) (-1)++List.replicate (n-(k+1)) 0:=by rw [Ul _ _ (by simp),Yt,Nat.sub_self,show n-k=(n-(k+1))+1 by omega,Um,List.set_cons_zero,List.replicate_succ',vg];rfl
theorem aoq {n k:Nat} (h:k<n):((List.replicate k (-1:Int)++List.replicate (n-k) 0).map eInt)[((k:Nat):Int).toNat]?=some (eInt ((List.replicate k (-1:Int)++List.replicate (n-k) 0).getD k 0)):=by
 have hl:k<(List.replicate k (-1:Int)++List.replicate (n-k) 0).length:=by simp;omega
 rw [gy,dw,dL,aO hl];rfl
theorem VE (p:bV) (hO:jh p) (h0:bM p=0):jr jJ 0 Tryz.prog 184 [iG p,.sc (.func (.func 185) #[] #[])] [] 0 (.tu [.sl 0,.sc (.int .i64 0)]) [(0,.row 3 1 ((JB p).map eInt))] 1:=by
 have hN:=GZ p hO;have hn:=hO.n3;have e1:Dp p=dY p p.evs.length:=if_pos h0;have hnl:=Dq hO h0;have hev:=aff (p:=p) p.evs.length (Nat.le_refl _);rw [h0,e1] at hN;rw [← apb];obtain ⟨L,hL⟩:∃ L,dY p p.evs.length=L:=⟨_,rfl⟩;rw [hL] at hN hnl hev ⊢;refine jr.intro mG Tryz.func184 rfl Tryz.ntmps184 (bG rfl) rfl λw0 F0 fp pg hB=>?_;refine iU ?_;refine YH ?_;refine WL.vl rfl (aS Tryz.func178 hN) ?_;refine YH ?_;refine WL.mks (x:=⟨3,.int .i64 0,p.evs.length,p.evs.length⟩) rfl rfl rfl (show ((p.evs.length:Nat):Int).toNat=p.evs.length by simp) ⟨by simp,by simp;omega⟩ ?_;refine YH ?_;refine W.loop (λk:Nat=>k<=p.evs.length) (λk=>⟨[(2,.pt 0 0 0),(1,.sc (.func (.func 185) #[] #[])),(6,.ls 5 (L.map xA)),(8,.sl 1),(25,.sc (.int .i64 p.evs.length)),(26,.sc (.int .i64 k))],[(0,.box 30 (iG p).cells),(1,.row 3 1 ((List.replicate k (-1:Int)++List.replicate (p.evs.length - k) 0).map eInt))],2⟩) (λk=>p.evs.length - k) 0 (by omega) (ku (λq=>q) (by repeat (first|exact trivial|refine ⟨⟨?_,?_,?_⟩,?_⟩|rfl|exact congrArg (λq=>some (AO.row _ _ q)) (by simp [eInt]))) rfl) λk hk=>?_;by_cases hlt:k < p.evs.length
 ·have hlen:(List.replicate k (-1:Int)++List.replicate (p.evs.length - k) 0).length=p.evs.length:=by simp;omega
  have hat:=aoq hlt;have hset:=Ei (List.replicate k (-1:Int)++List.replicate (p.evs.length - k) 0) k (-1);rw [aeE hlt] at hset;obtain ⟨R,hR⟩:∃ R,List.replicate k (-1:Int)++List.replicate (p.evs.length - k) 0=R:=⟨_,rfl⟩;rw [hR] at hlen hat hset ⊢;refine akN ?_;refine WL.xq rfl rfl rfl rfl hat Rq ?_;refine YH ?_;exact ⟨k+1,by omega,by omega,(ku (λq=>q) avw rfl)⟩
 ·obtain rfl:k=p.evs.length:=by omega
  rw [Nat.sub_self,List.replicate_zero,xX];refine akN ?_;refine W.loop (λk:Nat=>k<=L.length) (λk=>⟨[(1,.sc (.func (.func 185) #[] #[])),(8,.sl 1),(33,.ls 5 (L.map xA)),(34,.sc (.int .i64 L.length)),(35,.sc (.int .i64 k))],[(1,.row 3 1 (((L.take k).foldl Dn (List.replicate p.evs.length (-1))).map eInt))],2⟩) (λk=>L.length - k) 0 au (zqt id) λk hk=>?_;have hRl:=WU (L.take k) (List.replicate p.evs.length (-1));rw [Yt] at hRl;by_cases hlt:k < L.length;rotate_left
  ·obtain rfl:k=L.length:=by omega
   rw [jw];refine akN ?_;refine W.tr (σ':=⟨[(4,.sl 0),(5,.sc (.int .i64 0))],[(0,.row 3 1 ((L.foldl Dn (List.replicate p.evs.length (-1))).map eInt))],1⟩) (ku (λq=>bif Nat.beq q 0 then 1 else q) mJ rfl) ?_;exact lT
  have htk:(L.take (k+1)).foldl Dn (List.replicate p.evs.length (-1))=Dn ((L.take k).foldl Dn (List.replicate p.evs.length (-1))) L[k]:=by rw [kF hlt,QV];rfl
  obtain ⟨R,hR⟩:∃ R,(L.take k).foldl Dn (List.replicate p.evs.length (-1))=R:=⟨_,rfl⟩;rw [hR] at hRl htk ⊢;obtain ⟨i,hi,hi2⟩:=hev L[k] (gB hlt);refine akN ?_;obtain ⟨n,hn2⟩:∃ n,L[k]=n:=⟨_,rfl⟩;rw [hn2] at hi htk ⊢;have hil:n.1.toNat < R.length:=by omega
  obtain ⟨o,ho⟩:∃ o,R.getD n.1.toNat 0=o:=⟨_,rfl⟩;have hRi:(R.map eInt)[n.1.toNat]?=some (eInt o):=by rw [← ho,dw,dL,aO hil];rfl
  refine WL.ldr rfl rfl hRi rfl rfl ?_;obtain ⟨R1,hR1⟩:∃ R1,(if o < 0 then R.set n.1.toNat n.2.2.1 else R)=R1:=⟨_,rfl⟩;obtain ⟨o1,ho1⟩:∃ o1,(if o < 0 then n.2.2.1 else o)=o1:=⟨_,rfl⟩;have aBH:R1.length=R.length:=by rw [← hR1];split<;>simp
  have awO:R1.getD n.1.toNat 0=o1:=by
   rw [← hR1,← ho1];split;·rw [dL,sK hil];rfl
   ·exact ho
  have awN:(R1.map eInt)[n.1.toNat]?=some (eInt o1):=by rw [← awO,dw,dL,aO (by omega)];rfl
  have hfin:R1.set n.1.toNat (if o1 < n.2.2.1 then n.2.2.1 else o1)=Dn R n:=by
   unfold Dn upP;rw [ho,← hR1,← ho1];by_cases h:o < 0
   ·simp only [if_pos h,List.set_set];rw [if_pos (Or.inl h)];simp
   ·rw [if_neg h,if_neg h];by_cases h2:o < n.2.2.1;·rw [if_pos h2,if_pos (.inr h2)]
    ·rw [if_neg h2,if_neg (by omega)]
  have aqH:=Ei R1 n.1.toNat (if o1 < n.2.2.1 then n.2.2.1 else o1);rw [hfin,awO] at aqH;refine YH ?_;refine W.meet ⟨[(1,.sc (.func (.func 185) #[] #[])),(8,.sl 1),(11,.pt 2 0 0),(33,.ls 5 (L.map xA)),(34,.sc (.int .i64 L.length)),(35,.sc (.int .i64 k))],[(1,.row 3 1 (R1.map eInt)),(2,.box 273 (xA n))],3⟩ ?_ ?_
  ·(refine W.cond rfl (λhif=>?_) (λhif=>?_)<;>(try simp only [dH,dO,eu,eF,dP,eG] at hif))
   ·have KJ:=Ei R n.1.toNat n.2.2.1;rw [ho] at KJ;have e:R1=R.set n.1.toNat n.2.2.1:=by rw [← hR1,if_pos hif]
    rw [e];refine akN ?_;refine WL.xq rfl rfl rfl rfl hRi Rq ?_;refine YH ?_;refine (?_:Tr _ _ _);exact (ku (λq=>q) (by repeat (first|exact trivial|refine ⟨⟨?_,?_,?_⟩,?_⟩|rfl|exact congrArg (λq=>some (AO.row _ _ q)) KJ)) rfl)
   ·have e:R1=R:=by rw [← hR1,if_neg (by omega)]
    rw [e];refine YH ?_;exact qL
  refine W.dkT 13 aK aK aK aK ?_;refine akX ?_;refine DK.ldr rfl rfl awN rfl rfl ?_;refine akX ?_;refine DK.vl rfl (WV.Ii (dD _) rfl (aj Tryz.func185 rfl rfl) rfl rfl rfl rfl rfl (apa o1 n.2.2.1).g) ?_;refine akX ?_;refine ⟨rfl,?_⟩;refine WL.xq rfl rfl rfl rfl awN Rq ?_;refine YH ?_;refine ⟨k+1,by omega,by omega,?_⟩;rw [htk];exact (ku (λq=>q) (by repeat (first|exact trivial|refine ⟨⟨?_,?_,?_⟩,?_⟩|rfl|exact congrArg (λq=>some (AO.row _ _ q)) aqH)) rfl)
theorem SB (p:bV) (hO:jh p) (h0:bM p≠0):bC Tryz.prog 184 [iG p,.sc (.func (.func 185) #[] #[])] (.tu [.ls 1 [],.sc (.int .i64 (bM p))]):=by
 have hN:=GZ p hO;have e1:Dp p=[]:=if_neg h0;rw [e1] at hN;obtain ⟨E,hE⟩:∃ E,bM p=E:=⟨_,rfl⟩;rw [hE] at hN h0 ⊢;refine dV Tryz.func184 Tryz.ntmps184 λw0 F0=>?_;dsimp only [St.init,number,Nat.reduceAdd];refine aq5 ?_;refine WL.vl rfl (aS Tryz.func178 hN) ?_;refine ax3 ?_;exact ab9
theorem ZP (p:bV) (hO:jh p) (h0:bM p≠0):bC Tryz.prog 119 [iG p] (.tu [.ls 1 [],.sc (.int .i64 (bM p))]):=by
 refine dV Tryz.func119 Tryz.ntmps119 λw0 F0=>?_;dsimp only [St.init,number,Nat.reduceAdd];refine H7 ?_;refine WL.vl rfl (WV.call rfl (aj Tryz.func184 rfl rfl) rfl rfl (SB p hO h0)) ?_;refine H7 ?_;exact gZ
theorem afc (p:bV) (hO:jh p) (h0:bM p=0):jr jJ 0 Tryz.prog 119 [iG p] [] 0 (.tu [.sl 0,.sc (.int .i64 0)]) [(0,.row 3 1 ((JB p).map eInt))] 1:=by
 refine jr.intro mG Tryz.func119 rfl Tryz.ntmps119 (bG rfl) rfl λw0 F0 fp pg hB=>?_;refine iU ?_;refine H7 ?_;refine WL.qQ (dD _) [] rfl rfl (aj Tryz.func184 rfl rfl) (VE p hO h0) rfl rfl rfl trivial rfl rfl rfl rfl ?_;refine H7 ?_;refine W.tr (σ':=⟨[(2,.sl 0),(3,.sc (.int .i64 0))],[(0,.row 3 1 ((JB p).map eInt))],1⟩) (ku (λq=>bif Nat.beq q 0 then 1 else q) mJ rfl) ?_;exact lT
def yX (t:Int):List (Int×Int×Int)->List (Int×Int×Int)
 | []=>[]| [x]=>[(x.1,x.2.1+1,x.2.2+t)]| x::y::r=>x::yX t (y::r)
theorem J9 (t:Int)(x:Int×Int×Int):∀ l,yX t (l++[x])=l++[(x.1,x.2.1+1,x.2.2+t)]
 | []=>rfl| [y]=>rfl| y::z::r=>by
  have:=J9 t x (z::r);simp only [QW]at this ⊢;rw [yX,this]
def WY (evs:List Ev)(k:Nat):Bool:=k == 0|| ((evs[k]?).map (·.bar)).getD false
def uI (evs:List Ev):Nat->List (Int×Int×Int)
 | 0=>[]| k+1=>yX (Io 0 (evs.take (k+1))) (if WY evs k then uI evs k++[((k:Int),0,0)]else uI evs k)
def Qa(x:Int×Int×Int):List Value:=[.int .i64 x.1,.int .i64 x.2.1,.int .i64 x.2.2]
def jX (l:List (Int×Int×Int)):List Value:=l.flatMap Qa
theorem mW (l:List (Int×Int×Int)):(jX l).length=l.length*3:=by induction l with
 | nil=>rfl| cons x r ih=>simp [jX,Qa]at ih ⊢;omega
theorem kY (l:List (Int×Int×Int))(x:Int×Int×Int):jX (l++[x])=jX l++Qa x:=by simp [jX]
theorem WM (l:List (Int×Int×Int)) (x:Int×Int×Int) (u:Int):(jX (l++[x])).set (l.length*3+1) (.int .i64 u)=jX (l++[(x.1,u,x.2.2)]):=by
 rw [kY,kY,Ul _ _ adY,mW];rw [show l.length*3+1-l.length*3=1 by omega];rfl
theorem WQ (l:List (Int×Int×Int)) (x:Int×Int×Int) (u:Int):(jX (l++[x])).set (l.length*3+2) (.int .i64 u)=jX (l++[(x.1,x.2.1,u)]):=by
 rw [kY,kY,Ul _ _ adY,mW];rw [show l.length*3+2-l.length*3=2 by omega];rfl
theorem La (l:List (Int×Int×Int))(x:Int×Int×Int):(jX (l++[x]))[l.length*3+1]?=some (.int .i64 x.2.1):=by rw [kY,wC adY,mW,show l.length*3+1-l.length*3=1 by omega];rfl
theorem Lc (l:List (Int×Int×Int))(x:Int×Int×Int):(jX (l++[x]))[l.length*3+2]?=some (.int .i64 x.2.2):=by rw [kY,wC adY,mW,show l.length*3+2-l.length*3=2 by omega];rfl
theorem yx (t:Int):∀ l,(yX t l).length=l.length
 | []=>rfl| [y]=>rfl| y::z::r=>by
  have:=yx t (z::r);simp only [yX,pW]at this ⊢;omega
theorem aix (evs:List Ev):∀ k,(if WY evs k then uI evs k++[((k:Int),0,0)]else uI evs k)≠[]
 | 0=>by simp [WY]| k+1=>by
  split;.simp
  .intro h;have h1:(uI evs (k+1)).length=0:=by rw [h];rfl
   unfold uI at h1;rw [yx]at h1;exact aix evs k (List.length_eq_zero_iff.1 h1)
theorem uJ(evs:List Ev):∀ k,(uI evs k).length<=k
 | 0=>Nat.le_refl _| k+1=>by
  have:=uJ evs k;unfold uI;rw [yx];split;.simp;omega
  .omega
theorem Pv {t:Int}:∀ {l:List (Int×Int×Int)} {x:Int×Int×Int},x∈yX t l->x∈l\/∃ y∈l,x=(y.1,y.2.1+1,y.2.2+t)
 | [],x,h=>by cases h| [y],x,h=>by
  rw [show yX t [y]=[(y.1,y.2.1+1,y.2.2+t)]from rfl,CO]at h;exact .inr ⟨y,by simp,h⟩| y::z::r,x,h=>by
  rw [show yX t (y::z::r)=y::yX t (z::r)from rfl]at h;rcases List.mem_cons.1 h with h|h;.exact .inl CZ
  .rcases Pv h with h|⟨w,h,e⟩;.exact .inl (QX _ h)
   .exact .inr ⟨w,QX _ h,e⟩
theorem Tn (evs:List Ev):∀ k x,x∈uI evs k->(0<=x.1/\x.1<=k)/\(0<=x.2.1/\x.2.1<=k)/\(0<=x.2.2/\x.2.2<=1000*k):=by
 intro k;induction k with
 | zero=>intro x hx;cases hx| succ k ih =>
  intro x hx;have hT:=KC 0 (evs.take (k+1)) ⟨by decide,by decide⟩;have h1:∀ y,y∈(if WY evs k then uI evs k++[((k:Int),0,0)] else uI evs k)->(0<=y.1/\y.1<=k)/\(0<=y.2.1/\y.2.1<=k)/\(0<=y.2.2/\y.2.2<=1000*k):=λy hy=>by
   split at hy
   .rcases List.mem_append.1 hy with hy|hy;.exact ih y hy
    .rw [CO] at hy;subst hy;simp;omega
   .exact ih y hy
  unfold uI at hx;rcases Pv hx with hx|⟨y,hy,rfl⟩;.have:=h1 x hx;omega
  .have:=h1 y hy;simp only;omega
end
section
open Go.RowKit Go.Shelf
attribute [local go_sem]Oper.semAt_some
attribute [-go_sem]Builtin.append_
theorem Tryz.aoV:(Tryz.prog.info? 200).map (λi=>(i.zero,i.size,i.bytes))=some (some (.agg #[.int .i64 0,.int .i64 0,.int .i64 0]),3,24):=by kernel_rfl
theorem Tryz.aku:Tryz.prog.underlying 196=some (.slice 200):=by kernel_rfl
def MsI (w1:World)(evs:List Ev)(k:Nat)(W:World):Prop:=(∃ v,Boxed W w1.heap.size 196 v/\W.ownsRow w1.heap.size 200 3 v (uI evs k).length (jX (uI evs k))/\True)/\Below w1.heap.size w1 W
theorem apc (w1:World) (evs:List Ev) (B:Nat) (hB:w1.heap.size<=B):OwnFrom B (MsI w1 evs) :=OwnFrom.and (Own.from (holdsRow_own w1.heap.size w1.heap.size 196 200 3 (λk=>(uI evs k).length) (λk=>jX (uI evs k)) (λ_ _=>True)) _) (ownFrom_below (Nat.le_refl _) hB)
theorem WX {w1 W W2:World} {evs:List Ev} {k:Nat} {l:List (Int×Int×Int)} {x:Int×Int×Int} {g cap:Nat} {T:Int} {a:Act} (hT:Io 0 (evs.take (k+1))=T) (hl:(if WY evs k then uI evs k++[((k:Int),0,0)] else uI evs k)=l++[x])(hv:Boxed W2 w1.heap.size 196 (.slice (some ⟨g,0,none⟩) (l.length+1) cap)) (hrow:W2.ownsRow w1.heap.size 200 3 (.slice (some ⟨g,0,none⟩) (l.length+1) cap) (l.length+1) (jX (l++[x])))(hB:Below w1.heap.size w1 W) (hk:KeepsOthers W W2) (hb:Below w1.heap.size W W2) :adz w1.heap.size (MsI w1 evs) k W .normal a ((W2.setCell ⟨g,l.length*3+1,none⟩ (.int .i64 (x.2.1+1))).setCell ⟨g,l.length*3+2,none⟩ (.int .i64 (x.2.2+T))):=by
 have hne:=hv.not_row (by decide) hrow;obtain ⟨r1,g1⟩:=hrow.stored (l.length*3+1) (.int .i64 (x.2.1+1));rw [WM] at r1;obtain ⟨r2,g2⟩:=r1.stored (l.length*3+2) (.int .i64 (x.2.2+T));rw [WQ l (x.1,x.2.1+1,x.2.2)] at r2;have hm:uI evs (k+1)=l++[(x.1,x.2.1+1,x.2.2+T)]:=by
  show yX (Io 0 (evs.take (k+1))) _=_;rw [hT,hl,J9]
 have hg:w1.heap.size<=g:=by
  rcases hrow.2 with⟨h,_⟩|⟨g',cap',cur,h,hb,_⟩;.cases h
  .cases h;exact hb
 have hb2:Below w1.heap.size W ((W2.setCell ⟨g,l.length*3+1,none⟩ (.int .i64 (x.2.1+1))).setCell ⟨g,l.length*3+2,none⟩ (.int .i64 (x.2.2+T))):=(hb.setCell (p:=⟨g,l.length*3+1,none⟩) hg _).setCell (p:=⟨g,l.length*3+2,none⟩) hg _;refine ⟨(hk.trans (KeepsOthers.setCell _ _ _)).trans (KeepsOthers.setCell _ _ _),hb2,⟨_,(hv.kept g1 hne).kept g2 hne,?_,trivial⟩,hB.trans hb2⟩;rw [hm];simpa using r2
theorem TI (M:PM) (p:bV) (w:World) (hP:ag9 w w.heap.size M p) (hO:jh p) (hC:∀ w':World,Below w.heap.size w w'->Calls Tryz.prog 51 #[jD M p] w' (iZ (.int .i64 (bM p)) w')) (h0:bM p=0):Calls Tryz.prog 116 #[jD M p] w λe w' =>∃ v,e=.returned (.tuple #[v,.int .i64 0])/\w'.ownsRow w.heap.size 200 3 v (uI p.evs p.evs.length).length (jX (uI p.evs p.evs.length))/\Below w.heap.size w w':=by
 rw [h0] at hC;have hn3:=hO.n3;have hT:=λw'=>QO M p w';obtain ⟨A1,A2,A3,c1,c2,c3⟩:=M;obtain ⟨n1,hn1⟩:∃ n,p.cs.length=n:=⟨_,rfl⟩;obtain ⟨n2,hn2⟩:∃ n,p.st.length=n:=⟨_,rfl⟩;obtain ⟨n3,hnn⟩:∃ n,p.evs.length=n:=⟨_,rfl⟩;unfold jD at *;simp only at *;rw [hn1,hn2,hnn] at hC hT;rw [hnn] at hn3;rw [hn1,hn2,hnn];have HC:=Lib.hid hC;have HT:=Lib.hid hT;have HP:=Lib.hid hP;have HN:=Lib.hid hnn;obtain ⟨i0,hi,hz0,hz1,hz2⟩:=info_parts Tryz.aoV;clear hC hT hP hnn hn1 hn2 hO h0;refine (callsIn_wide (n:=4)).1 ?_;refine callsIn_of_wp_marks Tryz.func116 rfl trivial ?_ rfl;simp only [Tryz.ntmps116,QY,pW,AA,Nat.reduceAdd,Nat.reduceSub,abm,abn,List.push_toArray,abo,Un,QW];gi_wp2_with (first
  | (refine ⟨trivial,?_⟩;gi_at_call 51;refine (callsIn_wide.2 (HC.out _ CU)).mono ?_;rintro e' w1 ⟨rfl,hb1⟩;have k1:=(yV.new _ _ _).after hb1;have x0:w1.cell? ⟨w.heap.size,0,none⟩=some (.slice A1 n1 c1):=k1.cell 0;have x1:w1.cell? ⟨w.heap.size,1,none⟩=some (.slice A2 n2 c2):=k1.cell 1;have x2:w1.cell? ⟨w.heap.size,2,none⟩=some (.slice A3 n3 c3):=k1.cell 2;have l1:w.heap.size < w1.heap.size:=k1.lt;have K1:=Lib.hid k1;clear k1)| (refine ⟨trivial,?_⟩;gi_at_call 153;refine (callsIn_wide.2 (HT.out _)).mono ?_;rintro e' w2 ⟨rfl,rfl⟩));have hB0:Below w.heap.size w w1:=((Below.refl _ w).alloc (Nat.le_refl _) _).trans (hb1.mono (by simp));obtain ⟨W0,hW0⟩:∃ W0,(w1.alloc (Obj.cells #[Value.slice none 0 0] 196)).alloc (Obj.cells #[Value.slice A1 n1 c1,Value.slice A2 n2 c2,Value.slice A3 n3 c3] 30)=W0:=⟨_,rfl⟩;have hB3:Below w1.heap.size w1 W0:=by rw [← hW0];exact ((Below.refl _ w1).alloc (Nat.le_refl _) _).alloc (by simp) _
 have hs3:w1.heap.size+2=W0.heap.size:=by rw [← hW0];simp
 have kb:yV W0 (w1.heap.size+1) 30 #[Value.slice A1 n1 c1,Value.slice A2 n2 c2,Value.slice A3 n3 c3]:=by
  have:=yV.new (w1.alloc (Obj.cells #[Value.slice none 0 0] 196)) 30 #[Value.slice A1 n1 c1,Value.slice A2 n2 c2,Value.slice A3 n3 c3];rwa [World.size_alloc,hW0] at this
 have h00:MsI w1 p.evs 0 W0:=by
  refine ⟨⟨.slice none 0 0,?_,⟨rfl,.inl ⟨rfl,rfl⟩⟩,trivial⟩,hB3⟩;rw [← hW0];exact (Boxed.new w1 196 (.slice none 0 0)).alloc _
 rw [hW0];refine Yq (n:=4) (gf:=212) (lb:=#[Value.pointer (some ⟨w1.heap.size+1,0,none⟩)]) rfl (enters_of Tryz.func212 aK rfl) (encs:=λk=>#[.int .i64 (k:Int),.int .i64 (Io 0 (p.evs.take (k+1)))]) (len:=n3) (n₀:=w1.heap.size) au (λl J W hW hJ hY h0=>QN 3 au l (w1.heap.size+1) w1.heap.size n3 c3 A3 p.evs HN.out hn3 _ J hJ hY W (by have:=hW.size;omega) ((hW.cell (p:=⟨w1.heap.size+1,2,none⟩) (by simp;omega)).trans (kb.cell 2)) (((HP.out.2.1.below (hB0.trans (hB3.mono hB0.size))).below (hW.mono au)).more hB0.size) h0) (λ_=>rfl) (MsI w1 p.evs) (apc w1 p.evs _ au) h00
  (λk=>{ tmps:=#[Value.agg #[Value.slice A1 n1 c1,Value.slice A2 n2 c2,Value.slice A3 n3 c3],Value.pointer (some { block:=w.heap.size,off:=0 }),Value.slice none 0 0,Value.int IntKind.i64 0,Value.int IntKind.i64 0,Value.pointer (some { block:=w1.heap.size,off:=0 }),.int .i64 (k:Int),.int .i64 (Io 0 (p.evs.take (k+1))),undef,Value.agg #[Value.slice A1 n1 c1,Value.slice A2 n2 c2,Value.slice A3 n3 c3],Value.int IntKind.i64 0,Value.int IntKind.i64 0,Value.bool false,undef,Value.agg #[Value.slice A1 n1 c1,Value.slice A2 n2 c2,Value.slice A3 n3 c3],Value.func (Fn.func 212) #[] #[Value.pointer (some { block:=w1.heap.size+1,off:=0 })],.int .i64 (k:Int),.int .i64 (Io 0 (p.evs.take (k+1))),undef,undef,undef,undef,undef,undef,undef,undef,undef,undef,undef,undef,undef,undef,undef,undef,undef,undef,undef,undef,undef,undef,undef,undef,undef,undef,undef,undef,undef,undef,undef,undef,undef,undef,undef,undef],defers:=[] }) ?assign ?body ?done;case assign =>
  intro l k W K hK;gi_wp2;exact hK
 case body =>
  rintro l0 k W ⟨⟨v,hv,hrow,_⟩,hB⟩ hlt;have hk2:k < p.evs.length:=by have:=HN.out;omega
  obtain ⟨ad,S,c',hA,hb,e0,_⟩:=((HP.out.2.1.below hB0).more hB0.size|>.below hB).ev hk2;subst hA;have y2:W.cell? ⟨w.heap.size,2,none⟩=some (.slice (some ad) n3 c3):=(hB.cell (by simpa using l1)).trans x2;have hlen:=uJ p.evs k;obtain ⟨T,hT⟩:∃ T,Io 0 (p.evs.take (k+1))=T:=⟨_,rfl⟩;rw [hT];obtain ⟨bar,hbar⟩:∃ b,p.evs[k].bar=b:=⟨_,rfl⟩;rw [hbar] at e0;have hnew:WY p.evs k=(k == 0|| bar):=by unfold WY;rw [aO hk2];simp [hbar]
  have hfo:Tryz.prog.follows .mixedOrders=true:=by kernel_rfl
  have hTb:0<=T/\T<=1000:=by rw [← hT];exact KC 0 _ ⟨by decide,by decide⟩
  have hwr:wrap64 T=T:=by first|exact Go.IntWalk.i64_in T ⟨by omega,by omega⟩|(unfold wrap64;omega)
  by_cases hN:WY p.evs k=true;.-- a new measure
   obtain ⟨m,hm⟩:∃ m,(uI p.evs k).length=m:=⟨_,rfl⟩;rw [hm] at hrow hlen;have hc:=hv.cell;obtain ⟨v',w4,hrun,r1,r2,r3⟩:=run_append_own (P:=Tryz.prog) (W.alloc (Obj.cells #[.int .i64 k,.int .i64 0,.int .i64 0] 200)) w1.heap.size 196 196 200 i0 (.agg #[.int .i64 0,.int .i64 0,.int .i64 0]) 3 24 Tryz.aku hi hz0 hz1 hz2 rfl (by decide) v m _ (hrow.alloc _) ⟨W.heap.size,0,none⟩ 1 1 [.int .i64 k,.int .i64 0,.int .i64 0] rfl (λj u h=>by
     have:=cell_of_row (W.alloc (Obj.cells #[.int .i64 k,.int .i64 0,.int .i64 0] 200)) W.heap.size j #[.int .i64 k,.int .i64 0,.int .i64 0] 200 (0,0) (World.alloc_heap_new W _);have e:(⟨W.heap.size,0,none⟩:Addr).add j=⟨W.heap.size,j,none⟩:=by
      by_cases hz:j=0;.subst hz;rfl
      .simp [Addr.add,hz]
     rw [e,this];simpa using h) (by simp [Value.oneCell']) Oh (by omega) (by have:=hB.size;simp;omega);obtain ⟨g,cap,rfl⟩:=ownsRow_succ r1;obtain ⟨hv1,hv2,hr2,azJ,hb2⟩:=hv.appended (tmp:=Obj.cells #[.int .i64 k,.int .i64 0,.int .i64 0] 200) (by decide) hrow hB.size (Nat.le_refl _) r1 ⟨r2.os,r2.tape,r2.output,r2.size,r2.block⟩;have hc1:=hv1.cell;have hf1:=hv1.frozen;have em:jX (uI p.evs k)++[.int .i64 k,.int .i64 0,.int .i64 0]=jX (uI p.evs k++[((k:Int),0,0)]):=(kY (uI p.evs k) ((k:Int),0,0)).symm;rw [em] at hr2;subst hm;have hf2:=hr2.frozenAt ((uI p.evs k).length*3+1);have hf3:=hr2.frozenAt ((uI p.evs k).length*3+2);have ha1:=hr2.cellAt ((uI p.evs k).length*3+1) au;have ha2:=hr2.cellAt ((uI p.evs k).length*3+2) au;rw [La] at ha1;rw [Lc] at ha2;by_cases hk0:k=0
   .have q1:((k:Int) == 0)=true:=by simp [hk0]
    exact aln
   .have q1:((k:Int) == 0)=false:=by simp [hk0]
    have q2:¬ (k:Int)=0:=by omega
    obtain rfl:bar=true:=by rw [hnew] at hN;simpa [hk0] using hN
    exact aln
  .-- the last one goes on
   have hk0:¬ k=0:=λe=>hN (by rw [hnew,e];rfl);obtain rfl:bar=false:=by cases bar with
    | false=>rfl| true=>exact absurd (by rw [hnew];simp) hN
   have hne:=aix p.evs k;rw [if_neg hN] at hne;obtain ⟨l,x,hlx⟩:∃ l x,uI p.evs k=l++[x]:=⟨_,_,(List.dropLast_concat_getLast hne).symm⟩;rw [hlx] at hrow;have hll:(l++[x]).length=l.length+1:=by simp
   rw [hll] at hrow;obtain ⟨g,cap,rfl⟩:=ownsRow_succ hrow;have hc:=hv.cell;have q1:((k:Int) == 0)=false:=by simp [hk0]
   have q2:¬ (k:Int)=0:=by omega
   clear hk0;have hf2:=hrow.frozenAt (l.length*3+1);have hf3:=hrow.frozenAt (l.length*3+2);have ha1:=hrow.cellAt (l.length*3+1) au;have ha2:=hrow.cellAt (l.length*3+2) au;rw [La] at ha1;rw [Lc] at ha2;have hbd:=Tn p.evs k x (by rw [hlx];simp);rw [hlx,hll] at hlen;obtain ⟨x1,x2,x3⟩:=x;simp only at ha1 ha2 hbd;obtain ⟨_,⟨b1,b2⟩,b3,b4⟩:=hbd;have b5:x2+1<=1000:=by omega
   have b6:x3+T<=1000000:=by omega
   have b7:l.length<=1000:=by omega
   have hw2:wrap64 (x3+T)=x3+T:=by unfold wrap64;omega
   have hw1:wrap64 (x2+1)=x2+1:=by unfold wrap64;omega
   gi_wp2;exact WX hT ((if_neg hN).trans hlx) hv hrow hB (KeepsOthers.refl _) (Below.refl _ _)
 case done =>
  rintro D W hD ⟨⟨v,hv,hrow,_⟩,hB⟩ hK;have hc:=hv.cell;gi_wp2;refine ⟨by simp,.inl ⟨_,_,rfl,run_takeDeferred hK,?_⟩⟩;refine ⟨_,results_tmp2 rfl _ _ _,v,rfl,?_,?_⟩;.exact ownsRow_putObj (yI hrow au) _ hK rfl
  .exact (hB0.trans (hB.mono au)).trans (belowK_b (w:=w) (Nat.le_refl _) W D _ _ au hK rfl rfl)
end
section
open Go.RowKit
def BM (x:Int×Int×Int):List AV:=[.sc (.int .i64 x.1),.sc (.int .i64 x.2.1),.sc (.int .i64 x.2.2)]
theorem aoe(x:Int×Int×Int):∀ (i:Nat)av,(BM x)[i]?=some av->∃ u,av=.sc u/\(Qa x)[i]?=some u/\u.oneCell'=true:=by
 intro i av a;match i with
 | 0=>cases a;exact⟨_,rfl,rfl,rfl⟩| 1=>cases a;exact⟨_,rfl,rfl,rfl⟩| 2=>cases a;exact⟨_,rfl,rfl,rfl⟩| i+3=>simp [BM]at a
def aiw (p:bV):List (Int×Int×Int):=if bM p=0 then uI p.evs p.evs.length else []
theorem yK (p:bV) (hO:jh p):bC Tryz.prog 116 [iG p] (.tu [.ls 3 ((aiw p).map BM),.sc (.int .i64 (bM p))]):=by
 intro w F vs hF hR;match vs,hR.1 with
 | [v],_ =>
  obtain ⟨M,rfl,hM⟩:=Xz hF (hR.2 0 _ v rfl rfl);unfold aiw;by_cases h0:bM p=0
  .rw [if_pos h0,h0];refine (TI M p w hM hO ((um p hO).apG hF (hR.2 0 _ _ rfl rfl)) h0).mono λe w' ⟨v,he,hrow,hb⟩=>?_;obtain ⟨L,hL⟩:∃ L,uI p.evs p.evs.length=L:=⟨_,rfl⟩;rw [hL] at hrow ⊢;have hfl:jX L=(L.map Qa).flatten:=by unfold jX;rw [List.flatMap_def]
   rw [hfl] at hrow;obtain ⟨A,c,rfl,hrd,hat,hc⟩:=BG (l:=L.map Qa) hrow (λr hr=>by obtain ⟨x,_,rfl⟩:=List.mem_map.1 hr;rfl) rfl (by simp);refine ⟨_,newF F w w',he,hb,Bq hF,Bo hF hb,xI,.tu _ _ rfl λi av u a b=>?_⟩;match i with
   | 0 =>
    cases a;cases b;exact Fp (F:=F) (w:=w) hrd (λad e=>(hat ad e).2) hc (e:=BM) (λ_=>rfl) aoe| 1=>cases a;cases b;exact .sc _| i+2=>simp at a
  .rw [if_neg h0];refine (O4 M p w hM hO ((um p hO).apG hF (hR.2 0 _ _ rfl rfl)) h0).mono λe w' ⟨he,hb⟩=>?_;refine ⟨_,newF F w w',he,hb,Bq hF,Bo hF hb,xI,.tu _ _ rfl λi av u a b=>?_⟩;match i with
   | 0=>cases a;cases b;exact .ls 3 [] none 0 ⟨0,0,none⟩ (λ_ _=>undef) (by simp) (by simp) (by simp) (by simp) (by simp)| 1=>cases a;cases b;exact .sc _| i+2=>simp at a
theorem ajv (b:List En) (t:List UInt8) (n:Nat) (hn:n<=b.length) (hb:b.length<=100000):bC Tryz.prog 69 [eBk b,.sc (.int .i64 n),.sc (.string (bs t))] (.sc (.bool (decide (wW b t < n)))):=by
 have hle:=aqg b t;refine dV Tryz.func69 Tryz.ntmps69 λw0 F0=>?_;dsimp only [St.init,number,Nat.reduceAdd];refine ax4 ?_;refine W.loop (λk:Nat=>k<=n/\∀ i (hi:i < k) (h:i < b.length),b[i].t≠t) (λk=>⟨[(1,.sc (.int .i64 n)),(2,.sc (.string (bs t))),(3,.pt 0 0 0),(7,.sc (.int .i64 k))],[(0,.box 47 [.ls 5 (b.map yZ)])],1⟩) (λk=>n - k) 0 ⟨by omega,λi hi=>by omega⟩ (zqt id) λk hk=>?_;obtain ⟨hk,hno⟩:=hk;by_cases hlt:k < n
 .have hlt2:k < b.length:=by omega
  by_cases he:b[k].t=t
  .have e:(b[k].t == t)=true:=by rw [he];simp
   have hn2:=adL hlt2 (λi hi=>hno i hi au) he;rw [bQ (by omega)];refine YA ?_;rw [e];refine YA ?_;exact W.ret kR
  .have e:(b[k].t == t)=false:=by simpa using he
   refine YA ?_;rw [e];refine YA ?_;exact ali
 .have hI:¬ wW b t < n:=λh=>by
   have h2:wW b t < b.length:=by omega
   have:=Hz h2;exact hno _ (by omega) h2 (by simpa using this)
  rw [bW hI];refine YA ?_;exact W.ret kR
end
end Go.Proofs.YthohlofpphjofaaGreatDoor
