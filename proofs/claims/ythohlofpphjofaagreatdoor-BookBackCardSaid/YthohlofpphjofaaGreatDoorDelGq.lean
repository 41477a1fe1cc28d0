/- slices.DeleteFunc of the pitches below 0. -/
import Derived.Test.YthohlofpphjofaaGreatDoorMsPGq
import Derived.Test.YthohlofpphjofaaGreatDoorRPcPGq
import Derived.Test.YthohlofpphjofaaGreatDoorNrNGq
set_option maxHeartbeats 8000000
set_option maxRecDepth 100000
set_option linter.unusedVariables false
set_option linter.unusedSimpArgs false
namespace Go.Proofs.YthohlofpphjofaaGreatDoor
theorem Jo {p:Prop}(h:p:=by show 0+1≤1;omega):p:=h
theorem MJ {p:Prop}(h:p:=by
 refine mM ?_
 exact oG):p:=h
theorem U1 {p:Prop}(h:p:=by
 refine W.tr (Tr.nilR (t:=4) 1 rfl) ?_
 exact dY):p:=h
theorem ad3 {p:Prop}(h:p:=by
 show (match p.evs[k]? with|some e=>_|none=>_)=_
 rw [aB hk]):p:=h
theorem adk {p q:Prop}(k:q)(h:aS q→p:=by
 intro hq
 repeat (first|refine DK.st rfl ?_|refine DK.ixs rfl rfl vK ?_|refine DK.nil ?_)
 exact hq.k):p:=h ⟨k⟩
theorem Qs {p q:Prop}(k:q)(h:aS q→p:=by
 intro hq
 repeat (first|refine DMK.st rfl rfl ?_|refine DMK.nil ?_)
 exact hq.k):p:=h ⟨k⟩
section
open Go.RowKit
theorem xB {s:NS} (h:yX s)(t:Int):∀ k,yX (jW t k s)∧(jW t k s).out.length=s.out.length
 | 0=>⟨h,rfl⟩
 | k+1=>by
  obtain⟨h1,h2⟩:=xB h t k
  obtain⟨h3,h4⟩:=Ej h1 k t
  exact⟨h3,h4.trans h2⟩
theorem afG {p:aN} {i:Nat} {x:Stp} {s:NS} (h:yX s)(hx:1≤x.1∧x.1≤14)(hl:s.out.length<10000):yX (addN p i x s)∧(addN p i x s).out.length=s.out.length+1:=by
 obtain⟨h1,h2⟩:=Ej h x.1.toNat (aJ p.evs i)
 unfold addN
 refine⟨⟨?_,fun c=>?_,by simp;omega⟩,by simp;omega⟩
 ·dsimp only
  split
  ·exact h1.len
  ·simpa using h1.len
 ·have h3:=h1.rng c
  dsimp only
  rw [bJ]
  split
  ·simp only [EP];omega
  ·by_cases e:x.1.toNat=c
   ·subst e
    simp only [dI]
    rw [ny (by rw [h1.len];omega)]
    simp;omega
   ·simp only [dI]at h3 ⊢
    rw [lF e]
    simp only [EP];omega
theorem JA {p:aN} {k:Nat} {l:List Stp} {s:NS} (h:yX s) (hx:∀ x∈l,1≤x.1∧x.1≤14) (hl:s.out.length+l.length<10000):∀ q,q≤l.length→yX (nM p k l s q)∧(nM p k l s q).out.length=s.out.length+q
 | 0,_=>⟨h,rfl⟩
 | q+1,hq=>by
  obtain ⟨h1,h2⟩:=JA h hx hl q aj
  have e:nM p k l s (q+1)=addN p k l[q] (nM p k l s q):=by
   show (match l[q]? with|some x=>addN p k x (nM p k l s q)|none=>nM p k l s q)=_
   rw [aB (by omega)]
  rw [e]
  obtain ⟨h3,h4⟩:=afG (p:=p) (i:=k) h1 (hx l[q] (fA _)) (by omega)
  exact ⟨h3,by omega⟩
theorem O9 {p:aN} {k:Nat} {e:Ev} {s:NS} (h:yX s):yX (oZ p k e s)∧(oZ p k e s).out.length=s.out.length:=by
 unfold oZ
 split
 ·exact xB h _ 15
 ·exact⟨h,rfl⟩
theorem abn {p:aN} {k:Nat} (hk:k<p.evs.length):ug p (k+1)=nM p k p.evs[k].stops (oZ p k p.evs[k] (ug p k)) p.evs[k].stops.length:=by
 exact ad3
theorem V5 {p:aN} {k:Nat} (hk:k<p.evs.length):xq p (k+1)=xq p k++p.evs[k].stops.map (PE p k):=by
 exact ad3
theorem RV {p:aN} (hO:fH p) (h0:aO p=0):∀ k,k≤p.evs.length→yX (ug p k)∧(ug p k).out.length≤20*k
 | 0,_=>⟨⟨by simp [ug],fun c=>by
   have e:(ug p 0).ring.getD c 0=0:=by
    show (List.replicate 15 (0:Int)).getD c 0=0
    rw [dI,Ua]
    split<;>rfl
   rw [e];exact ⟨ni 0,ni 0⟩,by simp [ug]⟩,by simp [ug]⟩
 | k+1,hk=>by
  obtain ⟨h1,h2⟩:=RV hO h0 k aj
  have hk':k<p.evs.length:=by omega
  have hn:=hO.n3
  have h20:=hO.n4 k hk'
  obtain ⟨h3,h4⟩:=O9 (p:=p) (k:=k) (e:=p.evs[k]) h1
  obtain ⟨h5,h6⟩:=JA (p:=p) (k:=k) h3 (fun x hx=>⟨((kM h0 hk').stops x hx).aQ.1,((kM h0 hk').stops x hx).c14⟩) aj p.evs[k].stops.length (Nat.le_refl _)
  rw [abn hk']
  exact ⟨h5,by omega⟩
theorem PG {p:aN} (hO:fH p):∀ k,k≤p.evs.length→(xq p k).length≤20*k
 | 0,_=>by simp [xq]
 | k+1,hk=>by
  have h1:=PG hO k aj
  have h20:=hO.n4 k aj
  rw [V5 (by omega)]
  simp;omega
theorem acK (z:Int)(t:Int)(s:NS)(hz:1≤z∧z≤14)(h:yX s) :
  Cto truB 0 Tryz.prog 265 [.sc (.int .i64 z),.sc (.int .i64 t),.pt 0 0 0,.pt 1 0 0]
   [(0,.box 355 (kY s.ring)),(1,.box 267 [.sl 2]),(2,.row 273 5 (s.out.map qo))] 3 (.tu [])
   [(0,.box 355 (kY (lu z.toNat t s).ring)),(1,.box 267 [.sl 2]),(2,.row 273 5 ((lu z.toNat t s).out.map qo))] 3:=by
 obtain⟨c,rfl⟩:∃ c:Nat,z=c:=⟨z.toNat,by omega⟩
 rw [dB]
 exact Wu c t s aj h
theorem KE {evs:List Ev} {n i:Nat} (h:i≤n):(iw evs n)[i]?=some (aJ evs i):=by
 unfold iw
 rw [bC,Ub (by omega)];rfl
theorem O8 {evs:List Ev} {n i:Nat} (h:i≤n)(h2:i<(iw evs n).length):(iw evs n)[i]=aJ evs i:=by
 have:=KE (evs:=evs) h
 rw [aB h2] at this
 exact Option.some.inj this
theorem aa3 (p:aN) (hO:fH p) (h0:aO p=0):Ctr Tryz.prog 234 [Nu p] (.tu [.ls 5 ((ug p p.evs.length).out.map qo),.ls 5 ((xq p p.evs.length).map qo)]):=by
 have hn:=hO.n3
 have hl:(iw p.evs p.evs.length).length=p.evs.length+1:=l9 _ _
 have hE:=ajy p hO h0
 have hSt:=ahw p hO h0
 obtain ⟨hI,hn4,_⟩:=fK h0
 obtain ⟨i1,i2,i3,i4,i5⟩:=jK hI
 rw [JO h0] at hE hSt ⊢
 unfold ahq at hE hSt ⊢
 refine jc Tryz.func234 Tryz.ntmps234 fun w0 F0=>?_;dsimp only [St.init,number,Nat.reduceAdd]
 refine mM ?_
 refine WL.vl rfl (WV.mkf rfl rfl) ?_
 refine mM ?_
 refine W.tr (Tr.nilBox (k:=1) (j:=0) 273 5 rfl rfl rfl rfl) ?_
 refine W.tr (Tr.nil (t:=5) 360 5 rfl rfl) ?_
 refine Qu ?_
 refine W.loop (fun k:Nat=>k≤p.evs.length) (fun k=>⟨[(1,.pt 0 0 0),(4,.pt 1 0 0),(5,.sl 4),(6,.pt 2 0 0),(7,.fn 265 [.pt 2 0 0,.pt 1 0 0]),(20,.ls 6 (p.evs.map iq)),(21,.sc (.int .i64 p.evs.length)),(22,.sc (.int .i64 k))],[(0,.box 328 [.ls 3 (p.cs.map aW),.ls 1 (p.st.map eInt),.ls 6 (p.evs.map iq),.ls 1 ((iw p.evs p.evs.length).map eInt)]),(1,.box 267 [.sl 3]),(2,.box 355 (kY (ug p k).ring)),(3,.row 273 5 ((ug p k).out.map qo)),(4,.row 360 5 ((xq p k).map qo))],5⟩) (fun k=>p.evs.length - k) 0 aj (zqt id) fun k hk=>?_
 obtain ⟨hok,hsz⟩:=RV hO h0 k hk
 have hpl:=PG hO k hk
 by_cases hlt:k < p.evs.length
 rotate_left
 ·obtain rfl:k=p.evs.length:=by omega
  refine wo ?_
  refine W.tr (Tr.freeze 3 rfl) ?_
  refine W.tr (Tr.freeze 4 rfl) ?_
  exact dY
 have h20:=hO.n4 k hlt
 have hev:=kM h0 hlt
 have anX:(iw p.evs p.evs.length)[k]' aj=aJ p.evs k:=O8 aj _
 obtain ⟨hok2,hsz2⟩:=O9 (p:=p) (k:=k) (e:=p.evs[k]) hok
 refine wo ?_
 rw [anX]
 refine WL.meet2 ⟨[(1,.pt 0 0 0),(4,.pt 1 0 0),(5,.sl 4),(6,.pt 2 0 0),(7,.fn 265 [.pt 2 0 0,.pt 1 0 0]),(20,.ls 6 (p.evs.map iq)),(21,.sc (.int .i64 p.evs.length)),(22,.sc (.int .i64 k)),(8,.sc (.int .i64 k)),(9,.pt 5 0 0),(10,.sc (.int .i64 (aJ p.evs k)))],[(0,.box 328 [.ls 3 (p.cs.map aW),.ls 1 (p.st.map eInt),.ls 6 (p.evs.map iq),.ls 1 ((iw p.evs p.evs.length).map eInt)]),(1,.box 267 [.sl 3]),(2,.box 355 (kY (oZ p k p.evs[k] (ug p k)).ring)),(3,.row 273 5 ((oZ p k p.evs[k] (ug p k)).out.map qo)),(4,.row 360 5 ((xq p k).map qo)),(5,.box 90 (iq p.evs[k]))],6⟩ ?_ ?_
 ·refine WL.partG rfl rfl rfl rfl (fun hp=>?_) (fun hp=>?_)
  ·have hp:=nC hp
   refine mM ?_
   (refine W.cond rfl (fun hif=>?_) (fun hif=>?_)<;>(try simp only [bD,bK,dM,dN,dn,dO] at hif))
   ·have hr:jl p.evs[k]=true:=by unfold jl;simp [hif];exact kU (by omega)
    have ho:oZ p k p.evs[k] (ug p k)=jW (aJ p.evs k) 15 (ug p k):=if_pos hr
    rw [ho]
    refine mM ?_
    refine W.loop (fun c:Nat=>c≤15) (fun c=>⟨[(1,.pt 0 0 0),(4,.pt 1 0 0),(5,.sl 4),(6,.pt 2 0 0),(7,.fn 265 [.pt 2 0 0,.pt 1 0 0]),(20,.ls 6 (p.evs.map iq)),(21,.sc (.int .i64 p.evs.length)),(22,.sc (.int .i64 k)),(8,.sc (.int .i64 k)),(9,.pt 5 0 0),(10,.sc (.int .i64 (aJ p.evs k))),(41,.sc (.int .i64 c))],[(0,.box 328 [.ls 3 (p.cs.map aW),.ls 1 (p.st.map eInt),.ls 6 (p.evs.map iq),.ls 1 ((iw p.evs p.evs.length).map eInt)]),(1,.box 267 [.sl 3]),(2,.box 355 (kY (jW (aJ p.evs k) c (ug p k)).ring)),(3,.row 273 5 ((jW (aJ p.evs k) c (ug p k)).out.map qo)),(4,.row 360 5 ((xq p k).map qo)),(5,.box 90 (iq p.evs[k]))],6⟩) (fun c=>15 - c) 0 aj (zqt id) fun c hc=>?_
    by_cases hc2:c < 15
    ·refine wo ?_
     refine WL.cto (truH _) [2,1,3] rfl rfl (callF Tryz.func265 rfl rfl) (Wu c (aJ p.evs k) _ hc2 (xB hok _ c).1) rfl rfl rfl ⟨⟨rfl,rfl,rfl⟩,⟨rfl,rfl,rfl⟩,⟨rfl,rfl,rfl⟩,trivial⟩ rfl rfl rfl rfl ?_
     refine wo ?_
     exact ⟨c+1,by omega,by omega,(zqt id)⟩
    ·obtain rfl:c=15:=by omega
     refine wo ?_
     exact oG
   ·have ho:oZ p k p.evs[k] (ug p k)=ug p k:=if_neg (by unfold jl;simp [hif])
    rw [ho]
    exact MJ
  ·have hp:=yK hp
   have ho:oZ p k p.evs[k] (ug p k)=ug p k:=if_neg (by unfold jl;simp;intro h;rw [h] at hp;exact absurd rfl hp)
   rw [ho]
   exact MJ
 refine mM ?_
 have hst:∀ x∈p.evs[k].stops,1≤x.1∧x.1≤14:=fun x hx=>⟨(hev.stops x hx).aQ.1,(hev.stops x hx).c14⟩
 obtain ⟨S0,hS0⟩:∃ S0,oZ p k p.evs[k] (ug p k)=S0:=⟨_,rfl⟩
 rw [hS0] at hok2 hsz2 ⊢
 refine W.loop (fun q:Nat=>q≤p.evs[k].stops.length) (fun q=>⟨[(1,.pt 0 0 0),(4,.pt 1 0 0),(5,.sl 4),(6,.pt 2 0 0),(7,.fn 265 [.pt 2 0 0,.pt 1 0 0]),(20,.ls 6 (p.evs.map iq)),(21,.sc (.int .i64 p.evs.length)),(22,.sc (.int .i64 k)),(8,.sc (.int .i64 k)),(9,.pt 5 0 0),(10,.sc (.int .i64 (aJ p.evs k))),(50,.ls 5 (p.evs[k].stops.map iI)),(51,.sc (.int .i64 p.evs[k].stops.length)),(52,.sc (.int .i64 q))],[(0,.box 328 [.ls 3 (p.cs.map aW),.ls 1 (p.st.map eInt),.ls 6 (p.evs.map iq),.ls 1 ((iw p.evs p.evs.length).map eInt)]),(1,.box 267 [.sl 3]),(2,.box 355 (kY (nM p k p.evs[k].stops S0 q).ring)),(3,.row 273 5 ((nM p k p.evs[k].stops S0 q).out.map qo)),(4,.row 360 5 ((xq p k++(p.evs[k].stops.take q).map (PE p k)).map qo)),(5,.box 90 (iq p.evs[k]))],6⟩) (fun q=>p.evs[k].stops.length - q) 0 (by omega) (mP (fun q=>q) (by repeat (first|exact trivial|refine ⟨⟨?_,?_,?_⟩,?_⟩|rfl|exact congrArg (fun q=>some (AO.row _ _ q)) rfl|exact congrArg (fun q=>some (AO.row _ _ q)) (by simp))) rfl) fun q hq=>?_
 obtain ⟨aj0,hsz3⟩:=JA (p:=p) (k:=k) hok2 hst aj q hq
 by_cases aj7:q < p.evs[k].stops.length
 rotate_left
 ·obtain rfl:q=p.evs[k].stops.length:=by omega
  refine wo ?_
  refine ⟨k+1,by omega,by omega,?_⟩
  rw [abn hlt,hS0,V5 hlt]
  exact (mP (fun q=>q) (by repeat (first|exact trivial|refine ⟨⟨?_,?_,?_⟩,?_⟩|rfl|exact congrArg (fun q=>some (AO.row _ _ q)) rfl|exact congrArg (fun q=>some (AO.row _ _ q)) (by rw [fE]))) rfl)
 obtain ⟨S,hS⟩:∃ S,nM p k p.evs[k].stops S0 q=S:=⟨_,rfl⟩
 have hadd:nM p k p.evs[k].stops S0 (q+1)=addN p k p.evs[k].stops[q] S:=by
  show (match p.evs[k].stops[q]? with|some x=>addN p k x (nM p k p.evs[k].stops S0 q)|none=>nM p k p.evs[k].stops S0 q)=_
  rw [aB aj7,hS]
 have htk:p.evs[k].stops.take (q+1)=p.evs[k].stops.take q++[p.evs[k].stops[q]]:=gq aj7
 have hso:=hev.stops _ (fA aj7)
 rw [hS] at aj0 hsz3 ⊢
 refine wo ?_
 obtain ⟨x,hx⟩:∃ x,p.evs[k].stops[q]=x:=⟨_,rfl⟩
 rw [hx] at hadd htk hso ⊢
 have hc1:=hso.aQ
 have hc2:=hso.c14
 refine WL.cto (truH _) [2,1,3] rfl rfl (callF Tryz.func265 rfl rfl) (acK x.1 (aJ p.evs k) S ⟨by omega,by omega⟩ aj0) rfl rfl rfl ⟨⟨rfl,rfl,rfl⟩,⟨rfl,rfl,rfl⟩,⟨rfl,rfl,rfl⟩,trivial⟩ rfl rfl rfl rfl ?_
 obtain ⟨agf,an4⟩:=Ej aj0 x.1.toNat (aJ p.evs k)
 obtain ⟨S1,hS1⟩:∃ S1,lu x.1.toNat (aJ p.evs k) S=S1:=⟨_,rfl⟩
 rw [hS1] at agf an4 ⊢
 refine WL.tr (σ':=⟨[(1,.pt 0 0 0),(4,.pt 1 0 0),(5,.sl 4),(6,.pt 2 0 0),(7,.fn 265 [.pt 2 0 0,.pt 1 0 0]),(20,.ls 6 (p.evs.map iq)),(21,.sc (.int .i64 p.evs.length)),(22,.sc (.int .i64 k)),(8,.sc (.int .i64 k)),(9,.pt 5 0 0),(10,.sc (.int .i64 (aJ p.evs k))),(50,.ls 5 (p.evs[k].stops.map iI)),(51,.sc (.int .i64 p.evs[k].stops.length)),(52,.sc (.int .i64 q)),(13,.pt 6 0 0)],[(0,.box 328 [.ls 3 (p.cs.map aW),.ls 1 (p.st.map eInt),.ls 6 (p.evs.map iq),.ls 1 ((iw p.evs p.evs.length).map eInt)]),(1,.box 267 [.sl 3]),(2,.box 355 (kY S1.ring)),(3,.row 273 5 (S1.out.map qo)),(4,.row 360 5 ((xq p k++(p.evs[k].stops.take q).map (PE p k)).map qo)),(5,.box 90 (iq p.evs[k])),(6,.box 69 (iI x))],7⟩) (zqt id) ?_
 have hAt:=akw p.cs p.st x.1 x.2.1 hI hc1 hso.ajB
 refine wo ?_
 refine WL.vl rfl (bU Tryz.func266 hAt) ?_
 refine wo ?_
 refine W.dmT2 9 [false,false,false,false,false,false,false,false,true] [0,6] aK aK aK aK aK FD ?_
 refine Qs ?_
 refine DMK.v0 rfl (bU Tryz.func267 hE) ?_
 refine Qs ?_
 refine DMK.al rfl rfl rfl rfl FD ?_
 refine Qs ?_
 refine ⟨rfl,?_⟩
 refine mM ?_
 have ani:(addN p k x S).out=S1.out++[qx p k x]:=by unfold addN;rw [hS1]
 have hL:k+x.2.2.2.2.toNat+1≤p.evs.length:=by have:=Ko hlt x.1;have:=hso.hold;omega
 refine W.meet ⟨[(1,.pt 0 0 0),(4,.pt 1 0 0),(5,.sl 4),(6,.pt 2 0 0),(7,.fn 265 [.pt 2 0 0,.pt 1 0 0]),(20,.ls 6 (p.evs.map iq)),(21,.sc (.int .i64 p.evs.length)),(22,.sc (.int .i64 k)),(8,.sc (.int .i64 k)),(9,.pt 5 0 0),(10,.sc (.int .i64 (aJ p.evs k))),(50,.ls 5 (p.evs[k].stops.map iI)),(51,.sc (.int .i64 p.evs[k].stops.length)),(52,.sc (.int .i64 q)),(13,.pt 6 0 0),(16,.pt 7 0 0)],[(0,.box 328 [.ls 3 (p.cs.map aW),.ls 1 (p.st.map eInt),.ls 6 (p.evs.map iq),.ls 1 ((iw p.evs p.evs.length).map eInt)]),(1,.box 267 [.sl 3]),(2,.box 355 (kY (addN p k x S).ring)),(3,.row 273 5 (S1.out.map qo)),(4,.row 360 5 ((xq p k++(p.evs[k].stops.take q).map (PE p k)).map qo)),(5,.box 90 (iq p.evs[k])),(6,.box 69 (iI x)),(7,.box 273 (qo (qx p k x)))],8⟩ ?_ ?_
 ·(refine W.cond rfl (fun hif=>?_) (fun hif=>?_)<;>(try simp only [bD,bK,dM,dN,dn,dO] at hif))
  ·have en:qx p k x=((k:Int),x.1,xk p.cs p.st x.1 x.2.1,aJ p.evs k,aJ p.evs (lq p.evs (k+x.2.2.2.2.toNat+1))):=by unfold qx;rw [if_pos hif]
   have er:(addN p k x S).ring=S1.ring:=by unfold addN;rw [hS1,if_pos hif]
   rw [en,er]
   have hsy:=hSt k x.2.2.2.2 hso.hold.1 hL
   have hj:=acI hL
   obtain ⟨J,hJ⟩:∃ J,lq p.evs (k+x.2.2.2.2.toNat+1)=J:=⟨_,rfl⟩
   rw [hJ] at hsy hj ⊢
   have eJ:∀ h,(iw p.evs p.evs.length)[((J:Int) - 1+1).toNat]'h=aJ p.evs J:=fun h=>by
    have e:((J:Int) - 1+1).toNat=J:=by omega
    simp only [e];exact O8 hj.2 _
   refine W.dkT 11 aK aK aK aK ?_
   refine UA ?_
   refine DK.vl rfl (bU Tryz.func268 hsy) ?_
   refine UA ?_
   simp only [eJ]
   refine ⟨trivial,?_⟩
   exact MJ
  ·have en:qx p k x=((k:Int),x.1,xk p.cs p.st x.1 x.2.1,aJ p.evs k,aJ p.evs p.evs.length):=by unfold qx;rw [if_neg (by omega)]
   have er:(addN p k x S).ring=S1.ring.set x.1.toNat (S1.out.length+1):=by unfold addN;rw [hS1,if_neg (by omega)]
   rw [en,er]
   have hb4:=agf.big
   refine wo ?_
   refine WL.idp rfl rfl ⟨by omega,by omega⟩ (show 0+x.1.toNat*1=x.1.toNat by omega) ?_
   refine WL.stx rfl rfl rfl rfl (by rw [GY];omega) ?_
   rw [GZ (by rw [agf.len];omega)]
   exact MJ
 have hb4:=agf.big
 have h1:S1.out.map qo++[qo (qx p k x)]=(addN p k x S).out.map qo:=by rw [ani];simp
 have h2:(xq p k++(p.evs[k].stops.take q).map (PE p k)).map qo++[qo (PE p k x)]=(xq p k++(p.evs[k].stops.take q++[x]).map (PE p k)).map qo:=by simp
 refine mM ?_
 refine ⟨q+1,by omega,by omega,?_⟩
 rw [hadd,htk]
 exact (mP (fun q=>bif Nat.beq q 3 then 9 else bif Nat.beq q 4 then 11 else q) (by repeat (first|exact trivial|refine ⟨⟨?_,?_,?_⟩,?_⟩|rfl|exact congrArg (fun q=>some (AO.row _ _ q)) h1|exact congrArg (fun q=>some (AO.row _ _ q)) h2)) rfl)
def wK(p:aN):List Nt:=if aO p=0 then bY p p.evs.length else []
theorem wL {p:aN} (hO:fH p)(h0:aO p=0):(bY p p.evs.length).length≤8400:=by
 have:=(RV hO h0 _ (Nat.le_refl _)).2
 rw [Ip h0]at this
 have:=hO.n3
 omega
theorem zA (p:aN) (hO:fH p):Ctr Tryz.prog 178 [eF p] (.tu [.ls 5 ((wK p).map qo),.sc (.int .i64 (aO p))]):=by
 have hL:=Yb p hO
 by_cases h0:aO p=0
 ·have hN:=aa3 p hO h0
  have e1:wK p=bY p p.evs.length:=if_pos h0
  rw [Ip h0] at hN
  rw [JO h0] at hN hL
  rw [e1,h0]
  rw [h0] at hL
  refine jc Tryz.func178 Tryz.ntmps178 fun w0 F0=>?_;dsimp only [St.init,number,Nat.reduceAdd]
  refine WC ?_
  refine WL.vl rfl (bU Tryz.func233 hL) ?_
  refine WC ?_
  refine WL.vl rfl (bU Tryz.func234 hN) ?_
  refine WC ?_
  exact dY
 ·have e1:wK p=[]:=if_neg h0
  rw [e1]
  obtain ⟨E,hE⟩:∃ E,aO p=E:=⟨_,rfl⟩
  rw [hE] at hL h0 ⊢
  refine jc Tryz.func178 Tryz.ntmps178 fun w0 F0=>?_;dsimp only [St.init,number,Nat.reduceAdd]
  refine WC ?_
  refine WL.vl rfl (bU Tryz.func233 hL) ?_
  refine amu ?_
  refine W.tr (Tr.nilR (t:=2) 5 rfl) ?_
  exact dY
theorem agF (a b:Int):Ctr Tryz.prog 185 [.sc (.int .i64 a),.sc (.int .i64 b)] (.sc (.int .i64 (if a < b then b else a))):=by
 refine jc Tryz.func185 Tryz.ntmps185 fun w0 F0=>?_;dsimp only [St.init,number,Nat.reduceAdd]
 refine qP ?_
 refine WL.mm rfl rfl (show (if b > a then b else a)=if a < b then b else a from rfl) ?_
 refine qP ?_
 exact W.ret vJ
theorem Yh {p:aN}:∀ m,m≤p.evs.length→∀ n∈bY p m,∃ i:Nat,n.1=i∧i<p.evs.length:=by
 intro m
 induction m with
 | zero=>intro _ n hn;cases hn
 | succ m ih =>
  intro hm n hn
  have e1:bY p (m+1)=bY p m++p.evs[m].stops.map (Dh p m):=by
   show (match p.evs[m]? with|some e=>_|none=>_)=_
   rw [aB (show m<p.evs.length by omega)]
  rw [e1] at hn
  rcases List.mem_append.1 hn with hn|hn
  ·exact ih aj n hn
  ·obtain⟨x,_,rfl⟩:=List.mem_map.1 hn
   exact⟨m,rfl,by omega⟩
theorem xM (l:List Int)(k:Nat)(v:Int):(l.map eInt).set k (putL 0 [.sc (.int .i64 v)] (eInt (l.getD k 0)))=(l.set k v).map eInt:=by
 rw [Az];rfl
theorem XB {n k:Nat} (h:k<n):(List.replicate k (-1:Int)++List.replicate (n-k) 0).set k (-1)=List.replicate (k+1) (-1)++List.replicate (n-(k+1)) 0:=by
 rw [Lr _ _ (by simp),Et,Eu,show n-k=(n-(k+1))+1 by omega,Ls,Uc,List.replicate_succ',lD];rfl
theorem af7 {n k:Nat} (h:k<n):((List.replicate k (-1:Int)++List.replicate (n-k) 0).map eInt)[((k:Nat):Int).toNat]?=some (eInt ((List.replicate k (-1:Int)++List.replicate (n-k) 0).getD k 0)):=by
 have hl:k<(List.replicate k (-1:Int)++List.replicate (n-k) 0).length:=by simp;omega
 rw [dB,bC,dI,aB hl];rfl
theorem NG (p:aN) (hO:fH p) (h0:aO p=0):Cto truB 0 Tryz.prog 184 [eF p,.sc (.func (.func 185) #[] #[])] [] 0 (.tu [.sl 0,.sc (.int .i64 0)]) [(0,.row 3 1 ((BD p).map eInt))] 1:=by
 have hN:=zA p hO
 have hn:=hO.n3
 have e1:wK p=bY p p.evs.length:=if_pos h0
 have hnl:=wL hO h0
 have hev:=Yh (p:=p) p.evs.length (Nat.le_refl _)
 rw [h0,e1] at hN
 rw [← agG]
 obtain ⟨L,hL⟩:∃ L,bY p p.evs.length=L:=⟨_,rfl⟩
 rw [hL] at hN hnl hev ⊢
 refine Cto.intro truS Tryz.func184 rfl Tryz.ntmps184 (aP rfl) rfl fun w0 F0 fp pg hB=>?_
 refine jw ?_
 refine AP ?_
 refine WL.vl rfl (bU Tryz.func178 hN) ?_
 refine AP ?_
 refine WL.mks (x:=⟨3,.int .i64 0,p.evs.length,p.evs.length⟩) rfl rfl rfl (show ((p.evs.length:Nat):Int).toNat=p.evs.length by simp) ⟨by simp,by simp;omega⟩ ?_
 refine AP ?_
 refine W.loop (fun k:Nat=>k≤p.evs.length) (fun k=>⟨[(2,.pt 0 0 0),(1,.sc (.func (.func 185) #[] #[])),(6,.ls 5 (L.map qo)),(8,.sl 1),(25,.sc (.int .i64 p.evs.length)),(26,.sc (.int .i64 k))],[(0,.box 30 (eF p).cells),(1,.row 3 1 ((List.replicate k (-1:Int)++List.replicate (p.evs.length - k) 0).map eInt))],2⟩) (fun k=>p.evs.length - k) 0 (by omega) (mP (fun q=>q) (by repeat (first|exact trivial|refine ⟨⟨?_,?_,?_⟩,?_⟩|rfl|exact congrArg (fun q=>some (AO.row _ _ q)) (by simp [eInt]))) rfl) fun k hk=>?_
 by_cases hlt:k < p.evs.length
 ·have hlen:(List.replicate k (-1:Int)++List.replicate (p.evs.length - k) 0).length=p.evs.length:=by simp;omega
  have hat:=af7 hlt
  have hset:=xM (List.replicate k (-1:Int)++List.replicate (p.evs.length - k) 0) k (-1)
  rw [XB hlt] at hset
  obtain ⟨R,hR⟩:∃ R,List.replicate k (-1:Int)++List.replicate (p.evs.length - k) 0=R:=⟨_,rfl⟩
  rw [hR] at hlen hat hset ⊢
  refine Qh ?_
  refine WL.sto rfl rfl rfl rfl hat Jo ?_
  refine AP ?_
  exact ⟨k+1,by omega,by omega,(mP (fun q=>q) ak2 rfl)⟩
 ·obtain rfl:k=p.evs.length:=by omega
  rw [Eu,List.replicate_zero,mG]
  refine Qh ?_
  refine W.loop (fun k:Nat=>k≤L.length) (fun k=>⟨[(1,.sc (.func (.func 185) #[] #[])),(8,.sl 1),(33,.ls 5 (L.map qo)),(34,.sc (.int .i64 L.length)),(35,.sc (.int .i64 k))],[(1,.row 3 1 (((L.take k).foldl wJ (List.replicate p.evs.length (-1))).map eInt))],2⟩) (fun k=>L.length - k) 0 aj (zqt id) fun k hk=>?_
  have hRl:=Oj (L.take k) (List.replicate p.evs.length (-1))
  rw [Et] at hRl
  by_cases hlt:k < L.length
  rotate_left
  ·obtain rfl:k=L.length:=by omega
   rw [fE]
   refine Qh ?_
   refine W.tr (σ':=⟨[(4,.sl 0),(5,.sc (.int .i64 0))],[(0,.row 3 1 ((L.foldl wJ (List.replicate p.evs.length (-1))).map eInt))],1⟩) (mP (fun q=>bif Nat.beq q 0 then 1 else q) BK rfl) ?_
   exact jJ
  have htk:(L.take (k+1)).foldl wJ (List.replicate p.evs.length (-1))=wJ ((L.take k).foldl wJ (List.replicate p.evs.length (-1))) L[k]:=by
   rw [gq hlt,Ew];rfl
  obtain ⟨R,hR⟩:∃ R,(L.take k).foldl wJ (List.replicate p.evs.length (-1))=R:=⟨_,rfl⟩
  rw [hR] at hRl htk ⊢
  obtain ⟨i,hi,hi2⟩:=hev L[k] (fA hlt)
  refine Qh ?_
  obtain ⟨n,hn2⟩:∃ n,L[k]=n:=⟨_,rfl⟩
  rw [hn2] at hi htk ⊢
  have hil:n.1.toNat < R.length:=by omega
  obtain ⟨o,ho⟩:∃ o,R.getD n.1.toNat 0=o:=⟨_,rfl⟩
  have hRi:(R.map eInt)[n.1.toNat]?=some (eInt o):=by
   rw [← ho,bC,dI,aB hil];rfl
  refine WL.ldr rfl rfl hRi rfl rfl ?_
  obtain ⟨R1,hR1⟩:∃ R1,(if o < 0 then R.set n.1.toNat n.2.2.1 else R)=R1:=⟨_,rfl⟩
  obtain ⟨o1,ho1⟩:∃ o1,(if o < 0 then n.2.2.1 else o)=o1:=⟨_,rfl⟩
  have apq:R1.length=R.length:=by rw [← hR1];split<;>simp
  have alH:R1.getD n.1.toNat 0=o1:=by
   rw [← hR1,← ho1]
   split
   ·rw [dI,ny hil];rfl
   ·exact ho
  have alG:(R1.map eInt)[n.1.toNat]?=some (eInt o1):=by
   rw [← alH,bC,dI,aB (by omega)];rfl
  have hfin:R1.set n.1.toNat (if o1 < n.2.2.1 then n.2.2.1 else o1)=wJ R n:=by
   unfold wJ upP
   rw [ho,← hR1,← ho1]
   by_cases h:o < 0
   ·simp only [if_pos h,List.set_set]
    rw [if_pos (Or.inl h)];simp
   ·rw [if_neg h,if_neg h]
    by_cases h2:o < n.2.2.1
    ·rw [if_pos h2,if_pos (.inr h2)]
    ·rw [if_neg h2,if_neg (by omega)]
  have ahW:=xM R1 n.1.toNat (if o1 < n.2.2.1 then n.2.2.1 else o1)
  rw [hfin,alH] at ahW
  refine AP ?_
  refine W.meet ⟨[(1,.sc (.func (.func 185) #[] #[])),(8,.sl 1),(11,.pt 2 0 0),(33,.ls 5 (L.map qo)),(34,.sc (.int .i64 L.length)),(35,.sc (.int .i64 k))],[(1,.row 3 1 (R1.map eInt)),(2,.box 273 (qo n))],3⟩ ?_ ?_
  ·(refine W.cond rfl (fun hif=>?_) (fun hif=>?_)<;>(try simp only [bD,bK,dM,dN,dn,dO] at hif))
   ·have NP:=xM R n.1.toNat n.2.2.1
    rw [ho] at NP
    have e:R1=R.set n.1.toNat n.2.2.1:=by rw [← hR1,if_pos hif]
    rw [e]
    refine Qh ?_
    refine WL.sto rfl rfl rfl rfl hRi Jo ?_
    refine AP ?_
    refine (?_:Tr _ _ _)
    exact (mP (fun q=>q) (by repeat (first|exact trivial|refine ⟨⟨?_,?_,?_⟩,?_⟩|rfl|exact congrArg (fun q=>some (AO.row _ _ q)) NP)) rfl)
   ·have e:R1=R:=by rw [← hR1,if_neg (by omega)]
    rw [e]
    refine AP ?_
    exact oG
  refine W.dkT 13 aK aK aK aK ?_
  refine adk ?_
  refine DK.ldr rfl rfl alG rfl rfl ?_
  refine adk ?_
  refine DK.vl rfl (WV.callV (truH _) rfl (callF Tryz.func185 rfl rfl) rfl rfl rfl rfl rfl (agF o1 n.2.2.1).g) ?_
  refine adk ?_
  refine ⟨rfl,?_⟩
  refine WL.sto rfl rfl rfl rfl alG Jo ?_
  refine AP ?_
  refine ⟨k+1,by omega,by omega,?_⟩
  rw [htk]
  exact (mP (fun q=>q) (by repeat (first|exact trivial|refine ⟨⟨?_,?_,?_⟩,?_⟩|rfl|exact congrArg (fun q=>some (AO.row _ _ q)) ahW)) rfl)
theorem JV (p:aN) (hO:fH p) (h0:aO p≠0):Ctr Tryz.prog 184 [eF p,.sc (.func (.func 185) #[] #[])] (.tu [.ls 1 [],.sc (.int .i64 (aO p))]):=by
 have hN:=zA p hO
 have e1:wK p=[]:=if_neg h0
 rw [e1] at hN
 obtain ⟨E,hE⟩:∃ E,aO p=E:=⟨_,rfl⟩
 rw [hE] at hN h0 ⊢
 refine jc Tryz.func184 Tryz.ntmps184 fun w0 F0=>?_;dsimp only [St.init,number,Nat.reduceAdd]
 refine ah8 ?_
 refine WL.vl rfl (bU Tryz.func178 hN) ?_
 refine amv ?_
 exact U1
theorem Rl (p:aN) (hO:fH p) (h0:aO p≠0):Ctr Tryz.prog 119 [eF p] (.tu [.ls 1 [],.sc (.int .i64 (aO p))]):=by
 refine jc Tryz.func119 Tryz.ntmps119 fun w0 F0=>?_;dsimp only [St.init,number,Nat.reduceAdd]
 refine qP ?_
 refine WL.vl rfl (WV.call rfl (callF Tryz.func184 rfl rfl) rfl rfl (JV p hO h0)) ?_
 refine qP ?_
 exact dY
theorem Yf (p:aN) (hO:fH p) (h0:aO p=0):Cto truB 0 Tryz.prog 119 [eF p] [] 0 (.tu [.sl 0,.sc (.int .i64 0)]) [(0,.row 3 1 ((BD p).map eInt))] 1:=by
 refine Cto.intro truS Tryz.func119 rfl Tryz.ntmps119 (aP rfl) rfl fun w0 F0 fp pg hB=>?_
 refine jw ?_
 refine qP ?_
 refine WL.cto (truH _) [] rfl rfl (callF Tryz.func184 rfl rfl) (NG p hO h0) rfl rfl rfl trivial rfl rfl rfl rfl ?_
 refine qP ?_
 refine W.tr (σ':=⟨[(2,.sl 0),(3,.sc (.int .i64 0))],[(0,.row 3 1 ((BD p).map eInt))],1⟩) (mP (fun q=>bif Nat.beq q 0 then 1 else q) BK rfl) ?_
 exact jJ
theorem Vt (a:Int):Ctr Tryz.prog 122 [.sc (.int .i64 a)] (.sc (.bool (decide (a < 0)))):=by
 refine jc Tryz.func122 Tryz.ntmps122 fun w0 F0=>?_;dsimp only [St.init,number,Nat.reduceAdd]
 exact wE
abbrev zQ (x:Int):Bool:=!decide (x<0)
def lJ(l:List Int):Nat:=(l.takeWhile zQ).length
theorem TW {p:Int→Bool}:∀ {l:List Int} {x:Int},x∈l.takeWhile p→p x=true
 | [],x,h=>by cases h
 | y::r,x,h=>by
  rw [Ey]at h
  split at h
  ·rename_i hy
   rcases List.mem_cons.1 h with rfl|h
   ·exact hy
   ·exact TW h
  ·cases h
theorem JZ(l:List Int):lJ l≤l.length:=(Ez _).length_le
theorem yJ {l:List Int} {k:Nat} (hk:k<lJ l)(h:k<l.length):¬ l[k]<0:=by
 have h1:(l.takeWhile zQ)[k]'hk∈l.takeWhile zQ:=fA _
 have h2:=TW h1
 have h3:(l.takeWhile zQ)[k]'hk=l[k]:=(Ud zQ).getElem _
 rw [h3]at h2
 simpa using h2
theorem NR {l:List Int} (h:lJ l<l.length):l[lJ l]<0:=by
 have h1:(l.drop (lJ l))=l.dropWhile zQ:=by
  have e:=List.takeWhile_append_dropWhile (p:=zQ) (l:=l)
  have:=List.drop_left (l₁:=l.takeWhile zQ) (l₂:=l.dropWhile zQ)
  rw [e]at this
  exact this
 have h2:l.drop (lJ l)=l[lJ l]::l.drop (lJ l+1):=kV h
 rw [h1]at h2
 have h3:=List.head?_dropWhile_not zQ l
 rw [h2]at h3
 simpa [zQ,aB h]using h3
theorem NQ {l:List Int} (h:lJ l=l.length):l.filter zQ=l:=by
 rw [List.filter_eq_self]
 intro x hx
 obtain ⟨k,hk,rfl⟩:=fZ hx
 have:=yJ (l:=l) (k:=k) aj hk
 simp [zQ];omega
theorem ZC (l:List Int):l.take (lJ l)=(l.take (lJ l+1)).filter zQ:=by
 have hp:l.take (lJ l)=l.takeWhile zQ:=by
  have:=List.prefix_iff_eq_take.1 (Ud zQ (l:=l))
  exact this.symm
 by_cases h:lJ l<l.length
 ·rw [gq h,Lu]
  have h1:=NR h
  rw [Ue (by simp [zQ,h1]),List.filter_nil,mG,hp]
  rw [List.filter_eq_self.2]
  intro x hx
  exact TW hx
 ·have h2:=JZ l
  rw [lC (by omega),lC (by omega),NQ (by omega)]
theorem agp (l:List Int) (hl:l.length≤100000):Cto truB 0 Tryz.prog 186 [.sl 0,.sc (.func (.func 122) #[] #[])] [(0,.row 3 1 (l.map eInt))] 1
  (.sc (.int .i64 (if lJ l < l.length then (lJ l:Int) else -1))) [(0,.row 3 1 (l.map eInt))] 1:=by
 refine Cto.intro truS Tryz.func186 rfl Tryz.ntmps186 (aP rfl) rfl fun w0 F0 fp pg hB=>?_
 refine jw ?_
 refine AQ ?_
 refine W.loop (fun k:Nat=>k≤l.length∧k≤lJ l) (fun k=>⟨[(0,.sl 0),(1,.sc (.func (.func 122) #[] #[])),(7,.sc (.int .i64 l.length)),(8,.sc (.int .i64 k))],[(0,.row 3 1 (l.map eInt))],1⟩) (fun k=>l.length - k) 0 ⟨by omega,by omega⟩ (zqt id) fun k hk=>?_
 obtain ⟨hk1,hk2⟩:=hk
 have hle:=JZ l
 by_cases hlt:k < l.length
 ·have hat:(l.map eInt)[((k:Nat):Int).toNat]?=some (eInt l[k]):=wI hlt
  refine mO ?_
  refine WL.ldr rfl rfl hat rfl rfl ?_
  refine mO ?_
  refine WL.vl rfl (WV.callV (truH _) rfl (callF Tryz.func122 rfl rfl) rfl rfl rfl rfl rfl (Vt l[k]).g) ?_
  refine mO ?_
  (refine W.cond rfl (fun hif=>?_) (fun hif=>?_)<;>(try simp only [bD,bK,dM,dN,dn,dO] at hif))
  ·have e:lJ l=k:=by
    rcases qJ k (lJ l) with h|h
    ·exact absurd hif (yJ h hlt)
    ·omega
   rw [if_pos (by omega),e]
   refine AQ ?_
   exact jJ
  ·have e:k < lJ l:=by
    rcases qJ k (lJ l) with h|h
    ·exact h
    ·have e:lJ l=k:=by omega
     have:=NR (l:=l) aj
     simp only [e] at this
     omega
   refine AQ ?_
   exact ⟨k+1,⟨by omega,by omega⟩,by omega,(zqt id)⟩
 ·rw [if_neg (by omega)]
  refine mO ?_
  exact jJ
structure FX(l R:List Int)(i j:Nat):Prop where
 len:R.length=l.length
 ij:i<j∧j≤l.length
 kept:R.take i=(l.take j).filter zQ
 rest:∀ k(h:k<l.length),j≤k→R[k]?=some l[k]
theorem FX.start {l:List Int} (h:lJ l<l.length):FX l l (lJ l) (lJ l+1) :=
 ⟨rfl,⟨by omega,by omega⟩,ZC l,fun k hk _=>aB hk⟩
theorem FX.skip {l R:List Int} {i j:Nat} (h:FX l R i j)(hj:j<l.length)(hn:l[j]<0):FX l R i (j+1):=by
 refine⟨h.len,⟨by have:=h.ij;omega,by omega⟩,?_,fun k hk h2=>h.rest k hk aj⟩
 rw [h.kept,gq hj,Lu,Ue (by simp [zQ,hn])]
 simp
theorem FX.keep {l R:List Int} {i j:Nat} (h:FX l R i j) (hj:j<l.length) (hn:¬ l[j]<0):FX l (R.set i l[j]) (i+1) (j+1):=by
 have hij:=h.ij
 have hlen:=h.len
 refine ⟨by simpa using h.len,⟨by omega,by omega⟩,?_,fun k hk h2=>?_⟩
 ·have hi:i<(R.set i l[j]).length:=by simp;omega
  rw [gq hi,List.take_set_of_le (Nat.le_refl _),h.kept,gq hj,Lu,LC (by simp [zQ];omega)]
  simp
 ·rw [lF (by omega)]
  exact h.rest k hk aj
theorem aju (l:List Int) (hl:l.length≤100000):Cto truB 0 Tryz.prog 121 [.sl 0,.sc (.func (.func 122) #[] #[])] [(0,.row 3 1 (l.map eInt))] 1
  (.sl 1) [(1,.row 3 1 ((l.filter zQ).map eInt))] 2:=by
 have hI:=agp l hl
 refine Cto.intro truS Tryz.func121 rfl Tryz.ntmps121 (aP rfl) rfl fun w0 F0 fp pg hB=>?_
 refine jw ?_
 by_cases h:lJ l < l.length
 rotate_left
 ·rw [if_neg h] at hI
  have e:l.filter zQ=l:=NQ (by have:=JZ l;omega)
  rw [e]
  refine AQ ?_
  refine WL.cto (truH _) [0] rfl rfl (callF Tryz.func186 rfl rfl) hI rfl rfl rfl ⟨⟨rfl,rfl,rfl⟩,trivial⟩ rfl rfl rfl rfl ?_
  refine AQ ?_
  refine W.tr (Tr.mv (t:=4) rfl rfl) ?_
  refine W.tr (σ':=⟨[(4,.sl 1)],[(1,.row 3 1 (l.map eInt))],2⟩) (zqt id) ?_
  exact jJ
 ·rw [if_pos h] at hI
  have h0:=FX.start h
  refine AQ ?_
  refine WL.cto (truH _) [0] rfl rfl (callF Tryz.func186 rfl rfl) hI rfl rfl rfl ⟨⟨rfl,rfl,rfl⟩,trivial⟩ rfl rfl rfl rfl ?_
  refine mO ?_
  refine W.loop (fun s:List Int×Nat×Nat=>FX l s.1 s.2.1 s.2.2) (fun s=>⟨[(0,.sl 0),(1,.sc (.func (.func 122) #[] #[])),(5,.sc (.int .i64 s.2.1)),(6,.sc (.int .i64 s.2.2))],[(0,.row 3 1 (s.1.map eInt))],1⟩) (fun s=>l.length - s.2.2) (l,lJ l,lJ l+1) h0 (zqt id) fun s hs=>?_
  obtain ⟨R,i,j⟩:=s
  have hlen:=hs.len
  have hij:=hs.ij
  dsimp only at hs hlen hij ⊢
  by_cases hlt:j < l.length
  ·have hRj:=hs.rest j hlt (Nat.le_refl _)
   have hat:(R.map eInt)[((j:Nat):Int).toNat]?=some (eInt l[j]):=by rw [dB,bC,hRj];rfl
   have hRl:(R.map eInt).length=l.length:=by rw [dH];exact hlen
   refine mO ?_
   refine WL.ldr rfl rfl hat rfl rfl ?_
   refine mO ?_
   refine WL.vl rfl (WV.callV (truH _) rfl (callF Tryz.func122 rfl rfl) rfl rfl rfl rfl rfl (Vt l[j]).g) ?_
   refine mO ?_
   (refine W.cond rfl (fun hif=>?_) (fun hif=>?_)<;>(try simp only [bD,bK,dM,dN,dn,dO] at hif))
   ·have hil:i < R.length:=by omega
    have anF:(R.map eInt)[((i:Nat):Int).toNat]?=some (eInt (R.getD i 0)):=by
     rw [dB,bC,dI,aB hil];rfl
    have hset:=xM R i l[j]
    refine mO ?_
    refine WL.sto rfl rfl rfl rfl anF Jo ?_
    refine AQ ?_
    exact ⟨(R.set i l[j],i+1,j+1),hs.keep hlt (by omega),by dsimp only;omega,(mP (fun q=>q) ak2 rfl)⟩
   ·refine AQ ?_
    exact ⟨(R,i,j+1),hs.skip hlt (by omega),by dsimp only;omega,(zqt id)⟩
  ·have hj:j=l.length:=by omega
   have hk:=hs.kept
   rw [hj,fE] at hk
   have hRl:(R.map eInt).length=R.length:=dH _
   have hfin:((R.map eInt).take ((i:Nat):Int).toNat++List.replicate ((R.map eInt).length - ((i:Nat):Int).toNat) [AV.sc (.int .i64 0)]).take ((i:Nat):Int).toNat=(l.filter zQ).map eInt:=by
    rw [dB,List.take_append_of_le_length (by simp;omega),List.take_take,Nat.min_self,← List.map_take,hk]
   refine mO ?_
   refine WL.clr rfl rfl rfl rfl rfl rfl rfl rfl ⟨by omega,by rw [hRl];omega⟩ ?_
   refine mO ?_
   refine WL.pre rfl rfl rfl ⟨by omega,by simp;omega⟩ ?_
   refine mO ?_
   refine W.tr (σ':=⟨[(4,.sl 1)],[(1,.row 3 1 ((l.filter zQ).map eInt))],2⟩) (mP (fun q=>q) (by repeat (first|exact trivial|refine ⟨⟨?_,?_,?_⟩,?_⟩|rfl|exact congrArg (fun q=>some (AO.row _ _ q)) hfin)) rfl) ?_
   exact jJ
end
end Go.Proofs.YthohlofpphjofaaGreatDoor
