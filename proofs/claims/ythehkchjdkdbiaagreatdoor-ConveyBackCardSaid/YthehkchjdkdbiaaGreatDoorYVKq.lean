/- What the program finds lost (losses). -/
import Derived.Test.YthehkchjdkdbiaaGreatDoorYFKq
set_option maxHeartbeats 8000000
set_option maxRecDepth 100000
set_option linter.unusedVariables false
set_option linter.unusedSimpArgs false
namespace Go.Proofs.YthehkchjdkdbiaaGreatDoor
open Go.RowKit
theorem aqk {p:Prop}(h:p:=by repeat (first|exact trivial|refine ⟨⟨?_,?_,?_⟩,?_⟩|rfl|exact congrArg (fun q=>some (AO.row _ _ q)) hfin)):p:=h
theorem TL {p:Prop}(h:p:=by
 refine W.tr (Tr.freeze 1 rfl) ?_
 exact W.ret vS):p:=h
theorem ari {p:Prop}(h:p:=by
 refine ⟨k+1,by omega,by omega,?_⟩
 exact (kL (fun q=>bif Nat.beq q 1 then 5 else q) aqk rfl)):p:=h
theorem aqG {p q:Prop}(k:q)(h:aP q→p:=by
 intro hq
 refine jW ?_
 refine iF ?_
 refine Np ?_
 refine DK.idx rfl rfl au agL ?_
 refine Np ?_
 refine DK.idx rfl rfl au hFm ?_
 refine Np ?_
 exact hq.k):p:=h ⟨k⟩
theorem aqD {p q:Prop}(k:q)(h:aP q→p:=by
 intro hq
 refine jW ?_
 refine WL.idx rfl rfl au OM ?_
 refine jW ?_
 refine WL.idx rfl rfl au hGk ?_
 refine jW ?_
 exact hq.k):p:=h ⟨k⟩
theorem ahm (x:Stp) (r:Nte):aU Tryz.prog 241 [.ag (aC x),.pr (Uf r)] (.sc (.bool (x.1 == r.1.1))):=by
 refine jl Tryz.func241 Tryz.ntmps241 fun w0 F0=>?_;dsimp only [St.init,number,Nat.reduceAdd]
 exact aaF
theorem anB (l:List Stp) (r:Nte) (hl:l.length≤100000):aU Tryz.prog 186 [.ls 5 (l.map aC),.fn 241 [.pr (Uf r)]] (.sc (.int .i64 (YR (fun x:Stp=>x.1 == r.1.1) l))):=by
 refine jl Tryz.func186 Tryz.ntmps186 fun w0 F0=>?_;dsimp only [St.init,number,Nat.reduceAdd]
 refine aju ?_
 refine W.loop (fun k:Nat=>k≤l.length∧∀ i (hi:i < k) (h:i < l.length),(l[i].1 == r.1.1)=false) (fun k=>⟨[(0,.ls 5 (l.map aC)),(1,.fn 241 [.pr (Uf r)]),(7,.sc (.int .i64 l.length)),(8,.sc (.int .i64 k))],[],0⟩) (fun k=>l.length - k) 0 ⟨by omega,fun i hi=>by omega⟩ (zqt id) fun k hk=>?_
 obtain ⟨hk,hno⟩:=hk
 by_cases hlt:k < l.length
 ·refine fQ ?_
  refine WL.vl rfl (WV.yU (dL _) rfl (ak Tryz.func241 rfl rfl) rfl rfl rfl rfl rfl (ahm l[k] r).g) ?_
  cases he:l[k].1 == r.1.1 with
  | true =>
   rw [JK (t:=fun x:Stp=>x.1 == r.1.1) hlt he fun i hi=>hno i hi (by omega)]
   exact NH
  | false =>
   exact al7
 ·rw [YS (t:=fun x:Stp=>x.1 == r.1.1) fun i hi=>hno i (by omega) hi]
  exact NH
def IB (C:Cg)(evs:List Ev):List (Int×List Nte×List Bool):=evs.mapIdx fun i e=>(AZ C i e,yS C e.stops,yR C e.stops)
def yK(o:Int×List Nte×List Bool):List AV:=NR o.1 o.2.1 o.2.2
theorem DX(C:Cg)(evs:List Ev):(IB C evs).length=evs.length:=yC
theorem atg {C:Cg} {evs:List Ev} {k:Nat} (h:k<evs.length):((IB C evs).map yK)[((k:Nat):Int).toNat]?=some [.sc (.int .i64 (AZ C k evs[k])),.ls 8 ((yS C evs[k].stops).map Uf),.ls 1 ((yR C evs[k].stops).map eBl)]:=by
 rw [fO,bT,aI (by rw [DX];exact h)]
 simp only [IB,jh]
 rfl
theorem ahd {C:Cg} {f:Stp→Int} {l:List Stp} (ha:l.Pairwise fun x y=>x.1<y.1) (hcr:∀ x y,C.mv x=some y→y.1=x.1∧y.2.2.2.2=x.2.2.2.2) {x y:Stp} (hx:x∈l) (hy:C.mv x=some y) :
  ∃ m,∃ h:m<((l9 C l).map fun z=>qF z (f z)).length,YR (fun z:Stp=>z.1 == y.1) ((l9 C l).map fun z=>qF z (f z))=(m:Int)∧((l9 C l).map fun z=>qF z (f z))[m]=qF y (f y):=by
 have hm:y∈l9 C l:=List.mem_filterMap.2 ⟨x,hx,hy⟩
 obtain ⟨m,h,rfl⟩:=eu hm
 have hA:=Ak hcr ha
 have hM:=y8 (f:=f) hA
 refine ⟨m,by rw [aH];exact h,?_,by rw [iZ]⟩
 refine JK (by rw [aH];exact h) (by rw [iZ];show ((l9 C l)[m].1 == (l9 C l)[m].1)=true;simp) fun i hi=>?_
 rw [iZ]
 have:=List.pairwise_iff_getElem.1 hA i m (by omega) h hi
 show ((l9 C l)[i].1 == (l9 C l)[m].1)=false
 simp;omega
theorem ahn {C:Cg} {H:Nat→Stp→Int} {i:Nat} {l:List Stp} {k:Nat} (h:k<l.length):(l.take (k+1)).flatMap (lsS C H i)=(l.take k).flatMap (lsS C H i)++lsS C H i l[k]:=by
 exact alh
theorem Xp (C:Cg) (H:Nat→Stp→Int) (evs:List Ev) (cs:List (Int×Int×Bool)) (st:List Int) (hn:evs.length≤420) (h20:∀ e∈evs,e.stops.length≤20) (hml:∀ y,(C.ml y).length≤2) (hcr:∀ x y,C.mv x=some y→y.1=x.1∧y.2.2.2.2=x.2.2.2.2)
  (ha:∀ e∈evs,e.stops.Pairwise fun x y=>x.1 < y.1):aU Tryz.prog 188 [bK ⟨cs,st,jo H (lY C evs)⟩,.ls 3 ((IB C evs).map yK)] (.ls 3 ((NK C H evs evs.length).map iR)):=by
 have hAl:((IB C evs).map yK).length=evs.length:=by rw [aH,DX]
 have hAa:=fun k (h:k < evs.length)=>atg (C:=C) h
 obtain ⟨ALL,ava⟩:∃ z,(IB C evs).map yK=z:=⟨_,rfl⟩
 rw [ava] at hAl hAa ⊢
 clear ava
 have hFl:((jo H (lY C evs)).map dI).length=evs.length:=by rw [aH,dA,fM]
 have hFa:∀ k (h:k < evs.length),((jo H (lY C evs)).map dI)[((k:Nat):Int).toNat]?=some (dI (JB H k (yQ C k evs[k]))):=fun k h=>by
  rw [fO,bT,aI (by rw [dA,fM];exact h),nT (by rw [fM];exact h),mP h];rfl
 show aU Tryz.prog 188 [.ag [.ls 3 (cs.map aF),.ls 1 (st.map eInt),.ls 6 ((jo H (lY C evs)).map dI)],.ls 3 ALL] _
 obtain ⟨FF,hFF⟩:∃ z,(jo H (lY C evs)).map dI=z:=⟨_,rfl⟩
 rw [hFF] at hFl hFa ⊢
 clear hFF
 refine jl Tryz.func188 Tryz.ntmps188 fun w0 F0=>?_;dsimp only [St.init,number,Nat.reduceAdd]
 refine zS ?_
 refine W.tr (Tr.nil (t:=5) 122 3 rfl rfl) ?_
 refine xk ?_
 refine zS ?_
 refine W.loop (fun k:Nat=>k≤evs.length) (fun k=>⟨[(2,.pt 0 0 0),(5,.sl 1),(13,.ls 3 ALL),(14,.sc (.int .i64 ALL.length)),(15,.sc (.int .i64 k))],[(0,.box 30 [.ls 3 (cs.map aF),.ls 1 (st.map eInt),.ls 6 FF]),(1,.row 122 3 ((NK C H evs k).map iR))],2⟩) (fun k=>evs.length - k) 0 au (zqt id) fun i hi=>?_
 by_cases hlt:i < evs.length
 rotate_left
 ·obtain rfl:i=evs.length:=by omega
  refine jW ?_
  exact TL
 have hb:=abO (H:=H) hml h20 i hi
 have hAi:=hAa i hlt
 have hFi:=hFa i hlt
 have avH:=h20 _ (dS hlt)
 have hea:=ha _ (dS hlt)
 have hnx:=Ry (C:=C) (H:=H) hlt
 have hNl:((yS C evs[i].stops).map Uf).length=evs[i].stops.length:=by rw [aH,Ja]
 have hGl:((yR C evs[i].stops).map eBl).length=evs[i].stops.length:=by rw [aH,I9]
 have hNa:∀ k (h:k < evs[i].stops.length),((yS C evs[i].stops).map Uf)[((k:Nat):Int).toNat]?=some (Uf (oc1 C evs[i].stops[k])):=fun k h=>by
  rw [fO,bT,aI (by rw [Ja];exact h)];simp only [yS,iZ];rfl
 have hGa:∀ k (h:k < evs[i].stops.length),((yR C evs[i].stops).map eBl)[((k:Nat):Int).toNat]?=some [.sc (.bool (C.ch evs[i].stops[k]).2)]:=fun k h=>by
  rw [fO,bT,aI (by rw [I9];exact h)];simp only [yR,iZ];rfl
 obtain ⟨LL,U0⟩:∃ z,NK C H evs i=z:=⟨_,rfl⟩
 rw [U0] at hb hnx ⊢
 have agL:FF[((i:Nat):Int).toNat]?=some [.sc (.bool evs[i].bar),.sc (.int .i64 evs[i].val),.sc (.bool evs[i].dot),.sc (.bool evs[i].three),.sc (.bool (VQ C i evs[i])),.ls 5 (((l9 C evs[i].stops).map fun z=>qF z (H i z)).map aC)]:=hFi
 clear hAa hFa hFi U0
 have hE:lsE C H i evs[i]=lsH C i evs[i]++evs[i].stops.flatMap (lsS C H i):=rfl
 have hHd:lsH C i evs[i]=if AZ C i evs[i]=0 then [] else [((i:Int),0,AZ C i evs[i])]:=rfl
 rw [hE] at hnx
 obtain ⟨E,hEv⟩:∃ z,evs[i]=z:=⟨_,rfl⟩
 rw [hEv] at hAi avH hea hnx hNl hGl hNa hGa agL hHd
 clear hE hEv
 obtain ⟨NN,hNN⟩:∃ z,(yS C E.stops).map Uf=z:=⟨_,rfl⟩
 obtain ⟨GG,hGG⟩:∃ z,(yR C E.stops).map eBl=z:=⟨_,rfl⟩
 rw [hNN] at hAi hNl hNa
 rw [hGG] at hAi hGl hGa
 clear hNN hGG
 obtain ⟨HD,hHD⟩:∃ z,lsH C i E=z:=⟨_,rfl⟩
 rw [hHD] at hHd hnx
 have hHl:HD.length≤1:=by rw [hHd];split<;>simp
 obtain ⟨X,hX⟩:∃ z,AZ C i E=z:=⟨_,rfl⟩
 rw [hX] at hAi hHd
 clear hX hHD
 refine jW ?_
 refine WL.idx rfl rfl au hAi ?_
 refine jW ?_
 have hmm:LL.map iR++HD.map iR=(LL++HD).map iR:=(fC).symm
 refine W.meet ⟨[(2,.pt 0 0 0),(5,.sl 1),(6,.sc (.int .i64 i)),(7,.pt 2 0 0),(13,.ls 3 ALL),(14,.sc (.int .i64 ALL.length)),(15,.sc (.int .i64 i))],[(0,.box 30 [.ls 3 (cs.map aF),.ls 1 (st.map eInt),.ls 6 FF]),(1,.row 122 3 ((LL++HD).map iR)),(2,.box 276 [.sc (.int .i64 X),.ls 8 NN,.ls 1 GG])],3⟩ ?_ ?_
 ·have hLl:(LL.map iR).length=LL.length:=aH _
  (refine W.cond rfl (fun hif=>?_) (fun hif=>?_)<;>(try simp only [gu,jS,kQ,kR,iy,kS] at hif))
  ·have hX:¬ X=0:=by simpa using hif
   rw [if_neg hX] at hHd
   subst hHd
   refine jW ?_
   refine (?_:Tr _ _ _)
   exact (kL (fun q=>bif Nat.beq q 1 then 4 else q) aql rfl)
  ·have hX:X=0:=by simpa using hif
   rw [if_pos hX] at hHd
   subst hHd
   have ayI:LL.map iR=(LL++[]).map iR:=by rw [nI]
   refine jW ?_
   refine (?_:Tr _ _ _)
   exact (kL (fun q=>q) (by repeat (first|exact trivial|refine ⟨⟨?_,?_,?_⟩,?_⟩|rfl|exact congrArg (fun q=>some (AO.row _ _ q)) ayI)) rfl)
 clear hHd hmm
 obtain ⟨M0,hM0⟩:∃ z,LL++HD=z:=⟨_,rfl⟩
 have hMl:M0.length≤61*i+1:=by rw [← hM0,aY];omega
 rw [← jA,hM0] at hnx
 rw [hM0]
 clear hM0 hb hHl
 refine jW ?_
 refine W.loop (fun k:Nat=>k≤E.stops.length) (fun k=>⟨[(2,.pt 0 0 0),(5,.sl 1),(6,.sc (.int .i64 i)),(7,.pt 2 0 0),(13,.ls 3 ALL),(14,.sc (.int .i64 ALL.length)),(15,.sc (.int .i64 i)),(31,.ls 8 NN),(32,.sc (.int .i64 NN.length)),(33,.sc (.int .i64 k))],[(0,.box 30 [.ls 3 (cs.map aF),.ls 1 (st.map eInt),.ls 6 FF]),(1,.row 122 3 ((M0++(E.stops.take k).flatMap (lsS C H i)).map iR)),(2,.box 276 [.sc (.int .i64 X),.ls 8 NN,.ls 1 GG])],3⟩) (fun k=>E.stops.length - k) 0 (by omega) (kL (fun q=>q) ao9 rfl) fun k hk=>?_
 by_cases hkt:k < E.stops.length
 rotate_left
 ·obtain rfl:k=E.stops.length:=by omega
  rw [jH,← hnx]
  refine jW ?_
  refine ⟨i+1,by omega,by omega,?_⟩
  exact (zqt id)
 have OM:=hNa k hkt
 have hGk:=hGa k hkt
 have hsn:=ahn (C:=C) (H:=H) (i:=i) hkt
 have hfl:=Rx (C:=C) (H:=H) hml i (E.stops.take k)
 have htl:(E.stops.take k).length=k:=by rw [fP];omega
 have hfound:=fun y hy=>ahd (C:=C) (f:=H i) hea hcr (dS hkt) (y:=y) hy
 have avO:=hml (C.ch E.stops[k]).1
 clear hNa hGa
 obtain ⟨P0,hP0⟩:∃ z,(E.stops.take k).flatMap (lsS C H i)=z:=⟨_,rfl⟩
 rw [hP0] at hsn hfl ⊢
 have hnext:M0++(E.stops.take (k+1)).flatMap (lsS C H i)=M0++P0++lsS C H i E.stops[k]:=by rw [hsn,jA]
 have hPl:(M0++P0).length≤30000:=by rw [aY];omega
 obtain ⟨Q0,hQ0⟩:∃ z,M0++P0=z:=⟨_,rfl⟩
 rw [hQ0] at hPl hnext ⊢
 clear hsn hfl hP0 hQ0
 have hQl:(Q0.map iR).length=Q0.length:=aH _
 obtain ⟨x,hx⟩:∃ z,E.stops[k]=z:=⟨_,rfl⟩
 rw [hx] at OM hGk hfound avO hnext
 clear hx
 cases hlo:(C.ch x).2 with
 | true =>
  have hmv:C.mv x=none:=if_pos hlo
  have hS:lsS C H i x=[((i:Int),x.1,1)]:=by unfold lsS;rw [hmv]
  have ho1:oc1 C x=((C.ch x).1,x.1,x.2.2.2.2,[]):=if_pos hlo
  rw [hS] at hnext
  rw [ho1] at OM
  rw [hlo] at hGk
  have hfin:Q0.map iR++[iR ((i:Int),x.1,1)]=(M0++(E.stops.take (k+1)).flatMap (lsS C H i)).map iR:=by rw [hnext,fC];rfl
  refine aqD ?_
  exact ari
 | false =>
  obtain ⟨y,hy⟩:∃ y,C.mr (C.ch x).1=y:=⟨_,rfl⟩
  have hmv:C.mv x=some y:=(if_neg (by rw [hlo];simp)).trans (by rw [hy])
  have ho1:oc1 C x=(y,x.1,x.2.2.2.2,C.ml (C.ch x).1):=(if_neg (by rw [hlo];simp)).trans (by rw [hy])
  obtain ⟨m,hm,hix,hgm⟩:=hfound y hmv
  have hS:lsS C H i x=(C.ml (C.ch x).1).map (fun w=>((i:Int),x.1,w))++if H i y=x.2.2.2.2 then [] else [((i:Int),x.1,4)]:=by unfold lsS;rw [hmv]
  rw [hS,← jA] at hnext
  rw [ho1] at OM
  rw [hlo] at hGk
  clear hS ho1 hfound
  obtain ⟨ML,hML⟩:∃ z,C.ml (C.ch x).1=z:=⟨_,rfl⟩
  rw [hML] at avO OM hnext
  clear hML
  have hgq:((l9 C E.stops).map fun z=>qF z (H i z))[m]?=some (qF y (H i y)):=by rw [aI hm,hgm]
  clear hgm
  obtain ⟨FS,hFS⟩:∃ z,((l9 C E.stops).map fun z=>qF z (H i z))=z:=⟨_,rfl⟩
  rw [hFS] at agL hm hix hgq
  have aAS:FS.length≤20:=by
   rw [← hFS,aH]
   exact jV (xM _ _) avH
  have hIx:=anB FS (y,x.1,x.2.2.2.2,ML) au
  rw [show YR (fun z:Stp=>z.1 == ((y,x.1,x.2.2.2.2,ML):Nte).1.1) FS=(m:Int) from hix] at hIx
  have hFm:(FS.map aC)[((m:Nat):Int).toNat]?=some (aC (qF y (H i y))):=by rw [fO,bT,hgq];rfl
  have ayf:(FS.map aC).length=FS.length:=aH _
  have hIx:aU Tryz.prog 186 [.ls 5 (FS.map aC),.fn 241 [.pr [.sc (.int .i64 y.1),.sc (.int .i64 y.2.1),.sc (.int .i64 y.2.2.1),.sc (.int .i64 y.2.2.2.1),.sc (.int .i64 y.2.2.2.2),.sc (.int .i64 x.1),.sc (.int .i64 x.2.2.2.2),.ls 1 (ML.map eInt)]]] (.sc (.int .i64 (m:Int))):=hIx
  have OM:NN[((k:Nat):Int).toNat]?=some [.sc (.int .i64 y.1),.sc (.int .i64 y.2.1),.sc (.int .i64 y.2.2.1),.sc (.int .i64 y.2.2.2.1),.sc (.int .i64 y.2.2.2.2),.sc (.int .i64 x.1),.sc (.int .i64 x.2.2.2.2),.ls 1 (ML.map eInt)]:=OM
  have hFm:(FS.map aC)[((m:Nat):Int).toNat]?=some [.sc (.int .i64 y.1),.sc (.int .i64 y.2.1),.sc (.int .i64 y.2.2.1),.sc (.int .i64 y.2.2.2.1),.sc (.int .i64 (H i y))]:=hFm
  obtain ⟨FR,hFR⟩:∃ z,FS.map aC=z:=⟨_,rfl⟩
  rw [hFR] at agL hIx hFm ayf
  clear hFR hFS hgq hix
  refine aqD ?_
  refine W.loop (fun j:Nat=>j≤ML.length) (fun j=>⟨[(2,.pt 0 0 0),(5,.sl 1),(6,.sc (.int .i64 i)),(7,.pt 2 0 0),(8,.sc (.int .i64 k)),(9,.pt 3 0 0),(13,.ls 3 ALL),(14,.sc (.int .i64 ALL.length)),(15,.sc (.int .i64 i)),(31,.ls 8 NN),(32,.sc (.int .i64 NN.length)),(33,.sc (.int .i64 k)),(51,.ls 1 (ML.map eInt)),(52,.sc (.int .i64 ML.length)),(53,.sc (.int .i64 j))],[(0,.box 30 [.ls 3 (cs.map aF),.ls 1 (st.map eInt),.ls 6 FF]),(1,.row 122 3 ((Q0++(ML.take j).map (fun w=>((i:Int),x.1,w))).map iR)),(2,.box 276 [.sc (.int .i64 X),.ls 8 NN,.ls 1 GG]),(3,.box 332 [.sc (.int .i64 y.1),.sc (.int .i64 y.2.1),.sc (.int .i64 y.2.2.1),.sc (.int .i64 y.2.2.2.1),.sc (.int .i64 y.2.2.2.2),.sc (.int .i64 x.1),.sc (.int .i64 x.2.2.2.2),.ls 1 (ML.map eInt)])],4⟩) (fun j=>ML.length - j) 0 (by omega) (kL (fun q=>q) ao9 rfl) fun j hj=>?_
  have hjl:((Q0++(ML.take j).map (fun w=>((i:Int),x.1,w))).map iR).length≤40000:=by rw [aH,aY,aH,fP];omega
  by_cases hjt:j < ML.length
  ·have hrow:(Q0++(ML.take j).map (fun w=>((i:Int),x.1,w))).map iR++[iR ((i:Int),x.1,ML[j])]=(Q0++(ML.take (j+1)).map (fun w=>((i:Int),x.1,w))).map iR:=by
    have e:Q0++(ML.take (j+1)).map (fun w=>((i:Int),x.1,w))=Q0++(ML.take j).map (fun w=>((i:Int),x.1,w))++[((i:Int),x.1,ML[j])]:=by
     rw [mJ hjt,fC,jA];rfl
    rw [e]
    exact (fC (f:=iR) (l₂:=[((i:Int),x.1,ML[j])])).symm
   obtain ⟨RR,hRR⟩:∃ z,(Q0++(ML.take j).map (fun w=>((i:Int),x.1,w))).map iR=z:=⟨_,rfl⟩
   rw [hRR] at hrow hjl ⊢
   refine jW ?_
   refine ⟨j+1,by omega,by omega,?_⟩
   exact (kL (fun q=>bif Nat.beq q 1 then 5 else q) aaz rfl)
  obtain rfl:j=ML.length:=by omega
  rw [jH] at hjl ⊢
  obtain ⟨Q1,hQ1⟩:∃ z,Q0++ML.map (fun w=>((i:Int),x.1,w))=z:=⟨_,rfl⟩
  rw [hQ1] at hjl hnext ⊢
  have aA2:Q1.length≤40000:=by rw [aH] at hjl;exact hjl
  refine jW ?_
  refine WL.idx rfl rfl au agL ?_
  refine jW ?_
  refine yH ?_
  refine WL.vl rfl (WV.ahk (dL _) rfl (ak Tryz.func186 rfl rfl) rfl rfl rfl rfl rfl rfl H7 hIx.g) ?_
  by_cases hh:H i y=x.2.2.2.2
  ·rw [if_pos hh,nI] at hnext
   have hfin:Q1.map iR=(M0++(E.stops.take (k+1)).flatMap (lsS C H i)).map iR:=by rw [hnext]
   refine aqG ?_
   rw [show decide (H i y=x.2.2.2.2)=true from dG hh]
   refine jW ?_
   refine ⟨k+1,by omega,by omega,?_⟩
   exact (kL (fun q=>q) aqk rfl)
  ·rw [if_neg hh] at hnext
   have hfin:Q1.map iR++[iR ((i:Int),x.1,4)]=(M0++(E.stops.take (k+1)).flatMap (lsS C H i)).map iR:=by rw [hnext,fC];rfl
   refine aqG ?_
   rw [show decide (H i y=x.2.2.2.2)=false from cZ hh]
   refine jW ?_
   exact ari
end Go.Proofs.YthehkchjdkdbiaaGreatDoor
