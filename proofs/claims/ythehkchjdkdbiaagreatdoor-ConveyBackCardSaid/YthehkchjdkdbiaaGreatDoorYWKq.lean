/- A piece carried over: the program's carry, Reduce. (RWN.) -/
import Derived.Test.YthehkchjdkdbiaaGreatDoorYVKq
import Derived.Test.YthehkchjdkdbiaaGreatDoorYOKq
import Derived.Test.YthehkchjdkdbiaaGreatDoorYZKq
set_option maxHeartbeats 8000000
set_option maxRecDepth 100000
set_option linter.unusedVariables false
set_option linter.unusedSimpArgs false
namespace Go.Proofs.YthehkchjdkdbiaaGreatDoor
open Go.RowKit
theorem arR (s:Int) (hs:1≤s∧s≤4) (p:aS) (hO:jm p) (h0:aV p=0) (H:Nat→Stp→Int) (hH:Jh (iT s ⟨p.cs,p.st,jo (pF (lY (aB s) p.evs)) (lY (aB s) p.evs)⟩) (jo (pF (lY (aB s) p.evs)) (lY (aB s) p.evs))=jo H (lY (aB s) p.evs))
  (hZ:∀ x∈iT s ⟨p.cs,p.st,jo (pF (lY (aB s) p.evs)) (lY (aB s) p.evs)⟩,x.2.2=4→∃ (i:Nat) (hi:i < (jo (pF (lY (aB s) p.evs)) (lY (aB s) p.evs)).length) (k:Nat) (hk:k < (jo (pF (lY (aB s) p.evs)) (lY (aB s) p.evs))[i].stops.length),x.1=i∧(jo (pF (lY (aB s) p.evs)) (lY (aB s) p.evs))[i].stops[k].1=x.2.1) :
  aU Tryz.prog 123 [.ag [.ls 3 (p.cs.map aF),.ls 1 (p.st.map eInt),.sc (.bool (!aO s 7)),.fn 120 [.pr [.sc (.bool (aO s 7))],.pr [.sc (.bool (aO s 8))]],.fn 119 [.pr [.sc (.int .u8 s)]],.fn 121 [.pr [.sc (.int .u8 s)]],.fn 122 [.pr [.sc (.int .u8 s)]]],bK p] (.tu [bK ⟨p.cs,p.st,jo H (lY (aB s) p.evs)⟩,.ls 3 ((NK (aB s) H p.evs p.evs.length).map iR)]):=by
 obtain ⟨_,au8,_⟩:=dY h0
 have h20:∀ e∈p.evs,e.stops.length≤20:=fun e he=>by
  exact aaG
 have anf:∀ e∈p.evs,e.stops.Pairwise fun x y=>x.1 < y.1:=fun e he=>by
  exact akY
 have hNl:=fM (aB s) p.evs
 have Rh:∀ e∈(lY (aB s) p.evs),e.stops.length≤20:=fun e he=>by
  exact aru
 have hLo:=Xp (aB s) H p.evs p.cs p.st au h20 (aoo s) zq anf
 have hone:∀ k (hk:k < p.evs.length),jI jE 0 Tryz.prog 185 [.ag [.ls 3 (p.cs.map aF),.ls 1 (p.st.map eInt),.sc (.bool (!aO s 7)),.fn 120 [.pr [.sc (.bool (aO s 7))],.pr [.sc (.bool (aO s 8))]],.fn 119 [.pr [.sc (.int .u8 s)]],.fn 121 [.pr [.sc (.int .u8 s)]],.fn 122 [.pr [.sc (.int .u8 s)]]],.pt 0 0 0,.sc (.bool (decide (k=0)))] [(0,.box 90 (dI p.evs[k]))] 1 (.ag (NR (AZ (aB s) k p.evs[k]) (yS (aB s) p.evs[k].stops) (yR (aB s) p.evs[k].stops)))
   [(0,.box 90 (UF (yQ (aB s) k p.evs[k]) 1)),(1,.row 69 5 ((l9 (aB s) p.evs[k].stops).map aC)),(2,.box 276 (NR (AZ (aB s) k p.evs[k]) (yS (aB s) p.evs[k].stops) (yR (aB s) p.evs[k].stops)))] 3:=fun k hk=>by
  have hE:=ji h0 hk
  by_cases hz:p.evs[k].stops=[]
  ·exact atq s p.cs p.st k p.evs[k] hz
  ·refine atr s hs p.cs p.st k p.evs[k] hz hE.EK (ape hE.EK fun x hx=>⟨(hE.stops x hx).aT.1,(hE.stops x hx).c14⟩) fun j hj=>?_
   obtain ⟨a,b,c,d,_⟩:=lG h0 k hk j hj
   exact ⟨a,b,c,d⟩
 have hrow1:∀ k (hk:k < p.evs.length),((IB (aB s) p.evs).take k).map yK++[NR (AZ (aB s) k p.evs[k]) (yS (aB s) p.evs[k].stops) (yR (aB s) p.evs[k].stops)]=((IB (aB s) p.evs).take (k+1)).map yK:=fun k hk=>by
  exact ajY
 have hrow2:∀ k (hk:k < p.evs.length),((lY (aB s) p.evs).take k).map bM++[bM (yQ (aB s) k p.evs[k])]=((lY (aB s) p.evs).take (k+1)).map bM:=fun k hk=>by
  exact akx
 have hAl:(IB (aB s) p.evs).length=p.evs.length:=DX _ _
 refine jl Tryz.func123 Tryz.ntmps123 fun w0 F0=>?_;dsimp only [St.init,number,Nat.reduceAdd]
 refine aqx ?_
 refine xk ?_
 refine XC ?_
 refine W.loop (fun k:Nat=>k≤p.evs.length) (fun k=>⟨[(2,.pt 0 0 0),(3,.pt 1 0 0),(4,.pt 2 0 0),(6,.pt 3 0 0),(7,.sl 4),(21,.ls 6 (p.evs.map dI)),(22,.sc (.int .i64 p.evs.length)),(23,.sc (.int .i64 k))],[(0,.box 203 [.ls 3 (p.cs.map aF),.ls 1 (p.st.map eInt),.sc (.bool (!aO s 7)),.fn 120 [.pr [.sc (.bool (aO s 7))],.pr [.sc (.bool (aO s 8))]],.fn 119 [.pr [.sc (.int .u8 s)]],.fn 121 [.pr [.sc (.int .u8 s)]],.fn 122 [.pr [.sc (.int .u8 s)]]]),(1,.box 30 [.ls 3 (p.cs.map aF),.ls 1 (p.st.map eInt),.ls 6 (p.evs.map dI)]),(2,.box 30 [.sc (.slice none 0 0),.sc (.slice none 0 0),.sc (.slice none 0 0)]),(3,.box 30 [.ls 3 (p.cs.map aF),.ls 1 (p.st.map eInt),.sl 5]),(4,.row 276 3 (((IB (aB s) p.evs).take k).map yK)),(5,.jM 90 6 (((lY (aB s) p.evs).take k).map bM))],6⟩) (fun k=>p.evs.length - k) 0 (by omega) (zqt id) fun k hk=>?_
 by_cases hlt:k < p.evs.length
 ·have hr1:=hrow1 k hlt
  have hr2:=hrow2 k hlt
  have ho:=hone k hlt
  have l1:(((IB (aB s) p.evs).take k).map yK).length=k:=by rw [aH,fP,hAl];omega
  have l2:(((lY (aB s) p.evs).take k).map bM).length=k:=by rw [aH,fP,hNl];omega
  obtain ⟨R1,hR1⟩:∃ z,((IB (aB s) p.evs).take k).map yK=z:=⟨_,rfl⟩
  obtain ⟨R2,hR2⟩:∃ z,((lY (aB s) p.evs).take k).map bM=z:=⟨_,rfl⟩
  exact axg
 obtain rfl:k=p.evs.length:=by omega
 rw [wS (by omega:(IB (aB s) p.evs).length≤p.evs.length),wS (by omega:(lY (aB s) p.evs).length≤p.evs.length)]
 have asj:((IB (aB s) p.evs).map yK).length=p.evs.length:=by rw [aH,hAl]
 obtain ⟨AL,hAL⟩:∃ z,(IB (aB s) p.evs).map yK=z:=⟨_,rfl⟩
 rw [hAL] at hLo asj ⊢
 obtain ⟨EV,hEV⟩:∃ z,p.evs.map dI=z:=⟨_,rfl⟩
 rw [hEV]
 have hL4:=awz s ⟨p.cs,p.st,jo (pF (lY (aB s) p.evs)) (lY (aB s) p.evs)⟩ ⟨hO.n1,hO.n2,by show (jo (pF (lY (aB s) p.evs)) (lY (aB s) p.evs)).length≤420;rw [dA,hNl];exact hO.n3,fun k hk=>by
  have hk1:k < (lY (aB s) p.evs).length:=by
   have hk:k < (jo (pF (lY (aB s) p.evs)) (lY (aB s) p.evs)).length:=hk
   rw [dA] at hk;exact hk
  show (jo (pF (lY (aB s) p.evs)) (lY (aB s) p.evs))[k].stops.length≤20
  rw [nT hk1]
  show (List.map _ _).length≤20
  rw [aH]
  exact Rh _ (dS hk1)⟩
 have hLlen:(iT s ⟨p.cs,p.st,jo (pF (lY (aB s) p.evs)) (lY (aB s) p.evs)⟩).length≤30000:=hL4.1
 have hL4:=hL4.2
 have agQ:∀ e∈jo (pF (lY (aB s) p.evs)) (lY (aB s) p.evs),e.stops.Pairwise fun x y=>x.1 < y.1:=abt (by
  intro e he
  obtain ⟨i,hi,rfl⟩:=eu he
  have hi':i < p.evs.length:=by rw [fM] at hi;exact hi
  rw [mP hi']
  exact Ak zq (anf _ (dS hi')))
 have YC:(lY (aB s) p.evs).length≤400:=by omega
 clear hone hrow1 hrow2 hAL hEV
 obtain ⟨NW,hNW⟩:∃ z,(lY (aB s) p.evs)=z:=⟨_,rfl⟩
 rw [hNW] at hNl Rh hLo YC hL4 hLlen hH hZ agQ
 rw [hNW]
 clear hNW
 obtain ⟨H0,hH0⟩:∃ z,pF NW=z:=⟨_,rfl⟩
 rw [hH0] at hL4 hLlen hH hZ agQ
 skip
 refine jB ?_
 rw [show NW.map bM=(vP H0 NW 0 0).map bM by rw [apl]]
 refine W.loop (fun n:Nat=>n≤NW.length) (fun n=>⟨[(2,.pt 0 0 0),(4,.pt 2 0 0),(6,.pt 3 0 0),(7,.sl 4),(45,.sc (.int .i64 NW.length)),(46,.sc (.int .i64 n))],[(0,.box 203 [.ls 3 (p.cs.map aF),.ls 1 (p.st.map eInt),.sc (.bool (!aO s 7)),.fn 120 [.pr [.sc (.bool (aO s 7))],.pr [.sc (.bool (aO s 8))]],.fn 119 [.pr [.sc (.int .u8 s)]],.fn 121 [.pr [.sc (.int .u8 s)]],.fn 122 [.pr [.sc (.int .u8 s)]]]),(2,.box 30 [.sc (.slice none 0 0),.sc (.slice none 0 0),.sc (.slice none 0 0)]),(3,.box 30 [.ls 3 (p.cs.map aF),.ls 1 (p.st.map eInt),.sl 5]),(4,.row 276 3 AL),(5,.jM 90 6 ((vP H0 NW n 0).map bM))],6⟩) (fun n=>NW.length - n) 0 (by omega) (zqt id) fun n hn=>?_
 have hnl:((vP H0 NW n 0).map bM).length=NW.length:=by rw [aH,jw]
 by_cases hlt:n < NW.length
 ·have JH:(vP H0 NW n 0)[n]'(by rw [jw];exact hlt)=NW[n]:=abu hlt
  have hlt2:n < (vP H0 NW n 0).length:=by rw [jw];exact hlt
  have hat:((vP H0 NW n 0).map bM)[n]?=some (bM NW[n]):=by rw [Yn hlt2,JH]
  have ayK:=Rh _ (dS hlt)
  refine aqz ?_
  refine WL.ldQ rfl rfl rfl rfl hat Dc ?_
  refine jB ?_
  refine W.loop (fun j:Nat=>j≤NW[n].stops.length) (fun j=>⟨[(2,.pt 0 0 0),(4,.pt 2 0 0),(6,.pt 3 0 0),(7,.sl 4),(11,.sc (.int .i64 n)),(45,.sc (.int .i64 NW.length)),(46,.sc (.int .i64 n)),(55,.sc (.int .i64 NW[n].stops.length)),(56,.sc (.int .i64 j))],[(0,.box 203 [.ls 3 (p.cs.map aF),.ls 1 (p.st.map eInt),.sc (.bool (!aO s 7)),.fn 120 [.pr [.sc (.bool (aO s 7))],.pr [.sc (.bool (aO s 8))]],.fn 119 [.pr [.sc (.int .u8 s)]],.fn 121 [.pr [.sc (.int .u8 s)]],.fn 122 [.pr [.sc (.int .u8 s)]]]),(2,.box 30 [.sc (.slice none 0 0),.sc (.slice none 0 0),.sc (.slice none 0 0)]),(3,.box 30 [.ls 3 (p.cs.map aF),.ls 1 (p.st.map eInt),.sl 5]),(4,.row 276 3 AL),(5,.oW 90 6 ((vP H0 NW n 0).map bM) n 5 (.sl 6)),(6,.row 69 5 ((NI H0 n j NW[n].stops).map aC))],7⟩) (fun j=>NW[n].stops.length - j) 0 (by omega) (kL (fun q=>q) aqi rfl) fun j hj=>?_
  have hjl:((NI H0 n j NW[n].stops).map aC).length=NW[n].stops.length:=by rw [aH,IW]
  by_cases hjt:j < NW[n].stops.length
  ·have hKj:=abq (H:=H0) (n:=n) hjt
   have hput:=abr (H:=H0) (n:=n) hjt
   have hkl:=IW H0 n j NW[n].stops
   have hkc:=abp H0 n j NW[n].stops
   have ang:H0 n NW[n].stops[j]=if NW[n].stops[j].2.1=0 then 0 else min NW[n].stops[j].2.2.2.2 (ah NW n NW[n].stops[j].1:Int):=by rw [← hH0];rfl
   have agP:∀ K:List Stp,K.length=NW[n].stops.length→K.map (fun x=>x.1)=NW[n].stops.map (fun x=>x.1)→∀ c,aU Tryz.prog 95 [.ag [.ls 3 (p.cs.map aF),.ls 1 (p.st.map eInt),.ls 6 ((Q7 (vP H0 NW n 0) n K).map dI)],.sc (.int .i64 n),.sc (.int .i64 c)] (.sc (.int .i64 (ah NW n c))):=fun K hK hKc c=>by
    have h:=Xo ⟨p.cs,p.st,Q7 (vP H0 NW n 0) n K⟩ ⟨hO.n1,hO.n2,by show (Q7 (vP H0 NW n 0) n K).length≤420;rw [abj,jw];omega,fun k hk=>ags hlt2 (by omega) (agB Rh n 0) _ (dS _)⟩ n c
    rw [show ah (aS.mk p.cs p.st (Q7 (vP H0 NW n 0) n K)).evs n c=ah NW n c from xC ((abh hlt2 (by rw [JH];exact hKc)).trans (abw H0 NW n 0)) n c] at h
    exact h
   exact axb
  exact aqY
 obtain rfl:n=NW.length:=by omega
 rw [abv] at hnl ⊢
 have hLk:∀ j (h:j < (iT s ⟨p.cs,p.st,jo H0 NW⟩).length),((iT s ⟨p.cs,p.st,jo H0 NW⟩).map iR)[((j:Nat):Int).toNat]?=some (iR (iT s ⟨p.cs,p.st,jo H0 NW⟩)[j]):=fun j h=>y7 h
 have hLs:∀ r∈(iT s ⟨p.cs,p.st,jo H0 NW⟩).map iR,∀ av∈r,∃ z,av=.sc z:=ar0 _
 have hMl:(jo H0 NW).length=NW.length:=dA _ _
 have avf:∀ e∈jo H0 NW,e.stops.length≤20:=fun e he=>by
  obtain ⟨i,hi,rfl⟩:=eu he
  have hi':i < NW.length:=by rw [dA] at hi;exact hi
  rw [nT hi']
  show (List.map _ _).length≤20
  rw [aH]
  exact Rh _ (dS hi')
 have hL4:jI jE 0 Tryz.prog 122 [.ag [.ls 3 (p.cs.map aF),.ls 1 (p.st.map eInt),.ls 6 ((jo H0 NW).map dI)],.pr [.sc (.int .u8 s)]] [] 0 (.sl 0) [(0,.row 122 3 ((iT s ⟨p.cs,p.st,jo H0 NW⟩).map iR))] 1:=hL4
 obtain ⟨LK,hLK⟩:∃ z,iT s ⟨p.cs,p.st,jo H0 NW⟩=z:=⟨_,rfl⟩
 rw [hLK] at hL4 hLlen hH hZ hLk hLs
 clear hLK
 obtain ⟨MD,hMD⟩:∃ z,jo H0 NW=z:=⟨_,rfl⟩
 rw [hMD] at hL4 hH hZ agQ hMl avf hnl ⊢
 clear hMD
 have hMr:((MD.map bM).map fun r=>r.map (AV.fz 1))=MD.map dI:=sG MD
 refine jB ?_
 refine WL.vl rfl (Ad rfl) ?_
 refine jB ?_
 refine WL.op rfl (WO.av4 (dL _) rfl (ak Tryz.func122 rfl rfl) rfl rfl rfl rfl (.cons (gY.ag (.cons (gY.pu rfl) (.cons (gY.pu rfl) (.cons (gY.jM 1 rfl (ni _) hMr) .nil)))) (.cons (gY.pu rfl) .nil)) H7 hL4 hLs rfl rfl rfl) ?_
 refine xk ?_
 refine WL.tr (Tr.freeze 6 rfl) ?_
 have ayi:(LK.map iR).length=LK.length:=aH _
 obtain ⟨LR,hLR⟩:∃ z,LK.map iR=z:=⟨_,rfl⟩
 rw [hLR] at ayi hLk ⊢
 clear hL4 hLs hLR
 refine jB ?_
 have ay0:Jh [] MD=MD:=adg MD
 rw [show MD.map bM=(Jh (LK.take 0) MD).map bM by rw [List.take_zero,ay0]]
 refine W.loop (fun j:Nat=>j≤LK.length) (fun j=>⟨[(2,.pt 0 0 0),(4,.pt 2 0 0),(6,.pt 3 0 0),(7,.sl 4),(98,.ls 3 LR),(99,.sc (.int .i64 LR.length)),(100,.sc (.int .i64 j))],[(2,.box 30 [.sc (.slice none 0 0),.sc (.slice none 0 0),.sc (.slice none 0 0)]),(3,.box 30 [.ls 3 (p.cs.map aF),.ls 1 (p.st.map eInt),.sl 5]),(4,.row 276 3 AL),(5,.jM 90 6 ((Jh (LK.take j) MD).map bM))],6⟩) (fun j=>LK.length - j) 0 (by omega) (zqt id) fun j hj=>?_
 have hzl:((Jh (LK.take j) MD).map bM).length=MD.length:=by rw [aH,sF]
 by_cases hjt:j < LK.length
 ·have YB:=hLk j hjt
  have hZj:=hZ _ (dS hjt)
  have hoth:=fun (h:LK[j].2.2≠4)=>afI (l:=LK.take j) (x:=LK[j]) MD h
  have htk:LK.take (j+1)=LK.take j++[LK[j]]:=mJ hjt
  rw [← htk] at hoth
  by_cases h4:LK[j].2.2=4
  rotate_left
  ·have hoth:=hoth h4
   obtain ⟨X,hX⟩:∃ z,LK[j]=z:=⟨_,rfl⟩
   rw [hX] at YB h4
   refine jB ?_
   refine WL.idx rfl rfl au YB ?_
   refine jB ?_
   refine ⟨j+1,by omega,by omega,?_⟩
   rw [hoth]
   exact (zqt id)
  obtain ⟨i,hi,k,hk,e1,e2⟩:=hZj h4
  have hm:=amg (l:=LK.take j) (c:=LK[j].2.1) agQ hi hk e2
  have hX3:LK[j]=((i:Int),LK[j].2.1,4):=by rw [← e1,← h4]
  rw [show LK.take j++[((i:Int),LK[j].2.1,4)]=LK.take (j+1) by rw [htk,← hX3]] at hm
  rw [hX3] at YB
  have hi2:i < (Jh (LK.take j) MD).length:=by rw [sF];exact hi
  have hzi:(Jh (LK.take j) MD)[i]=II (LK.take j) i MD[i]:=by simp only [Jh,jh]
  have hat:((Jh (LK.take j) MD).map bM)[i]?=some (bM (II (LK.take j) i MD[i])):=by rw [Yn hi2,hzi]
  have asC:∀ m (h:m < MD[i].stops.length),((II (LK.take j) i MD[i]).stops[m]'(by show m < (List.map _ _).length;rw [aH];exact h)).1=MD[i].stops[m].1:=fun m h=>by
   simp only [II,iZ]
   split<;>rfl
  have anz:(II (LK.take j) i MD[i]).stops.length=MD[i].stops.length:=by show (List.map _ _).length=_;rw [aH]
  have hik:YR (fun x:Stp=>x.1 == LK[j].2.1) (II (LK.take j) i MD[i]).stops=k:=by
   refine JK (by rw [anz];exact hk) (by rw [asC k hk,e2];simp) fun q hq=>?_
   rw [asC q (by omega),← e2]
   have:=List.pairwise_iff_getElem.1 (agQ _ (dS hi)) q k (by omega) hk hq
   simp;omega
  have hzk:(II (LK.take j) i MD[i]).stops[k]?=some ((II (LK.take j) i MD[i]).stops[k]'(by rw [anz];exact hk)):=aI _
  have avS:qF ((II (LK.take j) i MD[i]).stops[k]'(by rw [anz];exact hk)) 0=qF MD[i].stops[k] 0:=by
   simp only [II,iZ]
   split<;>rfl
  have aBd:=avf _ (dS hi)
  have hIx:=anC (II (LK.take j) i MD[i]).stops ((i:Int),LK[j].2.1,4) au
  rw [show YR (fun x:Stp=>x.1 == ((i:Int),LK[j].2.1,(4:Int)).2.1) (II (LK.take j) i MD[i]).stops=(k:Int) from hik] at hIx
  have hset:((Jh (LK.take j) MD).map bM).set i ((bM (II (LK.take j) i MD[i])).set 5 (.ow 69 5 ((((II (LK.take j) i MD[i]).stops.set k (qF MD[i].stops[k] 0)).map aC))))=(Jh (LK.take (j+1)) MD).map bM:=by
   rw [hm]
   exact (wX (f:=bM) (l:=Jh (LK.take j) MD) (i:=i) (a:={ II (LK.take j) i MD[i] with stops:=(II (LK.take j) i MD[i]).stops.set k (qF MD[i].stops[k] 0) })).symm
  obtain ⟨ZE,hZE⟩:∃ z,II (LK.take j) i MD[i]=z:=⟨_,rfl⟩
  obtain ⟨Y,hY⟩:∃ z,MD[i].stops[k]=z:=⟨_,rfl⟩
  rw [hZE] at hat anz hIx hset
  rw [hY] at hset
  have ayZ:∃ W,ZE.stops[k]?=some W∧qF W 0=qF Y 0:=by
   subst hZE hY
   exact ⟨_,hzk,avS⟩
  obtain ⟨Wk,hWk,hW0⟩:=ayZ
  have hrow:=Em hWk
  have hsl:(ZE.stops.map aC).length=ZE.stops.length:=aH _
  have hkz:k < ZE.stops.length:=by omega
  have hput:(ZE.stops.map aC).set k (jQ 4 [.sc (.int .i64 0)] (aC Wk))=(ZE.stops.set k (qF Y 0)).map aC:=by rw [Ej Wk 0,hW0]
  rw [← hput] at hset
  obtain ⟨cc,hcc⟩:∃ z,LK[j].2.1=z:=⟨_,rfl⟩
  rw [hcc] at YB hIx
  have YB:LR[((j:Nat):Int).toNat]?=some [.sc (.int .i64 (i:Int)),.sc (.int .i64 cc),.sc (.int .i64 4)]:=YB
  clear hZE hY hzi asC hm hik hzk avS hX3 htk hoth hcc
  refine jB ?_
  refine WL.idx rfl rfl au YB ?_
  refine jB ?_
  refine WL.tr (Tr.open_ 5 i 5 rfl hat rfl (Dw _) rfl) ?_
  dsimp only [St.upd,St.new,Nat.reduceAdd]
  refine jB ?_
  refine WL.ldQ rfl rfl rfl rfl hat Dc ?_
  refine jB ?_
  refine yH ?_
  refine WL.vl rfl (WV.ahk (dL _) rfl (ak Tryz.func186 rfl rfl) rfl rfl rfl rfl rfl rfl H7 hIx.g) ?_
  refine jB ?_
  refine WL.ldQ rfl rfl rfl rfl hat Dc ?_
  refine jB ?_
  refine WL.yT rfl rfl rfl rfl hrow XG ?_
  refine jB ?_
  refine ⟨j+1,by omega,by omega,?_⟩
  refine Tr.trans (Tr.close_ 5 rfl rfl rfl hat Dc hset) ?_
  exact (zqt id)
 obtain rfl:j=LK.length:=by omega
 rw [jH,hH]
 refine jB ?_
 refine W.tr (Tr.abz 5 1 rfl (List.all_eq_true.2 fun r hr=>List.all_eq_true.2 (ni _ r hr)) (sG _)) ?_
 refine aqA ?_
 refine ajU ?_
 refine mO.st rfl rfl ?_
 refine mO.v0 rfl (bZ Tryz.func188 hLo) ?_
 refine ajI ?_
 refine mO.st rfl rfl ?_
 refine mO.nil ?_
 refine XC ?_
 exact W.ret (Yt rfl rfl rfl rfl)
end Go.Proofs.YthehkchjdkdbiaaGreatDoor
