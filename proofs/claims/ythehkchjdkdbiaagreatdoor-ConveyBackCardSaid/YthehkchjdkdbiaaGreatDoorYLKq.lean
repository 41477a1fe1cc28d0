/- The functions that Reduce hands to carry; what a system says of an event alone. -/
import Derived.Test.YthehkchjdkdbiaaGreatDoorPlEKq
import Derived.Test.YthehkchjdkdbiaaGreatDoorYFKq
set_option maxHeartbeats 8000000
set_option maxRecDepth 100000
set_option linter.unusedVariables false
set_option linter.unusedSimpArgs false
namespace Go.Proofs.YthehkchjdkdbiaaGreatDoor
theorem aqj {p:Prop}(h:p:=by repeat (first|exact trivial|refine ⟨⟨?_,?_,?_⟩,?_⟩|rfl|exact congrArg (fun q=>some (AO.row _ _ q)) hfin|exact congrArg (fun q=>some (AO.jM _ _ q)) hfin)):p:=h
theorem aqi {p:Prop}(h:p:=by repeat (first|exact trivial|refine ⟨⟨?_,?_,?_⟩,?_⟩|rfl|exact congrArg (fun q=>some (AO.row _ _ q)) (by rw [apk])|exact congrArg (fun q=>some (AO.jM _ _ q)) (by rw [apk]))):p:=h
theorem aqh {p:Prop}(h:p:=by repeat (first|exact trivial|refine ⟨⟨?_,?_,?_⟩,?_⟩|rfl|exact congrArg (fun q=>some (AO.row _ _ q)) n1|exact congrArg (fun q=>some (AO.row _ _ q)) n2|exact congrArg (fun q=>some (AO.row _ _ q)) n3)):p:=h
section
variable {p:Prop}
theorem alv(h:p:=by
 refine jl Tryz.func36 Tryz.ntmps36 fun w0 F0=>?_;dsimp only [St.init,number,Nat.reduceAdd]
 refine aw0 ?_
 refine WL.vl rfl (bZ Tryz.func84 hP) ?_
 refine aqb ?_
 refine WL.vl rfl (bZ Tryz.func87 hS) ?_
 refine aqb ?_
 exact kC):p:=h
theorem alq(h:p:=by
 refine jl Tryz.func34 Tryz.ntmps34 fun w0 F0=>?_;dsimp only [St.init,number,Nat.reduceAdd]
 refine Ey ?_
 refine WL.vl rfl (bZ Tryz.func84 hP) ?_
 refine aqa ?_
 refine WL.vl rfl (WV.sys hs En rfl rfl (fun vs w=>by kernel_rfl) (fun vs w=>by kernel_rfl) (fun vs w=>by kernel_rfl) (fun vs w=>by kernel_rfl) rfl rfl hS) ?_
 refine aqa ?_
 exact kC):p:=h
theorem akY(h:p:=by
 obtain ⟨i,hi,rfl⟩:=eu he
 exact (ji h0 hi).EK):p:=h
theorem akx(h:p:=by
 rw [mJ (by rw [fM];exact hk),fC,mP hk];rfl):p:=h
theorem aaG(h:p:=by
 obtain ⟨i,hi,rfl⟩:=eu he
 exact hO.n4 i hi):p:=h
theorem aj7(h:p:=by
 obtain rfl:k=l.length:=by omega
 rw [jH]
 refine jW ?_
 refine W.tr (Tr.freeze 0 rfl) ?_
 exact W.ret vS):p:=h
theorem ajY(h:p:=by
 rw [mJ (by rw [DX];exact hk),fC]
 congr 1
 simp only [IB,jh]
 rfl):p:=h
theorem aru(h:p:=by
 obtain ⟨i,hi,rfl⟩:=eu he
 have hi':i < p.evs.length:=by rw [fM] at hi;exact hi
 rw [mP hi']
 exact jV (xM _ _) (hO.n4 i hi')):p:=h
theorem aq4(h:p:=by
 rw [hp] at hS hrow
 refine jW ?_
 refine WL.vl rfl (bZ Tryz.func34 hS) ?_
 refine jW ?_
 exact ⟨k+1,by omega,by omega,(kL (fun q=>bif Nat.beq q 0 then 3 else q) aaz rfl)⟩):p:=h
theorem aq0(h:p:=by
 have n1:R1=_:=(nI R1).symm.trans n1
 refine ajT ?_
 refine ⟨k+1,by omega,by omega,?_⟩
 exact (kL (fun q=>bif Nat.beq q 5 then 12 else bif Nat.beq q 6 then 10 else q) aqh rfl)):p:=h
theorem aqY(h:p:=by
 obtain rfl:j=NW[n].stops.length:=by omega
 have hcl:((vP H0 NW n 0).map bM).set n ((bM NW[n]).set 5 (.ow 69 5 ((NI H0 n NW[n].stops.length NW[n].stops).map aC)))=(vP H0 NW (n+1) 0).map bM:=by
  have:=adF hlt2 (NI H0 n NW[n].stops.length NW[n].stops)
  rw [JH] at this
  rw [this,agt hlt]
 refine jB ?_
 refine ⟨n+1,by omega,by omega,?_⟩
 refine Tr.trans (Tr.close_ 5 rfl rfl rfl hat Dc hcl) ?_
 exact (zqt id)):p:=h
theorem aqO(h:p:=by
 refine aw7 ?_
 refine Df ?_
 refine QA ?_
 refine Df ?_
 refine Df ?_
 refine aZ.bd rfl rfl rfl ⟨rfl,trivial⟩ (fun _=>⟨rfl,rfl,trivial⟩) ?_
 refine aZ.ap rfl rfl (by show R1.length+1≤1000000000;omega) ⟨rfl,trivial⟩ (fun _=>⟨rfl,rfl,trivial⟩) ?_
 refine QA ?_
 refine TJ ?_
 refine aZ.yT rfl rfl rfl rfl rfl rfl rfl rfl rfl rfl rfl rfl rfl rfl ⟨rfl,trivial⟩ (fun h=>by cases h) ?_
 refine aZ.nil ?_
 refine uU ?_
 refine ⟨k+1,by omega,by omega,?_⟩
 exact (kL (fun q=>bif Nat.beq q 4 then 12 else bif Nat.beq q 5 then 14 else bif Nat.beq q 6 then 10 else q) aqh rfl)):p:=h
theorem axg(h:p:=by
 rw [hR1] at hr1 l1 ⊢
 rw [hR2] at hr2 l2 ⊢
 clear hR1 hR2 hone hrow1 hrow2 hLo
 obtain ⟨b,hb⟩:∃ b,decide (k=0)=b:=⟨_,rfl⟩
 rw [hb] at ho
 have hbk:(b=true∧(k:Int)=0)∨(b=false∧(k:Int)≠0):=by
  cases b with
  | true=>exact .inl ⟨rfl,by have:=iY hb;omega⟩
  | false=>exact .inr ⟨rfl,by have:=Ew hb;omega⟩
 clear hb
 rcases hbk with ⟨rfl,hk0⟩|⟨rfl,hk0⟩
 all_goals
  refine jB ?_
  refine WL.qo (dL _) [6] rfl rfl (ak Tryz.func185 rfl rfl) ho rfl rfl rfl ⟨⟨rfl,rfl,rfl⟩,trivial⟩ rfl rfl rfl rfl ?_
  refine jB ?_
  refine WL.bdO 5 rfl rfl rfl rfl ?_
  refine WL.tr (Tr.close_ 12 (m:=7) rfl rfl rfl rfl Dc rfl) ?_
  dsimp only [St.upd,St.drop,rem,cond,Nat.beq]
  refine WL.apM rfl rfl rfl rfl (by show R2.length+1≤1000000000;omega) ?_
  refine jB ?_
  refine ⟨k+1,by omega,by omega,?_⟩
  exact (kL (fun q=>bif Nat.beq q 4 then 11 else bif Nat.beq q 5 then 13 else q) (by repeat (first|exact trivial|refine ⟨⟨?_,?_,?_⟩,?_⟩|rfl|exact congrArg (fun q=>some (AO.row _ _ q)) hr1|exact congrArg (fun q=>some (AO.jM _ _ q)) hr1|exact congrArg (fun q=>some (AO.row _ _ q)) hr2|exact congrArg (fun q=>some (AO.jM _ _ q)) hr2)) rfl)):p:=h
theorem axb(h:p:=by
 have hLen:∀ K:List Stp,(((vP H0 NW n 0).map bM).map fun r=>r.map (AV.fz 1)).set n (((bM NW[n]).map (AV.fz 1)).set 5 (.ls 5 (K.map aC)))=(Q7 (vP H0 NW n 0) n K).map dI:=fun K=>by
  have:=agu hlt2 K
  rw [JH] at this
  exact this
 obtain ⟨K,hK⟩:∃ z,NI H0 n j NW[n].stops=z:=⟨_,rfl⟩
 rw [hK] at hjl hKj hput hkl hkc ⊢
 clear hK
 obtain ⟨X,hX⟩:∃ z,NW[n].stops[j]=z:=⟨_,rfl⟩
 rw [hX] at hKj hput ang
 clear hX
 have hbd:0≤(ah NW n X.1:Int)∧(ah NW n X.1:Int)≤15:=⟨Gf _,by have:=uK NW n X.1;omega⟩
 by_cases hf0:X.2.1=0
 ·have hrow0:=Em hKj
  have hjK:j < K.length:=by omega
  refine jB ?_
  refine WL.ldQ rfl rfl rfl rfl hat Dc ?_
  refine acV ?_
  refine WL.ldr rfl rfl hrow0 rfl rfl ?_
  refine acV ?_
  refine WL.yT rfl rfl rfl rfl hrow0 XG ?_
  dsimp only [AV.cells]
  rw [fO,show (K.map aC).set j (jQ 4 [.sc (.int .i64 0)] (aC X))=(K.set j (qF X 0)).map aC from Ej X 0]
  have hrow:((K.set j (qF X 0)).map aC)[j]?=some (aC (qF X 0)):=Em (rM hjK)
  have hLC:=agP (K.set j (qF X 0)) (by rw [wV];exact hkl) (by rw [aoK hKj 0];exact hkc) (qF X 0).1
  have hmin:(if (ah NW n (qF X 0).1:Int) < (0:Int) then (ah NW n (qF X 0).1:Int) else 0)=0:=if_neg (by show ¬ (ah NW n X.1:Int) < 0;omega)
  have hfin:((K.set j (qF X 0)).map aC).set j (jQ 4 [.sc (.int .i64 0)] (aC (qF X 0)))=(NI H0 n (j+1) NW[n].stops).map aC:=by
   rw [Ej (qF X 0) 0,List.set_set,← hput,ang,if_pos hf0];rfl
  obtain ⟨K1,hK1⟩:∃ z,K.set j (qF X 0)=z:=⟨_,rfl⟩
  rw [hK1] at hrow hLC hfin ⊢
  refine aqH ?_
  refine aZ.vl rfl bD (WV.abJ (dL _) rfl (ak Tryz.func95 rfl rfl) rfl (.cons (gY.ag (.cons (gY.pu rfl) (.cons (gY.pu rfl) (.cons (gY.oW 1 rfl (gY.row rfl) (ni _) hat Dc (hLen _)) .nil)))) (.cons (gY.pu rfl) (.cons (gY.pu rfl) .nil))) H7 hLC.g) ?_
  refine aqE ?_
  refine aZ.yT rfl rfl rfl rfl rfl rfl rfl rfl rfl rfl rfl rfl (Jd hrow XG rfl) rfl ⟨rfl,trivial⟩ (fun h=>by cases h) ?_
  refine aZ.nil ?_
  refine jB ?_
  refine ⟨j+1,by omega,by omega,?_⟩
  exact (kL (fun q=>q) aqj rfl)
 ·have hrow:=Em hKj
  have hLC:=agP K hkl hkc X.1
  have hmin:(if (ah NW n X.1:Int) < X.2.2.2.2 then (ah NW n X.1:Int) else X.2.2.2.2)=min X.2.2.2.2 (ah NW n X.1:Int):=by
   rw [Int.min_def];split<;>split<;>omega
  have hfin:(K.map aC).set j (jQ 4 [.sc (.int .i64 (min X.2.2.2.2 (ah NW n X.1:Int)))] (aC X))=(NI H0 n (j+1) NW[n].stops).map aC:=by
   rw [Ej X,← hput,ang,if_neg hf0]
  refine jB ?_
  refine WL.ldQ rfl rfl rfl rfl hat Dc ?_
  refine acV ?_
  refine WL.ldr rfl rfl hrow rfl rfl ?_
  refine aqH ?_
  refine aZ.vl rfl bD (WV.abJ (dL _) rfl (ak Tryz.func95 rfl rfl) rfl (.cons (gY.ag (.cons (gY.pu rfl) (.cons (gY.pu rfl) (.cons (gY.oW 1 rfl (gY.row rfl) (ni _) hat Dc (hLen _)) .nil)))) (.cons (gY.pu rfl) (.cons (gY.pu rfl) .nil))) H7 hLC.g) ?_
  refine aqE ?_
  refine aZ.yT rfl rfl rfl rfl rfl rfl rfl rfl rfl rfl rfl rfl (Jd hrow XG rfl) rfl ⟨rfl,trivial⟩ (fun h=>by cases h) ?_
  refine aZ.nil ?_
  refine jB ?_
  refine ⟨j+1,by omega,by omega,?_⟩
  exact (kL (fun q=>q) aqj rfl)):p:=h
end
theorem ajT {p q:Prop}(k:q)(h:aP q→p:=by
 intro hq
 refine aw5 ?_
 refine azu ?_
 refine azv ?_
 exact hq.k):p:=h ⟨k⟩
theorem Iq {p q:Prop}(k:q)(h:aP q→p:=by
 intro hq
 refine ajK ?_
 refine aw1 ?_
 exact hq.k):p:=h ⟨k⟩
theorem aqH {p q:Prop}(k:q)(h:aP q→p:=by
 intro hq
 refine acV ?_
 refine W.rD bD ?_
 refine azt ?_
 exact hq.k):p:=h ⟨k⟩
theorem aqE {p q:Prop}(k:q)(h:aP q→p:=by
 intro hq
 refine aZ.vl rfl bD (as3 rfl hmin) ?_
 refine QA ?_
 refine TJ ?_
 exact hq.k):p:=h ⟨k⟩
theorem ac4 {p q:Prop}(k:q)(h:aP q→p:=by
 intro hq
 refine gB ?_
 refine aw9 ?_
 refine xk ?_
 refine aqc ?_
 refine iF ?_
 refine ajK ?_
 exact hq.k):p:=h ⟨k⟩
theorem aqA {p q:Prop}(k:q)(h:aP q→p:=by
 intro hq
 refine W.tr (Tr.freeze 4 rfl) ?_
 refine W.rD bD ?_
 refine WA.ds [false,false,false,false,true,false] [3] bD bD ⟨rfl,trivial⟩ ?_
 exact hq.k):p:=h ⟨k⟩
theorem aqz {p q:Prop}(k:q)(h:aP q→p:=by
 intro hq
 refine jB ?_
 refine WL.tr (Tr.open_ 5 n 5 rfl hat rfl (Dw _) rfl) ?_
 dsimp only [St.upd,St.new,Nat.reduceAdd]
 refine jB ?_
 exact hq.k):p:=h ⟨k⟩
theorem aqy {p q:Prop}(k:q)(h:aP q→p:=by
 intro hq
 refine W.tr (Tr.yM 2 1 8 rfl rfl rfl) ?_
 refine W.tr (Tr.yM 2 2 1 rfl rfl rfl) ?_
 refine W.tr (Tr.og (k:=0) (j:=5) 69 5 rfl rfl rfl rfl) ?_
 exact hq.k):p:=h ⟨k⟩
theorem aw9 {p q:Prop}(k:q)(h:aP q→p:=by
 intro hq
 refine aqc ?_
 refine W.tr (Tr.nil (t:=4) 3 1 rfl rfl) ?_
 exact hq.k):p:=h ⟨k⟩
theorem aqx {p q:Prop}(k:q)(h:aP q→p:=by
 intro hq
 refine XC ?_
 refine W.tr (Tr.nil (t:=7) 276 3 rfl rfl) ?_
 refine W.tr (Tr.og (k:=3) (j:=2) 90 6 rfl rfl rfl rfl) ?_
 refine W.tr (Tr.widen 5 rfl) ?_
 exact hq.k):p:=h ⟨k⟩
theorem aw7 {p q:Prop}(k:q)(h:aP q→p:=by
 intro hq
 refine uU ?_
 refine W.rD bD ?_
 refine WA.dt [false,false,false,false,false,false,false,true,true,false,false,true] [8] [8,0] 11 bD bD bD ⟨rfl,trivial⟩ ⟨rfl,rfl,trivial⟩ ?_
 exact hq.k):p:=h ⟨k⟩
theorem aqu {p q:Prop}(k:q)(h:aP q→p:=by
 intro hq
 refine uU ?_
 refine W.tr (Tr.og (k:=0) (j:=5) 69 5 rfl rfl rfl rfl) ?_
 refine W.tr (Tr.og (k:=3) (j:=1) 332 8 rfl rfl rfl rfl) ?_
 refine W.tr (Tr.og (k:=3) (j:=2) 4 1 rfl rfl rfl rfl) ?_
 exact hq.k):p:=h ⟨k⟩
theorem ac3 {p q:Prop}(k:q)(h:aP q→p:=by
 intro hq
 refine uU ?_
 refine W.tr (Tr.freeze 5 rfl) ?_
 refine W.tr (Tr.freeze 6 rfl) ?_
 exact hq.k):p:=h ⟨k⟩
theorem aw5 {p q:Prop}(k:q)(h:aP q→p:=by
 intro hq
 refine uU ?_
 refine WL.idx rfl rfl au hKk ?_
 refine uU ?_
 refine W.rD bD ?_
 exact hq.k):p:=h ⟨k⟩
theorem ajI {p q:Prop}(k:q)(h:aP q→p:=by
 intro hq
 refine mO.yT rfl rfl rfl rfl rfl rfl rfl rfl rfl rfl rfl rfl rfl rfl ⟨rfl,trivial⟩ ?_
 exact hq.k):p:=h ⟨k⟩
theorem ajU {p q:Prop}(k:q)(h:aP q→p:=by
 intro hq
 refine mO.st rfl rfl ?_
 refine mO.st rfl rfl ?_
 exact hq.k):p:=h ⟨k⟩
theorem azv {p q:Prop}(k:q)(h:aP q→p:=by
 intro hq
 refine mO.st rfl rfl ?_
 refine mO.st rfl rfl ?_
 refine mO.al rfl rfl rfl rfl ⟨rfl,trivial⟩ ?_
 refine mO.yT rfl rfl rfl rfl rfl rfl rfl rfl rfl rfl rfl rfl rfl rfl ⟨rfl,trivial⟩ ?_
 refine mO.nil ?_
 refine W.tr (Tr.yM 8 7 1 rfl rfl rfl) ?_
 dsimp only [St.upd]
 refine uU ?_
 exact hq.k):p:=h ⟨k⟩
theorem azu {p q:Prop}(k:q)(h:aP q→p:=by
 intro hq
 refine WA.ds [false,false,false,false,false,false,false,false,false,false,false,false,false,true,true] [7] bD bD ⟨rfl,trivial⟩ ?_
 refine mO.st rfl rfl ?_
 refine mO.st rfl rfl ?_
 refine mO.st rfl rfl ?_
 refine mO.st rfl rfl ?_
 refine mO.idx rfl rfl au hSk ?_
 refine mO.st rfl rfl ?_
 refine mO.st rfl rfl ?_
 refine mO.st rfl rfl ?_
 refine mO.st rfl rfl ?_
 refine mO.idx rfl rfl au hSk ?_
 refine mO.st rfl rfl ?_
 exact hq.k):p:=h ⟨k⟩
theorem azt {p q:Prop}(k:q)(h:aP q→p:=by
 intro hq
 refine WA.dt [false,false,false,false,false,false,false,false,false,false,false,false,false,false,false,true] [3] [3,5,6] 15 bD bD bD ⟨rfl,trivial⟩ ⟨rfl,rfl,rfl,trivial⟩ ?_
 refine aZ.st rfl bD rfl ?_
 refine aZ.st rfl bD rfl ?_
 refine aZ.vl rfl bD (WV.X4 rfl rfl) ?_
 refine aZ.st rfl bD rfl ?_
 refine aZ.ldr rfl bD rfl hrow rfl rfl ?_
 refine aZ.st rfl bD rfl ?_
 refine aZ.st rfl bD rfl ?_
 refine aZ.st rfl bD rfl ?_
 refine aZ.vl rfl bD (WV.X4 rfl rfl) ?_
 refine aZ.st rfl bD rfl ?_
 refine aZ.ldr rfl bD rfl hrow rfl rfl ?_
 exact hq.k):p:=h ⟨k⟩
section
open Go.RowKit
theorem ao1 (s:Int)(hs:1≤s∧s≤4)(x:Stp)(L:Int)(hc:1≤x.1∧x.1≤14)(hf:0≤x.2.1∧x.2.1≤18)(hr:0≤x.2.2.1∧x.2.2.1≤3)(hg:0≤x.2.2.2.1∧x.2.2.2.1≤4)(hh:0≤x.2.2.2.2∧x.2.2.2.2≤15) :
  aU Tryz.prog 87 [.sc (bG s),.ag (aC x),.sc (.int .i64 L)] (.tu [.sc (.string (bs (cellS s x.1 x.2.1 x.2.2.1 x.2.2.2.1 x.2.2.2.2 L))),.sc (.bool (dK s x.1 x.2.1 x.2.2.1 x.2.2.2.1 x.2.2.2.2 L))]):=by
 exact aa9 s hs x L hc hf hr hg hh
theorem Xo (p:aS) (hO:jm p) (i x:Int):aU Tryz.prog 95 [bK p,.sc (.int .i64 i),.sc (.int .i64 x)] (.sc (.int .i64 (ah p.evs i x))) :=
 aU.PG (pre:=[]) (post:=[.sc (.int .i64 i),.sc (.int .i64 x)]) rfl rfl (fun _=>.sc _) fun w M hM=>rY M p i x w hM hO
theorem PU (s c f:Int) (hs:1≤s∧s≤4) (hc:1≤c∧c≤14) (hf:0≤f∧f≤18):aU Tryz.prog 84 [.sc (.int .u8 s),.sc (.int .i64 c),.sc (.int .i64 f)] (.tu [.sc (bG s),.sc (.int .i64 0)]):=by
 have hO:=G9 s
 rw [dG hs] at hO
 refine jl Tryz.func84 Tryz.ntmps84 fun w0 F0=>?_;dsimp only [St.init,number,Nat.reduceAdd]
 refine awY ?_
 refine WL.vl rfl (bZ Tryz.func50 hO) ?_
 refine awZ ?_
 exact kC
theorem ao6 (s c f:Int) (hs:1≤s∧s≤4) (hc:1≤c∧c≤14) (hf:0≤f∧f≤18):aU Tryz.prog 34 [.sc (.int .u8 s),.ag [.sc (.int .i64 c),.sc (.int .i64 f)]]
  (.tu [.sc (.string (bs (if qU s c f=true then pS s c f else []))),.sc (.int .i64 (if qU s c f=true then 0 else 31))]):=by
 have hP:=PU s c f hs hc hf
 have hS:=Jf s hs c f hc hf
 cases hp:qU s c f with
 | true =>
  rw [hp] at hS
  rw [if_pos rfl,if_pos rfl]
  exact alq
 | false =>
  rw [hp] at hS
  rw [if_neg (by simp),if_neg (by simp)]
  exact alq
theorem Xn (s:Int) (hs:1≤s∧s≤4) (c f r g:Int) (hc:1≤c∧c≤14) (hf:0≤f∧f≤18) (hr:0≤r∧r≤3) (hg:0≤g∧g≤4) :
  aU Tryz.prog 36 [.sc (.int .u8 s),.ag [.sc (.int .i64 c),.sc (.int .i64 f),.sc (.int .i64 r),.sc (.int .i64 g),.sc (.int .i64 0)],.sc (.int .i64 0)]
  (.tu [.sc (.string (bs (if dK s c f r g 0 0=true then cellS s c f r g 0 0 else []))),.sc (.int .i64 (if dK s c f r g 0 0=true then 0 else 31))]):=by
 have hP:=PU s c f hs hc hf
 have hS:aU Tryz.prog 87 [.sc (bG s),.ag [.sc (.int .i64 c),.sc (.int .i64 f),.sc (.int .i64 r),.sc (.int .i64 g),.sc (.int .i64 0)],.sc (.int .i64 0)] (.tu [.sc (.string (bs (cellS s c f r g 0 0))),.sc (.bool (dK s c f r g 0 0))]):=ao1 s hs (c,f,r,g,0) 0 hc hf hr hg ⟨by show (0:Int)≤0;decide,by show (0:Int)≤15;decide⟩
 cases hp:dK s c f r g 0 0 with
 | true =>
  rw [hp] at hS
  rw [if_pos rfl,if_pos rfl]
  exact alv
 | false =>
  rw [hp] at hS
  rw [if_neg (by simp),if_neg (by simp)]
  exact alv
def FQ(t:Bool):aS:=⟨[(60,1,false)],[1],[⟨false,1,false,false,false,[(1,0,0,0,0)]⟩,⟨false,1,false,false,t,[]⟩]⟩
theorem aoI (t:Bool):jm (FQ t):=⟨by show 1≤64;omega,by show 1≤64;omega,by show 2≤420;omega,fun k hk=>by
 match k,hk with
 | 0,_=>show 1≤20;omega
 | 1,_=>show 0≤20;omega⟩
theorem awH {s:Int} (hs:1≤s∧s≤4):qR s (FQ true)=0∧BU (iT s (FQ true)) 7=!aO s 7∧(iT s (FQ true)).length≤100:=by
 rcases bQ hs with rfl|rfl|rfl|rfl<;>decide +kernel
theorem awG {s:Int} (hs:1≤s∧s≤4):qR s (FQ false)=0∧BU (iT s (FQ false)) 8=!aO s 8∧(iT s (FQ false)).length≤100:=by
 rcases bQ hs with rfl|rfl|rfl|rfl<;>decide +kernel
theorem acC (s:Int) (t:Bool) (w:Int) (b:Bool) (h0:qR s (FQ t)=0) (hb:BU (iT s (FQ t)) w=!b) (hl:(iT s (FQ t)).length≤100) :
  aU Tryz.prog 118 [.sc (.int .u8 s),.ag [.sc (.bool false),.sc (.int .i64 1),.sc (.bool false),.sc (.bool false),.sc (.bool t),.ls 5 []],.sc (.int .i64 w)] (.sc (.bool b)):=by
 have hL:=Fp s (FQ t) (aoI t)
 have hH:=acM (iT s (FQ t)) w au
 rw [h0] at hL
 rw [hb] at hH
 obtain ⟨L,hLe⟩:∃ z,iT s (FQ t)=z:=⟨_,rfl⟩
 rw [hLe] at hL hH
 have e:!(!b)=b:=by cases b<;>rfl
 refine jl Tryz.func118 Tryz.ntmps118 fun w0 F0=>?_;dsimp only [St.init,number,Nat.reduceAdd]
 refine Xu ?_
 refine WL.tr (Tr.freeze 1 rfl) ?_
 refine WL.tr (Tr.freeze 2 rfl) ?_
 refine Xu ?_
 refine WL.tr (Tr.freeze 4 rfl) ?_
 refine Xu ?_
 refine WL.tr (Tr.freeze 6 rfl) ?_
 refine WL.vl rfl (bZ Tryz.func59 hL) ?_
 refine Xu ?_
 refine WL.vl rfl (bZ Tryz.func115 hH) ?_
 refine Xu ?_
 refine W.ret (fin1 rfl rfl (Ap ?_) rfl)
 cases b<;>rfl
theorem aol (s:Int) (hs:1≤s∧s≤4) (l:List Stp) (hl:l.length≤20) (hb:∀ k (h:k < l.length),(1≤l[k].1∧l[k].1≤14)∧(0≤l[k].2.1∧l[k].2.1≤18)) :
  aU Tryz.prog 119 [.ls 5 (l.map aC),.pr [.sc (.int .u8 s)]] (.ls 6 ((l.map (aB s).ch).map Iw)):=by
 refine jl Tryz.func119 Tryz.ntmps119 fun w0 F0=>?_;dsimp only [St.init,number,Nat.reduceAdd]
 refine zS ?_
 refine W.tr (Tr.nil (t:=4) 206 6 rfl rfl) ?_
 refine xk ?_
 refine zS ?_
 refine W.loop (fun k:Nat=>k≤l.length) (fun k=>⟨[(1,.pr [.sc (.int .u8 s)]),(4,.sl 0),(9,.ls 5 (l.map aC)),(10,.sc (.int .i64 l.length)),(11,.sc (.int .i64 k))],[(0,.row 206 6 (((l.take k).map (aB s).ch).map Iw))],1⟩) (fun k=>l.length - k) 0 au (zqt id) fun k hk=>?_
 by_cases hlt:k < l.length
 ·obtain ⟨hc,hf⟩:=hb k hlt
  have hS:=ao6 s l[k].1 l[k].2.1 hs hc hf
  have hrow:((l.take k).map (aB s).ch).map Iw++[Iw (l[k],!qU s l[k].1 l[k].2.1)]=((l.take (k+1)).map (aB s).ch).map Iw:=by
   exact QH
  have hRl:(((l.take k).map (aB s).ch).map Iw).length=k:=by rw [aH,aH,fP];omega
  obtain ⟨R,hR⟩:∃ z,((l.take k).map (aB s).ch).map Iw=z:=⟨_,rfl⟩
  rw [hR] at hrow hRl ⊢
  cases hp:qU s l[k].1 l[k].2.1 with
  | true =>
   exact aq4
  | false =>
   exact aq4
 ·exact aj7
theorem aom (b1:Bool)(v:Int)(d3 t3 t ties rests:Bool)(A:AV)(n:Nat)(rows:List (List AV))(hA:A=.ls n rows∨A=.sc (.slice none 0 0)) :
  jI jE 0 Tryz.prog 120 [.pt 0 0 0,.pr [.sc (.bool ties)],.pr [.sc (.bool rests)]] [(0,.box 90 [.sc (.bool b1),.sc (.int .i64 v),.sc (.bool d3),.sc (.bool t3),.sc (.bool t),A])] 1
   (.sc (.int .i64 (if t=true∧ties=false then 7 else if t=false∧rests=false then 8 else 0)))
   [(0,.box 90 [.sc (.bool b1),.sc (.int .i64 v),.sc (.bool d3),.sc (.bool t3),.sc (.bool (if t=true∧ties=false then false else if t=false∧rests=false then true else t)),A])] 1:=by
 rcases hA with rfl|rfl
 all_goals
  cases t<;>cases ties<;>cases rests
  all_goals
   refine jI.intro kV Tryz.func120 rfl Tryz.ntmps120 (bU rfl) rfl fun w0 F0 fp pg hB=>?_
   refine gB ?_
   repeat (first|(refine WL.vl rfl (WV.X4 rfl rfl) ?_)|(refine W.go rfl ?_)|(refine WL.ev rfl ?_)|(refine WL.EY rfl rfl rfl rfl ?_)|(refine WL.ah5 rfl rfl rfl rfl rfl rfl rfl ?_)|(refine W.Du rfl ?_)|(refine W.qY rfl ?_))
   exact W.ret (Au rfl rfl rfl rfl rfl)
theorem okZ(s:Int):okR s 0=true∧sZ s 0=true∧qN s 0 0=true:=⟨rfl,rfl,rfl⟩
theorem agb {s c f r:Int} (hp:qU s c f=true):dK s c f r 0 0 0=okR s r:=by
 unfold dK
 rw [hp,(okZ s).2.1,(okZ s).2.2];simp
theorem aga {s c f g:Int} (hp:qU s c f=true):dK s c f 0 g 0 0=sZ s g:=by
 unfold dK
 rw [hp,(okZ s).1,(okZ s).2.2];simp
theorem aon (s:Int) (hs:1≤s∧s≤4) (y:Stp) (c h:Int) (hc:1≤y.1∧y.1≤14) (hf:0≤y.2.1∧y.2.1≤18) (hr:0≤y.2.2.1∧y.2.2.1≤3) (hg:0≤y.2.2.2.1∧y.2.2.2.1≤4) (hp:qU s y.1 y.2.1=true) :
  jI jE 0 Tryz.prog 121 [.pt 0 0 0,.pr [.sc (.int .u8 s)]] [(0,.box 332 (eRs y c h []))] 1 (.ls 1 (((aB s).ml y).map eInt)) [(0,.box 332 (eRs ((aB s).mr y) c h []))] 1:=by
 have h1:=Xn s hs y.1 y.2.1 y.2.2.1 0 hc hf hr ⟨by decide,by decide⟩
 have h2:=Xn s hs y.1 y.2.1 0 y.2.2.2.1 hc hf ⟨by decide,by decide⟩ hg
 rw [agb hp] at h1
 rw [aga hp] at h2
 have e1:(aB s).mr y=(y.1,y.2.1,if okR s y.2.2.1=true then y.2.2.1 else 0,if sZ s y.2.2.2.1=true then y.2.2.2.1 else 0,y.2.2.2.2):=rfl
 have e2:(aB s).ml y=(if okR s y.2.2.1=true then [] else [2])++(if sZ s y.2.2.2.1=true then [] else [3]):=rfl
 rw [e1,e2]
 cases b1:okR s y.2.2.1<;>cases b2:sZ s y.2.2.2.1
 ·rw [b1] at h1
  rw [b2] at h2
  refine jI.intro kV Tryz.func121 rfl Tryz.ntmps121 (bU rfl) rfl fun w0 F0 fp pg hB=>?_
  refine ac4 ?_
  refine DK.vl rfl (bZ Tryz.func36 h1) ?_
  refine Iq ?_
  refine QD ?_
  refine DK.vl rfl (bZ Tryz.func36 h2) ?_
  refine Iq ?_
  refine W.tr (Tr.freeze 5 rfl) ?_
  refine W.tr (σ':=⟨[(3,.ls 1 [[.sc (.int .i64 2)],[.sc (.int .i64 3)]])],[(0,.box 332 [.sc (.int .i64 y.1),.sc (.int .i64 y.2.1),.sc (.int .i64 0),.sc (.int .i64 0),.sc (.int .i64 y.2.2.2.2),.sc (.int .i64 c),.sc (.int .i64 h),.ls 1 []])],1⟩) (zqt id) ?_
  exact jX
 ·rw [b1] at h1
  rw [b2] at h2
  refine jI.intro kV Tryz.func121 rfl Tryz.ntmps121 (bU rfl) rfl fun w0 F0 fp pg hB=>?_
  refine ac4 ?_
  refine DK.vl rfl (bZ Tryz.func36 h1) ?_
  refine Iq ?_
  refine QD ?_
  refine DK.vl rfl (bZ Tryz.func36 h2) ?_
  refine Iq ?_
  refine W.tr (Tr.freeze 3 rfl) ?_
  refine W.tr (σ':=⟨[(3,.ls 1 [[.sc (.int .i64 2)]])],[(0,.box 332 [.sc (.int .i64 y.1),.sc (.int .i64 y.2.1),.sc (.int .i64 0),.sc (.int .i64 y.2.2.2.1),.sc (.int .i64 y.2.2.2.2),.sc (.int .i64 c),.sc (.int .i64 h),.ls 1 []])],1⟩) (zqt id) ?_
  exact jX
 ·rw [b1] at h1
  rw [b2] at h2
  refine jI.intro kV Tryz.func121 rfl Tryz.ntmps121 (bU rfl) rfl fun w0 F0 fp pg hB=>?_
  refine ac4 ?_
  refine DK.vl rfl (bZ Tryz.func36 h1) ?_
  refine Iq ?_
  refine QD ?_
  refine DK.vl rfl (bZ Tryz.func36 h2) ?_
  refine Iq ?_
  refine W.tr (Tr.freeze 3 rfl) ?_
  refine W.tr (σ':=⟨[(3,.ls 1 [[.sc (.int .i64 3)]])],[(0,.box 332 [.sc (.int .i64 y.1),.sc (.int .i64 y.2.1),.sc (.int .i64 y.2.2.1),.sc (.int .i64 0),.sc (.int .i64 y.2.2.2.2),.sc (.int .i64 c),.sc (.int .i64 h),.ls 1 []])],1⟩) (zqt id) ?_
  exact jX
 ·rw [b1] at h1
  rw [b2] at h2
  refine jI.intro kV Tryz.func121 rfl Tryz.ntmps121 (bU rfl) rfl fun w0 F0 fp pg hB=>?_
  refine ac4 ?_
  refine DK.vl rfl (bZ Tryz.func36 h1) ?_
  refine Iq ?_
  refine QD ?_
  refine DK.vl rfl (bZ Tryz.func36 h2) ?_
  refine Iq ?_
  refine W.tr (Tr.freeze 1 rfl) ?_
  refine W.tr (σ':=⟨[(3,.ls 1 [])],[(0,.box 332 [.sc (.int .i64 y.1),.sc (.int .i64 y.2.1),.sc (.int .i64 y.2.2.1),.sc (.int .i64 y.2.2.2.1),.sc (.int .i64 y.2.2.2.2),.sc (.int .i64 c),.sc (.int .i64 h),.ls 1 []])],1⟩) (zqt id) ?_
  exact jX
end
end Go.Proofs.YthehkchjdkdbiaaGreatDoor
