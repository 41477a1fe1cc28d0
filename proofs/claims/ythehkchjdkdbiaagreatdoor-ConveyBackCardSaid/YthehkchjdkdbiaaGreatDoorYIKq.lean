/- Reduce of the program. -/
import Derived.Test.YthehkchjdkdbiaaGreatDoorYWKq
import Derived.Test.YthehkchjdkdbiaaGreatDoorYGKq
set_option maxHeartbeats 8000000
set_option maxRecDepth 100000
set_option linter.unusedVariables false
set_option linter.unusedSimpArgs false
namespace Go.Proofs.YthehkchjdkdbiaaGreatDoor
open Go.RowKit
def awO(s:Int):List UInt8:=if s=1 then [102,114,101,110,99,104]else if s=2 then [105,116,97,108,105,97,110]else if s=3 then [115,112,97,110,105,115,104]else [103,101,114,109,97,110]
def awN(s:Int):FuncId:=if s=1 then 318 else if s=2 then 333 else if s=3 then 341 else 348
theorem auf (s:Int) (hs:1≤s∧s≤4):aU Tryz.prog (awN s) [.ag []] (.sc (.string (bs (awO s)))):=by
 exact aqR
theorem acP (s:Int):∃ t,aU Tryz.prog 66 [.sc (.int .u8 s)] (.tu [.sc (.string (bs t)),.sc (.int .i64 (if 1≤s∧s≤4 then 0 else 30))]):=by
 have h:=G9 s
 by_cases hs:1≤s∧s≤4
 ·refine ⟨awO s,?_⟩
  rw [if_pos hs]
  rw [dG hs] at h
  have hnm:=auf s hs
  refine jl Tryz.func66 Tryz.ntmps66 fun w0 F0=>?_;dsimp only [St.init,number,Nat.reduceAdd]
  refine Ey ?_
  refine WL.vl rfl (bZ Tryz.func50 h) ?_
  refine ajy ?_
  refine WL.vl rfl (WV.sys hs awN rfl rfl (fun vs w=>by kernel_rfl) (fun vs w=>by kernel_rfl) (fun vs w=>by kernel_rfl) (fun vs w=>by kernel_rfl) rfl rfl hnm) ?_
  refine ajy ?_
  exact qM
 ·refine ⟨[],?_⟩
  rw [if_neg hs]
  rw [cZ hs] at h
  refine jl Tryz.func66 Tryz.ntmps66 fun w0 F0=>?_;dsimp only [St.init,number,Nat.reduceAdd]
  refine Ey ?_
  refine WL.vl rfl (bZ Tryz.func50 h) ?_
  refine ajy ?_
  exact qM
def wK (s:Int) (p:aS):Nat→Stp→Int:=if aV ⟨p.cs,p.st,jo (pF (bC s p)) (bC s p)⟩=0 then zH s (bC s p)else pF (bC s p)
theorem aoq {s:Int} {p:aS} (hs:1≤s∧s≤4) (h0:aV p=0) :
  Jh (iT s ⟨p.cs,p.st,jo (pF (bC s p)) (bC s p)⟩) (jo (pF (bC s p)) (bC s p))=jo (wK s p) (bC s p):=by
 unfold wK
 by_cases h:aV ⟨p.cs,p.st,jo (pF (bC s p)) (bC s p)⟩=0
 ·rw [if_pos h,(pI hs h).1]
  exact (aum (s:=s) (p:=⟨p.cs,p.st,jo (pF (bC s p)) (bC s p)⟩) (abt (aiJ h0)) (am4 aiK)).trans (auh s (bC s p))
 ·rw [if_neg h,(uJ hs h).1,adg]
theorem aop {s:Int} {p:aS} (hs:1≤s∧s≤4)(h0:aV p=0)(hf:¬ (s=3∧Iy (aB s) p.evs=true)):wK s p=zH s (bC s p):=if_pos (aot hs h0 hf)
theorem azk {s:Int} {p:aS} (hs:1≤s∧s≤4):∀ x∈iT s ⟨p.cs,p.st,jo (pF (bC s p)) (bC s p)⟩,x.2.2=4→∃ (i:Nat) (hi:i<(jo (pF (bC s p)) (bC s p)).length) (k:Nat) (hk:k<(jo (pF (bC s p)) (bC s p))[i].stops.length),x.1=i∧(jo (pF (bC s p)) (bC s p))[i].stops[k].1=x.2.1:=by
 intro x hx h4
 by_cases h:aV ⟨p.cs,p.st,jo (pF (bC s p)) (bC s p)⟩=0
 ·rw [(pI hs h).1]at hx
  obtain ⟨a,b,c⟩:=x
  dsimp only at h4
  subst h4
  obtain ⟨i,hi,hi2,e,y,hy,e2,_⟩:=(Aj (s:=s) (p:=⟨p.cs,p.st,jo (pF (bC s p)) (bC s p)⟩) (bJ _)).1 hx
  obtain ⟨k,hk,rfl⟩:=eu hy
  exact ⟨i,hi2,k,hk,e,e2⟩
 ·rw [(uJ hs h).1]at hx
  cases hx
theorem KG (s:Int) (p:aS) (hO:jm p):aU Tryz.prog 64 [.sc (.int .u8 s),bK p] (.tu [bK (dX s p),.ls 3 ((wL s p).map iR),.sc (.int .i64 (jJ s p))]):=by
 have hPe:bK p=.ag [.ls 3 (p.cs.map aF),.ls 1 (p.st.map eInt),.ls 6 (p.evs.map dI)]:=rfl
 have hbad:jJ s p≠0→bK (dX s p)=.ag [.ls 3 [],.ls 1 [],.ls 6 []]∧wL s p=[]:=fun h=>⟨by rw [show dX s p=noP from if_neg h];rfl,if_neg h⟩
 obtain ⟨nm,hN⟩:=acP s
 have hC:=nD p hO
 by_cases hs:1≤s∧s≤4
 rotate_left
 ·have e:jJ s p=30:=if_pos hs
  obtain ⟨e1,e2⟩:=hbad Qz
  rw [e1,e2,e]
  rw [if_neg hs] at hN
  refine jl Tryz.func64 Tryz.ntmps64 fun w0 F0=>?_;dsimp only [St.init,number,Nat.reduceAdd]
  refine nM ?_
  refine WL.vl rfl (bZ Tryz.func66 hN) ?_
  refine nM ?_
  exact Gs
 rw [if_pos hs] at hN
 by_cases h0:aV p=0
 rotate_left
 ·have e:jJ s p=aV p:=by unfold jJ;rw [if_neg (fun h=>h hs),if_pos h0]
  obtain ⟨e1,e2⟩:=hbad (by rw [e];exact h0)
  rw [e1,e2,e]
  obtain ⟨E,hE⟩:∃ z,aV p=z:=⟨_,rfl⟩
  rw [hE] at hC h0 ⊢
  refine jl Tryz.func64 Tryz.ntmps64 fun w0 F0=>?_;dsimp only [St.init,number,Nat.reduceAdd]
  refine nM ?_
  refine WL.vl rfl (bZ Tryz.func66 hN) ?_
  refine nM ?_
  refine WL.vl rfl (bZ Tryz.func51 hC) ?_
  refine yF ?_
  exact Gs
 rw [h0] at hC
 have hL:=Fp s p hO
 have hH:=acM (iT s p) 5 (by have:=Vp s hO;omega)
 rw [(pI hs h0).2] at hL
 rw [ad1 hs h0] at hH
 obtain ⟨LL,U0⟩:∃ z,(iT s p).map iR=z:=⟨_,rfl⟩
 rw [U0] at hL hH
 clear U0
 by_cases h4t:s=4∧vM p.evs=true
 ·have e:jJ s p=31:=by unfold jJ;rw [if_neg (fun h=>h hs),if_neg (fun h=>h h0),if_pos h4t]
  obtain ⟨e1,e2⟩:=hbad Qz
  rw [e1,e2,e]
  rw [dG h4t] at hH
  refine jl Tryz.func64 Tryz.ntmps64 fun w0 F0=>?_;dsimp only [St.init,number,Nat.reduceAdd]
  refine nM ?_
  refine WL.vl rfl (bZ Tryz.func66 hN) ?_
  refine nM ?_
  refine WL.vl rfl (bZ Tryz.func51 hC) ?_
  refine yF ?_
  refine WL.vl rfl (bZ Tryz.func59 hL) ?_
  refine yF ?_
  refine WL.vl rfl (bZ Tryz.func115 hH) ?_
  refine yF ?_
  exact Gs
 rw [cZ h4t] at hH
 have hP:=aeU p hO
 rw [h0] at hP
 have hA:=KA p hO h0
 obtain ⟨w1,w2,w3⟩:=awH hs
 obtain ⟨v1,v2,v3⟩:=awG hs
 have hS1:=acC s true 7 (aO s 7) w1 w2 w3
 have hS2:=acC s false 8 (aO s 8) v1 v2 v3
 have hQ0:=pX (s:=s) h0
 have hCa:=arR s hs (xP s p) (aor hO) hQ0 (wK s p) (aoq (p:=p) hs h0) (azk (p:=p) hs)
 have hqe:bK (xP s p)=.ag [.ls 3 (p.cs.map aF),.ls 1 (p.st.map eInt),.ls 6 ((dn s p).map dI)]:=rfl
 have hre:bK ⟨p.cs,p.st,jo (wK s p) (bC s p)⟩=.ag [.ls 3 (p.cs.map aF),.ls 1 (p.st.map eInt),.ls 6 ((jo (wK s p) (bC s p)).map dI)]:=rfl
 have hCa:aU Tryz.prog 123 [.ag [.ls 3 (p.cs.map aF),.ls 1 (p.st.map eInt),.sc (.bool (!aO s 7)),.fn 120 [.pr [.sc (.bool (aO s 7))],.pr [.sc (.bool (aO s 8))]],.fn 119 [.pr [.sc (.int .u8 s)]],.fn 121 [.pr [.sc (.int .u8 s)]],.fn 122 [.pr [.sc (.int .u8 s)]]],.ag [.ls 3 (p.cs.map aF),.ls 1 (p.st.map eInt),.ls 6 ((dn s p).map dI)]]
   (.tu [.ag [.ls 3 (p.cs.map aF),.ls 1 (p.st.map eInt),.ls 6 ((jo (wK s p) (bC s p)).map dI)],.ls 3 ((NK (aB s) (wK s p) (dn s p) (dn s p).length).map iR)]):=hCa
 have hpl:bK (plP p)=.ag [.ls 3 (p.cs.map aF),.ls 1 (p.st.map eInt),.ls 6 ((Aw p).map dI)]:=by rw [show plP p=⟨p.cs,p.st,Aw p⟩ from if_pos h0];rfl
 rw [hpl] at hP
 rw [hPe] at hA hC hL hP ⊢
 have hq4:s=4→dn s p=Aw p:=fun h=>if_pos h
 have hqn:s≠4→dn s p=p.evs:=fun h=>if_neg h
 have hNl:((jo (wK s p) (bC s p)).map dI).length=p.evs.length:=by rw [aH,dA,show (bC s p).length=(dn s p).length from fM _ _,Ea]
 have avJ:s=3→∀ e r,p.evs=e::r→∃ a b c d f SS,((jo (wK s p) (bC s p)).map dI)[((0:Int)).toNat]?=some [.sc (.bool a),.sc (.int .i64 b),.sc (.bool c),.sc (.bool d),.sc (.bool f),.ls 5 SS]∧SS.length=(l9 (aB s) e.stops).length:=fun h3 e r he=>by
  have hq:dn s p=e::r:=by rw [hqn (by omega),he]
  have hk:0 < (dn s p).length:=by rw [hq];exact Nat.zero_lt_succ _
  have hk2:0 < (bC s p).length:=by unfold bC;rw [fM];exact hk
  have e2:(dn s p)[0]=e:=by
   have:(dn s p)[0]?=some e:=by rw [hq];rfl
   exact alV
  have e3:(bC s p)[0]=yQ (aB s) 0 (dn s p)[0]:=mP hk
  refine ⟨(JB (wK s p) 0 (yQ (aB s) 0 e)).bar,(JB (wK s p) 0 (yQ (aB s) 0 e)).val,(JB (wK s p) 0 (yQ (aB s) 0 e)).dot,(JB (wK s p) 0 (yQ (aB s) 0 e)).three,(JB (wK s p) 0 (yQ (aB s) 0 e)).tie,(JB (wK s p) 0 (yQ (aB s) 0 e)).stops.map aC,?_,?_⟩
  ·rw [show ((0:Int)).toNat=0 from rfl,bT,aI (by rw [dA];exact hk2),nT hk2,e3,e2]
   rfl
  ·show (((l9 (aB s) e.stops).map _).map aC).length=_
   exact aaO
 have hX:jJ s p=if s=3∧Iy (aB s) p.evs=true then 31 else 0:=by
  unfold jJ;rw [if_neg (fun h=>h hs),if_neg (fun h=>h h0),if_neg h4t]
 have hok:¬ (s=3∧Iy (aB s) p.evs=true)→bK (dX s p)=.ag [.ls 3 (p.cs.map aF),.ls 1 (p.st.map eInt),.ls 6 ((jo (wK s p) (bC s p)).map dI)]∧wL s p=NK (aB s) (wK s p) (dn s p) (dn s p).length:=fun h=>by
  have e:jJ s p=0:=hX.trans (if_neg h)
  rw [aop hs h0 h]
  exact ⟨by rw [show dX s p=_ from if_pos e];rfl,if_pos e⟩
 obtain ⟨RL,hRL⟩:∃ z,(NK (aB s) (wK s p) (dn s p) (dn s p).length).map iR=z:=⟨_,rfl⟩
 obtain ⟨RE,hRE⟩:∃ z,(jo (wK s p) (bC s p)).map dI=z:=⟨_,rfl⟩
 rw [hRE] at hCa hNl avJ hok
 rw [hRL] at hCa
 clear hRE hqe hre hpl
 refine jl Tryz.func64 Tryz.ntmps64 fun w0 F0=>?_;dsimp only [St.init,number,Nat.reduceAdd]
 refine nM ?_
 refine WL.vl rfl (bZ Tryz.func66 hN) ?_
 refine nM ?_
 refine WL.vl rfl (bZ Tryz.func51 hC) ?_
 refine yF ?_
 refine WL.vl rfl (bZ Tryz.func59 hL) ?_
 refine yF ?_
 refine WL.vl rfl (bZ Tryz.func115 hH) ?_
 refine yF ?_
 refine WL.vl rfl (bZ Tryz.func116 hP) ?_
 refine nM ?_
 refine W.meet ⟨[(2,.pt 0 0 0),(4,.pt 2 0 0),(12,.pt 3 0 0)],[(0,.box 23 [.sc (.int .u8 s)]),(2,.box 30 [.sc (.slice none 0 0),.sc (.slice none 0 0),.sc (.slice none 0 0)]),(3,.box 30 [.ls 3 (p.cs.map aF),.ls 1 (p.st.map eInt),.ls 6 ((dn s p).map dI)])],4⟩ ?_ ?_
 ·(refine W.cond rfl (fun hif=>?_) (fun hif=>?_)<;>(try simp only [gu,jS,kQ,kR,iy,kS] at hif))
  ·have h4:s≠4:=by simpa using hif
   rw [hqn h4]
   refine nM ?_
   refine WL.tr (Tr.nilA (t:=55) 2 6 rfl rfl rfl rfl) ?_
   refine WL.vl rfl (bZ Tryz.func117 hA) ?_
   refine nM ?_
   exact uX
  ·have h4:s=4:=by simpa using hif
   rw [hq4 h4]
   refine nM ?_
   exact uX
 obtain ⟨QE,hQE⟩:∃ z,(dn s p).map dI=z:=⟨_,rfl⟩
 rw [hQE] at hCa ⊢
 have h38:aO s 8=!decide (s=3):=by
  rcases bQ hs with rfl|rfl|rfl|rfl<;>rfl
 obtain ⟨b7,hb7⟩:∃ z,aO s 7=z:=⟨_,rfl⟩
 obtain ⟨b8,hb8⟩:∃ z,aO s 8=z:=⟨_,rfl⟩
 rw [hb7] at hS1 hCa
 rw [hb8] at hS2 hCa h38
 refine nM ?_
 refine WL.tr (Tr.nilA (t:=62) 5 5 rfl rfl rfl rfl) ?_
 refine WL.vl rfl (bZ Tryz.func118 hS1) ?_
 refine nM ?_
 refine WL.tr (Tr.nilA (t:=66) 5 5 rfl rfl rfl rfl) ?_
 refine WL.vl rfl (bZ Tryz.func118 hS2) ?_
 refine nM ?_
 refine WL.tr (σ':=⟨[(17,.pt 7 0 0),(16,.pt 6 0 0),(15,.pt 5 0 0),(2,.pt 0 0 0),(4,.pt 2 0 0),(12,.pt 3 0 0)],[(7,.box 203 [.ls 3 (p.cs.map aF),.ls 1 (p.st.map eInt),.sc (.bool false),.sc .nilFunc,.sc .nilFunc,.sc .nilFunc,.sc .nilFunc]),(6,.box 4 [.sc (.bool b8)]),(5,.box 4 [.sc (.bool b7)]),(0,.box 23 [.sc (.int .u8 s)]),(2,.box 30 [.sc (.slice none 0 0),.sc (.slice none 0 0),.sc (.slice none 0 0)]),(3,.box 30 [.ls 3 (p.cs.map aF),.ls 1 (p.st.map eInt),.ls 6 QE])],8⟩) (zqt id) ?_
 refine WL.tr (Tr.nU 0 rfl rfl) ?_
 refine WL.tr (Tr.nU 5 rfl rfl) ?_
 refine WL.tr (Tr.nU 6 rfl rfl) ?_
 refine WL.tr (σ':=⟨[(17,.pt 7 0 0),(16,.pr [.sc (.bool b8)]),(15,.pr [.sc (.bool b7)]),(2,.pr [.sc (.int .u8 s)]),(4,.pt 2 0 0),(12,.pt 3 0 0)],[(7,.box 203 [.ls 3 (p.cs.map aF),.ls 1 (p.st.map eInt),.sc (.bool false),.sc .nilFunc,.sc .nilFunc,.sc .nilFunc,.sc .nilFunc]),(2,.box 30 [.sc (.slice none 0 0),.sc (.slice none 0 0),.sc (.slice none 0 0)]),(3,.box 30 [.ls 3 (p.cs.map aF),.ls 1 (p.st.map eInt),.ls 6 QE])],8⟩) (zqt id) ?_
 refine yH ?_
 refine nM ?_
 refine yH ?_
 refine nM ?_
 refine yH ?_
 refine nM ?_
 refine yH ?_
 refine nM ?_
 refine WL.vl rfl (bZ Tryz.func123 hCa) ?_
 by_cases h3:s=3
 rotate_left
 ·obtain ⟨r1,r2⟩:=hok (fun h=>h3 h.1)
  have r3:jJ s p=0:=hX.trans (if_neg (fun h=>h3 h.1))
  rw [r2] at *
  rw [r1,r3,hRL]
  obtain rfl:b8=true:=by rw [h38,cZ h3];rfl
  refine nM ?_
  exact kC
 obtain rfl:b8=false:=by rw [h38,dG h3];rfl
 have hRs:¬ (Iy (aB s) p.evs=true)→jJ s p=0∧bK (dX s p)=.ag [.ls 3 (p.cs.map aF),.ls 1 (p.st.map eInt),.ls 6 RE]∧(wL s p).map iR=RL:=fun h=>by
  obtain ⟨r1,r2⟩:=hok (fun q=>h q.2)
  exact ⟨hX.trans (if_neg (fun q=>h q.2)),r1,(congrArg (List.map iR) r2).trans hRL⟩
 clear hok
 cases hevs:p.evs with
 | nil =>
  obtain ⟨r3,r1,r2⟩:=hRs (by rw [hevs];exact Bool.false_ne_true)
  rw [r1,r2,r3]
  have hz:RE.length=0:=by rw [hNl,hevs];rfl
  clear hNl
  refine yF ?_
  exact kC
 | cons e r =>
  obtain ⟨a,b,c,d,f,SS,hat,hSL⟩:=avJ h3 e r hevs
  have hz:RE.length=r.length+1:=by rw [hNl,hevs];rfl
  clear hNl
  by_cases hz0:(l9 (aB s) e.stops).length=0
  ·have hf:Iy (aB s) p.evs=true:=by rw [hevs];exact dG hz0
   have r3:jJ s p=31:=hX.trans (if_pos ⟨h3,hf⟩)
   obtain ⟨r1,r2⟩:=hbad (by rw [r3];decide)
   rw [r1,r2,r3]
   rw [hz0] at hSL
   refine yF ?_
   refine WL.idx rfl rfl (yD 0) hat ?_
   refine yF ?_
   exact Gs
  ·obtain ⟨r3,r1,r2⟩:=hRs (by rw [hevs];show ¬ (decide _=true);rw [gu];exact hz0)
   rw [r1,r2,r3]
   refine yF ?_
   refine WL.idx rfl rfl (yD 0) hat ?_
   refine yF ?_
   exact kC
end Go.Proofs.YthehkchjdkdbiaaGreatDoor
