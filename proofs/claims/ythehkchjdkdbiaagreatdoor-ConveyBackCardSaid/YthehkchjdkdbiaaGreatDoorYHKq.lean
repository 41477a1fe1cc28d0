/- Capo of the program: the instrument, the piece. -/
import Derived.Test.YthehkchjdkdbiaaGreatDoorYGKq
set_option maxHeartbeats 8000000
set_option maxRecDepth 100000
set_option linter.unusedVariables false
set_option linter.unusedSimpArgs false
namespace Go.Proofs.YthehkchjdkdbiaaGreatDoor
open Go.RowKit
theorem ajP {p q:Prop}(k:q)(h:aP q→p:=by
 intro hq
 refine W.tr (Tr.yM 1 0 3 rfl rfl rfl) ?_
 refine W.tr (Tr.yM 1 1 1 rfl rfl rfl) ?_
 exact hq.k):p:=h ⟨k⟩
theorem QC {p q:Prop}(k:q)(h:aP q→p:=by
 intro hq
 refine zT ?_
 refine WL.ldr rfl rfl hrow rfl rfl ?_
 exact hq.k):p:=h ⟨k⟩
theorem amH (p:aS) (hO:jm p) (h0:aV p=0) (f:Int) (hf:0≤f∧f≤18) (cs:List (Int×Int×Bool)) (st:List Int) (hc1:cs.length≤64) (hs1:st.length≤64) :
  aU Tryz.prog 123 [.ag [.ls 3 (cs.map aF),.ls 1 (st.map eInt),.sc (.bool false),.sc .nilFunc,.fn 190 [.pr (amG p f)],.sc .nilFunc,.sc .nilFunc],bK p]
   (.tu [bK ⟨cs,st,jo (pF (qP p f)) (qP p f)⟩,.ls 3 ((NK (BN p.cs f) (pF (qP p f)) p.evs p.evs.length).map iR)]) :=
 arQ (BN p.cs f) (fun _=>rfl) (fun _=>rfl) (fun _ _=>rfl) (fun _=>rfl) af8 cs st hc1 hs1 (amG p f) p hO h0 fun k hk=>by
  have hE:=ji h0 hk
  refine anU p f p.evs[k].stops (hO.n4 k hk) hO.n1 hf fun j hj=>?_
  have hS:=hE.stops _ (dS hj)
  exact ⟨hS.aT,hS.ar8.1,hS.f18⟩
theorem ahq (p:aS) (hO:jm p) (h0:aV p=0) (f:Int) (hf:0≤f∧f≤18) (cs:List (Int×Int×Bool)) (st:List Int) (hc1:cs.length≤64) (hs1:st.length≤64) :
  aU Tryz.prog 125 [bK p,.ag [.ls 3 (cs.map aF),.ls 1 (st.map eInt)],.fn 126 [.pr [.ls 3 (p.cs.map aF),.ls 1 (p.st.map eInt),.ls 6 (p.evs.map dI)],.pr [.sc (.int .i64 f)]]]
   (.tu [bK ⟨cs,st,jo (pF (qP p f)) (qP p f)⟩,.ls 3 ((NK (BN p.cs f) (pF (qP p f)) p.evs p.evs.length).map iR)]):=by
 have hA:=KA p hO h0
 have hC:=amH p hO h0 f hf cs st hc1 hs1
 unfold amG at hC
 have hPe:bK p=.ag [.ls 3 (p.cs.map aF),.ls 1 (p.st.map eInt),.ls 6 (p.evs.map dI)]:=rfl
 rw [hPe] at hA hC ⊢
 obtain ⟨R,hR⟩:∃ z,bK ⟨cs,st,jo (pF (qP p f)) (qP p f)⟩=z:=⟨_,rfl⟩
 have hRe:R=.ag [.ls 3 (cs.map aF),.ls 1 (st.map eInt),.ls 6 ((jo (pF (qP p f)) (qP p f)).map dI)]:=hR.symm
 rw [hR] at hC ⊢
 rw [hRe] at hC ⊢
 obtain ⟨RE,hRE⟩:∃ z,(jo (pF (qP p f)) (qP p f)).map dI=z:=⟨_,rfl⟩
 rw [hRE] at hC ⊢
 clear hR hRe hRE
 refine jl Tryz.func125 Tryz.ntmps125 fun w0 F0=>?_;dsimp only [St.init,number,Nat.reduceAdd]
 refine nK ?_
 refine yH ?_
 refine nK ?_
 refine WL.tr (Tr.nilA (t:=18) 2 6 rfl rfl rfl rfl) ?_
 refine WL.vl rfl (bZ Tryz.func117 hA) ?_
 refine nK ?_
 refine WL.tr (Tr.nU 2 rfl rfl) ?_
 refine WL.vl rfl (bZ Tryz.func123 hC) ?_
 refine nK ?_
 exact W.ret (Yt rfl rfl rfl rfl)
theorem agd (cs:List (Int×Int×Bool)) (st:List Int) (h1:cs.length≤64) (h2:st.length≤64):jI jE 0 Tryz.prog 189 [.ag [.ls 3 (cs.map aF),.ls 1 (st.map eInt)]] [] 0 (.ag [.sl 0,.ls 1 (st.map eInt)])
  [(0,.row 117 3 (cs.map aF)),(1,.box 27 [.sl 0,.ls 1 (st.map eInt)])] 2:=by
 have hc:=OA st au
 have hcs:jI jE 0 Tryz.prog 235 [.ls 3 (cs.map aF)] [] 0 (.sl 0) [(0,.row 117 3 (cs.map aF))] 1:=by
  refine jI.intro kV Tryz.func235 rfl Tryz.ntmps235 (bU rfl) rfl fun w0 F0 fp pg hB=>?_
  refine gB ?_
  refine qL ?_
  refine WL.nlq rfl rfl fun b hb=>?_
  cases b with
  | true =>
   have e:=hb rfl
   refine qL ?_
   refine W.tr (Tr.nil (t:=2) 117 3 rfl rfl) ?_
   rw [e]
   refine W.tr (σ':=⟨[(2,.sl 0)],[(0,.row 117 3 [])],1⟩) (zqt id) ?_
   exact jX
  | false =>
   refine qL ?_
   refine W.tr (σ':=⟨[(2,.sl 0)],[(0,.row 117 3 (cs.map aF))],1⟩) (kL (fun q=>bif Nat.beq q 0 then 1 else q) qc rfl) ?_
   exact jX
 refine jI.intro kV Tryz.func189 rfl Tryz.ntmps189 (bU rfl) rfl fun w0 F0 fp pg hB=>?_
 refine gB ?_
 refine qL ?_
 refine W.rD bD ?_
 refine WA.dt [false,false,true,false,false,false,true,true] [0] [0,1] 7 bD bD bD ⟨rfl,trivial⟩ ⟨rfl,rfl,trivial⟩ ?_
 refine Df ?_
 refine aZ.ct (dL _) [] rfl rfl (ak Tryz.func235 rfl rfl) hcs rfl rfl rfl trivial rfl rfl rfl rfl ⟨rfl,trivial⟩ (fun _=>⟨rfl,rfl,trivial⟩) ?_
 refine Df ?_
 refine aZ.v0 rfl (bZ Tryz.func236 hc) ?_
 refine acL rfl rfl rfl rfl rfl rfl ⟨rfl,trivial⟩ (fun _=>⟨rfl,rfl,trivial⟩) ?_
 refine aZ.yT rfl rfl rfl rfl rfl rfl rfl rfl rfl rfl rfl rfl rfl rfl ⟨rfl,trivial⟩ (fun h=>by cases h) ?_
 refine aZ.nil ?_
 refine qL ?_
 refine W.tr (σ':=⟨[(2,.pt 1 0 0)],[(0,.row 117 3 (cs.map aF)),(1,.box 27 [.sl 0,.ls 1 (st.map eInt)])],2⟩) (kL (fun q=>bif Nat.beq q 0 then 2 else q) qc rfl) ?_
 exact W.ret (Au rfl rfl rfl rfl rfl)
theorem arW {cs:List (Int×Int×Bool)} {st:List Int} {f:Int} {k:Nat} (h:k<cs.length):(((cs.take k).map (Ue st f)++cs.drop k).map aF)[k]?=some [.sc (.int .i64 cs[k].1),.sc (.int .i64 cs[k].2.1),.sc (.bool cs[k].2.2)]:=by
 have hl:((cs.take k).map (Ue st f)).length=k:=by rw [aH,fP];omega
 rw [bT,o8 (by omega),hl,H9,zL h];rfl
theorem arX {cs:List (Int×Int×Bool)} {st:List Int} {f:Int} {k:Nat} (h:k<cs.length):((cs.take k).map (Ue st f)++cs.drop k).set k (Ue st f cs[k])=(cs.take (k+1)).map (Ue st f)++cs.drop (k+1):=by
 have hl:((cs.take k).map (Ue st f)).length=k:=by rw [aH,fP];omega
 exact ars
theorem amP {cs:List (Int×Int×Bool)} {st:List Int} {f:Int} {k:Nat} (h:k<cs.length)(h0:cs[k].2.1=0):(cs.take k).map (Ue st f)++cs.drop k=(cs.take (k+1)).map (Ue st f)++cs.drop (k+1):=by
 rw [mJ h,fC,jA,zL h]
 congr 1
 show _=[Ue st f cs[k]]++_
 rw [show Ue st f cs[k]=cs[k]from if_pos h0];rfl
theorem arV {cs:List (Int×Int×Bool)} {st:List Int} {f:Int} {k:Nat} (h:k≤cs.length):(((cs.take k).map (Ue st f)++cs.drop k).map aF).length=cs.length:=by
 rw [aH,aY,aH,fP,yB];omega
theorem agi {cs:List (Int×Int×Bool)} {f:Int} {k:Nat} (h:k<cs.length) (h1:cs[k].2.1≠0) (h2:cs[k].2.1<f):OB cs f=true:=List.any_eq_true.2 ⟨cs[k],dS h,dG ⟨h1,h2⟩⟩
theorem agj {cs:List (Int×Int×Bool)} {f:Int} (h:∀ k (hk:k<cs.length),¬ (cs[k].2.1≠0∧cs[k].2.1<f)):OB cs f=false:=by
 unfold OB
 rw [Ep]
 intro x hx
 obtain⟨i,hi,rfl⟩:=eu hx
 simpa using h i hi
theorem auc {P:Program} {f:FuncId} {cs:List (Int×Int×Bool)} {st:List Int} {post:List AV} {ys:List Value} {res:AV} {v:Value} (hs2:EG post=some ys) (hv:∀ F,RP F res v)
  (h:∀ w A1 A2 c1 c2,jq w w.heap.size A1 A2 cs st→Calls P f (.agg #[.slice A1 cs.length c1,.slice A2 st.length c2]::ys).toArray w (eG v w)):aU P f (.ag (mX cs st)::post) res:=by
 intro w F vs hF hR
 match vs,hR.1,hR.2 with
 | u::us,hlen,hR2 =>
  exact aqL
theorem ao3 {st:List Int}:∀ {cs:List (Int×Int×Bool)},yJ st cs=0→∀ k (h:k<cs.length),0≤cs[k].1∧cs[k].1≤127:=by
 intro cs
 induction cs with
 | nil=>intro _ k h;simp at h
 | cons x r ih =>
  intro h k hk
  exact aq2
theorem SY (cs:List (Int×Int×Bool))(st:List Int):aU Tryz.prog 103 [.ag (mX cs st)] (.sc (.int .i64 (fU cs st))) :=
 auc (post:=[]) rfl (fun _=>.sc _) fun w A1 A2 c1 c2 hI=>JI A1 A2 cs st cs.length st.length c1 c2 w hI rfl rfl
theorem aia (cs:List (Int×Int×Bool)) (st:List Int) (f:Int):aU Tryz.prog 124 [.ag [.ls 3 (cs.map aF),.ls 1 (st.map eInt)],.sc (.int .i64 f)]
  (.tu [.ag [.ls 3 ((Jo cs st f).map aF),.ls 1 ((Jp cs st f).map eInt)],.sc (.int .i64 (QT cs st f))]):=by
 have hI:aU Tryz.prog 103 [.ag [.ls 3 (cs.map aF),.ls 1 (st.map eInt)]] (.sc (.int .i64 (fU cs st))):=SY cs st
 have asl:QT cs st f≠0→Jo cs st f=[]∧Jp cs st f=[]:=fun h=>⟨if_neg h,if_neg h⟩
 by_cases hi:fU cs st=0
 rotate_left
 ·have e:QT cs st f=fU cs st:=if_pos hi
  obtain ⟨e1,e2⟩:=asl (by rw [e];exact hi)
  rw [e1,e2,e]
  obtain ⟨E,hE⟩:∃ z,fU cs st=z:=⟨_,rfl⟩
  rw [hE] at hI hi ⊢
  refine jl Tryz.func124 Tryz.ntmps124 fun w0 F0=>?_;dsimp only [St.init,number,Nat.reduceAdd]
  refine acW ?_
  refine WL.vl rfl (bZ Tryz.func103 hI) ?_
  refine MX ?_
  refine ajP ?_
  exact kC
 rw [hi] at hI
 obtain ⟨l1,l2,l3,l4,l5⟩:=mF hi
 have hSl:(st.map eInt).length=st.length:=aH _
 have hcl:=agd cs st au au
 by_cases hr:f < 0∨(st.length:Int) < f
 ·have e:QT cs st f=13:=by unfold QT;rw [if_neg (fun h=>h hi),if_pos hr]
  obtain ⟨e1,e2⟩:=asl Qz
  rw [e1,e2,e]
  have hr2:f < 0∨(¬ f < 0∧(st.length:Int) < f):=by omega
  rcases hr2 with hr2|hr2
  all_goals
   refine jl Tryz.func124 Tryz.ntmps124 fun w0 F0=>?_;dsimp only [St.init,number,Nat.reduceAdd]
   refine acW ?_
   refine WL.vl rfl (bZ Tryz.func103 hI) ?_
   refine MX ?_
   refine ajP ?_
   exact W.ret (Yt rfl rfl rfl rfl)
 by_cases hz:f=0
 ·have e:QT cs st f=0:=by unfold QT;rw [if_neg (fun h=>h hi),if_neg hr,if_pos hz]
  have e1:Jo cs st f=cs:=(if_pos e).trans (if_pos hz)
  have e2:Jp cs st f=st:=(if_pos e).trans (if_pos hz)
  rw [e1,e2,e]
  refine jl Tryz.func124 Tryz.ntmps124 fun w0 F0=>?_;dsimp only [St.init,number,Nat.reduceAdd]
  refine acW ?_
  refine WL.vl rfl (bZ Tryz.func103 hI) ?_
  refine MX ?_
  refine WL.qo (dL _) [] rfl rfl (ak Tryz.func189 rfl rfl) hcl rfl rfl rfl trivial rfl rfl rfl rfl ?_
  refine MX ?_
  refine W.tr (Tr.freeze 2 rfl) ?_
  exact kC
 have hf1:1≤f∧f≤st.length:=by omega
 obtain ⟨hk0,hstep,hs1,hs2⟩:=arU hi hf1.1 hf1.2
 have asN:(st.map eInt)[(f - 1).toNat]?=some [.sc (.int .i64 (cpS st f))]:=by rw [bT,hstep];rfl
 have hcb:=QV l5
 have hcp:=ao3 l5
 have hXc:QT cs st f=if OB cs f=true then 13 else 0:=by unfold QT;rw [if_neg (fun h=>h hi),if_neg hr,if_neg hz]
 have hpr:prt (st.map eInt) f st.length=(st.drop f.toNat).map eInt:=by
  unfold prt
  rw [fO,wS (by rw [aH];omega),Tz]
 have hdl:((st.drop f.toNat).map eInt).length=(st.drop f.toNat).length:=aH _
 have hsteps:∀ k (h:k < (st.drop f.toNat).length),1≤(st.drop f.toNat)[k]∧(st.drop f.toNat)[k]≤127:=fun k h=>by
  rw [List.getElem_drop]
  exact lF au l4 _ _
 have hcap1:∀ k (hk:k < cs.length),cs[k].2.1≠0→Ue st f cs[k]=(cs[k].1+cpS st f,cs[k].2.1 - f,cs[k].2.2):=fun k hk h=>if_neg h
 have agJ:=fun k (hk:k < cs.length)=>arX (cs:=cs) (st:=st) (f:=f) hk
 have YA:=fun k (hk:k < cs.length) h=>amP (cs:=cs) (st:=st) (f:=f) (k:=k) hk h
 obtain ⟨S,hS⟩:∃ z,cpS st f=z:=⟨_,rfl⟩
 rw [hS] at hs1 hs2 asN hcap1
 obtain ⟨ST,hST⟩:∃ z,st.map eInt=z:=⟨_,rfl⟩
 rw [hST] at hI hcl asN hSl hpr ⊢
 refine jl Tryz.func124 Tryz.ntmps124 fun w0 F0=>?_;dsimp only [St.init,number,Nat.reduceAdd]
 refine acW ?_
 refine WL.vl rfl (bZ Tryz.func103 hI) ?_
 refine MX ?_
 refine WL.qo (dL _) [] rfl rfl (ak Tryz.func189 rfl rfl) hcl rfl rfl rfl trivial rfl rfl rfl rfl ?_
 refine MX ?_
 refine WL.idx rfl rfl au asN ?_
 refine MX ?_
 refine W.loop (fun k:Nat=>k≤cs.length∧∀ i (hi:i < cs.length),i < k→¬ (cs[i].2.1≠0∧cs[i].2.1 < f)) (fun k=>⟨[(1,.sc (.int .i64 f)),(2,.pt 0 0 0),(4,.pt 1 0 0),(7,.pt 3 0 0),(8,.sc (.int .i64 S)),(42,.sc (.int .i64 cs.length)),(43,.sc (.int .i64 k))],[(0,.box 27 [.ls 3 (cs.map aF),.ls 1 ST]),(1,.box 27 [.sc (.slice none 0 0),.sc (.slice none 0 0)]),(2,.row 117 3 (((cs.take k).map (Ue st f)++cs.drop k).map aF)),(3,.box 27 [.sl 2,.ls 1 ST])],4⟩) (fun k=>cs.length - k) 0 ⟨by omega,fun i _ h=>absurd h (Ic _)⟩ (kL (fun q=>bif Nat.beq q 3 then 4 else q) ao9 rfl) fun k hk=>?_
 obtain ⟨hk,hno⟩:=hk
 have hRl:=arV (cs:=cs) (st:=st) (f:=f) hk
 by_cases hlt:k < cs.length
 ·have hrow:=arW (st:=st) (f:=f) hlt
  have hb1:=hcb k hlt
  have hb2:=hcp k hlt
  have hset:=agJ k hlt
  have hsame:=YA k hlt
  have hc1:=hcap1 k hlt
  have hbad:=agi (cs:=cs) (f:=f) hlt
  have hnext:¬ (cs[k].2.1≠0∧cs[k].2.1 < f)→∀ i (hi:i < cs.length),i < k+1→¬ (cs[i].2.1≠0∧cs[i].2.1 < f):=fun h i hi hik=>by
   by_cases e:i=k
   ·subst e;exact h
   ·exact hno i hi au
  obtain ⟨L,hL⟩:∃ z,(cs.take k).map (Ue st f)++cs.drop k=z:=⟨_,rfl⟩
  rw [hL] at hRl hrow hset hsame ⊢
  obtain ⟨X,hX⟩:∃ z,cs[k]=z:=⟨_,rfl⟩
  rw [hX] at hrow hb1 hb2 hset hsame hc1 hbad hnext
  clear hno hcb hcp hcap1 agJ YA hsteps
  by_cases h0:X.2.1=0
  ·have hs2:=congrArg (List.map aF) (hsame h0)
   have hn2:=hnext (fun h=>h.1 h0)
   clear hset hc1 hbad hnext hsame
   refine QC ?_
   refine zT ?_
   exact ⟨k+1,⟨by omega,hn2⟩,by omega,(kL (fun q=>q) (by repeat (first|exact trivial|refine ⟨⟨?_,?_,?_⟩,?_⟩|rfl|exact congrArg (fun q=>some (AO.row _ _ q)) hs2)) rfl)⟩
  ·by_cases hlf:X.2.1 < f
   ·have e:QT cs st f=13:=hXc.trans (if_pos (hbad h0 hlf))
    obtain ⟨e1,e2⟩:=asl Qz
    rw [e1,e2,e]
    clear hset hc1 hbad hnext hsame
    refine QC ?_
    refine QC ?_
    refine zT ?_
    refine ajP ?_
    exact kC
   ·have hn2:=hnext (fun h=>hlf h.2)
    have hfin:=hset
    rw [hc1 h0] at hfin
    have hfin:=congrArg (List.map aF) hfin
    rw [wX] at hfin
    clear hset hc1 hbad hnext hsame
    refine QC ?_
    refine QC ?_
    refine QC ?_
    refine zT ?_
    refine WL.yT rfl rfl rfl rfl hrow (by show 1+1≤3;omega) ?_
    dsimp only [AV.cells]
    rw [fO]
    obtain ⟨R7,hR7⟩:∃ z,(L.map aF).set k (jQ 1 [.sc (.int .i64 (X.2.1 - f))] [.sc (.int .i64 X.1),.sc (.int .i64 X.2.1),.sc (.bool X.2.2)])=z:=⟨_,rfl⟩
    rw [hR7]
    have hkl:k < (L.map aF).length:=by rw [hRl];exact hlt
    have apx:R7[k]?=some [.sc (.int .i64 X.1),.sc (.int .i64 (X.2.1 - f)),.sc (.bool X.2.2)]:=by rw [← hR7];exact rM hkl
    have aA4:R7.length=cs.length:=by rw [← hR7,wV];exact hRl
    have avI:R7.set k (jQ 0 [.sc (.int .i64 (X.1+S))] [.sc (.int .i64 X.1),.sc (.int .i64 (X.2.1 - f)),.sc (.bool X.2.2)])=((cs.take (k+1)).map (Ue st f)++cs.drop (k+1)).map aF:=by
     rw [← hR7,List.set_set];exact hfin
    clear hfin hR7 hrow
    refine zT ?_
    refine WL.ldr rfl rfl apx rfl rfl ?_
    refine zT ?_
    refine WL.yT rfl rfl rfl rfl apx (by show 0+1≤3;omega) ?_
    dsimp only [AV.cells]
    rw [avI]
    refine zT ?_
    exact ⟨k+1,⟨by omega,hn2⟩,by omega,(zqt id)⟩
 obtain rfl:k=cs.length:=by omega
 have hb0:OB cs f=false:=agj fun i hi=>hno i hi hi
 have e:QT cs st f=0:=hXc.trans (if_neg (by rw [hb0];simp))
 have e1:Jo cs st f=cs.map (Ue st f):=(if_pos e).trans (if_neg hz)
 have e2:Jp cs st f=(st.drop f.toNat).map fun x=>x - S:=by rw [← hS];exact (if_pos e).trans (if_neg hz)
 rw [e1,e2,e,jH,List.drop_length,nI]
 have ayQ:prt ST f (ST.length:Int)=(st.drop f.toNat).map eInt:=by rw [hSl];exact hpr
 have ayz:(st.drop f.toNat).length≤18:=by rw [yB];omega
 clear hno hcb hcp hcap1 agJ YA e1 e2 hRl hpr hXc
 refine zT ?_
 refine WL.KJ rfl rfl ⟨by omega,by omega,yD _⟩ ayQ ?_
 obtain ⟨DL,hDL⟩:∃ z,st.drop f.toNat=z:=⟨_,rfl⟩
 rw [hDL] at hdl ayz hsteps ⊢
 refine zT ?_
 refine W.tr (Tr.og (k:=3) (j:=1) 3 1 rfl rfl rfl rfl) ?_
 refine xk ?_
 refine W.loop (fun k:Nat=>k≤DL.length) (fun k=>⟨[(4,.pt 1 0 0),(7,.pt 3 0 0),(8,.sc (.int .i64 S)),(83,.ls 1 (DL.map eInt)),(84,.sc (.int .i64 DL.length)),(85,.sc (.int .i64 k))],[(1,.box 27 [.sc (.slice none 0 0),.sc (.slice none 0 0)]),(2,.row 117 3 ((cs.map (Ue st f)).map aF)),(3,.box 27 [.sl 2,.sl 4]),(4,.row 3 1 (((DL.take k).map fun x=>x - S).map eInt))],5⟩) (fun k=>DL.length - k) 0 au (zqt id) fun k hk=>?_
 by_cases hlt:k < DL.length
 ·have hb:=hsteps k hlt
  have hrow:((DL.take k).map fun x=>x - S).map eInt++[eInt (DL[k] - S)]=((DL.take (k+1)).map fun x=>x - S).map eInt:=by
   exact QH
  have hl:(((DL.take k).map fun x=>x - S).map eInt).length=k:=by rw [aH,aH,fP];omega
  obtain ⟨R,hR⟩:∃ z,((DL.take k).map fun x=>x - S).map eInt=z:=⟨_,rfl⟩
  rw [hR] at hrow hl ⊢
  clear hsteps
  refine zT ?_
  exact ⟨k+1,by omega,by omega,(kL (fun q=>bif Nat.beq q 4 then 6 else q) aaz rfl)⟩
 ·obtain rfl:k=DL.length:=by omega
  rw [jH]
  refine zT ?_
  refine W.tr (Tr.freeze 2 rfl) ?_
  refine W.tr (Tr.freeze 4 rfl) ?_
  exact kC
theorem auY {cs:List (Int×Int×Bool)} {st:List Int} {f:Int} (h:QT cs st f=0):0≤f∧f≤18:=by
 unfold QT at h
 by_cases h1:fU cs st≠0
 ·exact aaN
 ·rw [if_neg h1]at h
  by_cases h2:f<0∨(st.length:Int)<f
  ·exact Gt
  ·obtain⟨_,_,l3,_⟩:=mF (Decidable.not_not.1 h1)
   omega
theorem aib (p:aS) (hO:jm p) (f:Int):aU Tryz.prog 65 [bK p,.sc (.int .i64 f)] (.tu [bK (Ya p f),.ls 3 ((amF p f).map iR),.sc (.int .i64 (X9 p f))]):=by
 have hC:=nD p hO
 have hPe:bK p=.ag [.ls 3 (p.cs.map aF),.ls 1 (p.st.map eInt),.ls 6 (p.evs.map dI)]:=rfl
 have hbad:X9 p f≠0→bK (Ya p f)=.ag [.ls 3 [],.ls 1 [],.ls 6 []]∧amF p f=[]:=fun h=>⟨by rw [show Ya p f=noP from if_neg h];rfl,if_neg h⟩
 have hI:=aia p.cs p.st f
 by_cases h0:aV p=0
 rotate_left
 ·have e:X9 p f=aV p:=if_pos h0
  obtain ⟨e1,e2⟩:=hbad (by rw [e];exact h0)
  rw [e1,e2,e]
  obtain ⟨E,hE⟩:∃ z,aV p=z:=⟨_,rfl⟩
  rw [hE] at hC h0 ⊢
  rw [hPe] at hC ⊢
  refine jl Tryz.func65 Tryz.ntmps65 fun w0 F0=>?_;dsimp only [St.init,number,Nat.reduceAdd]
  refine BI ?_
  refine WL.vl rfl (bZ Tryz.func51 hC) ?_
  refine um ?_
  exact Gs
 rw [h0] at hC
 have e:X9 p f=QT p.cs p.st f:=if_neg (fun h=>h h0)
 by_cases hx:QT p.cs p.st f=0
 rotate_left
 ·obtain ⟨e1,e2⟩:=hbad (by rw [e];exact hx)
  rw [e1,e2,e]
  obtain ⟨E,hE⟩:∃ z,QT p.cs p.st f=z:=⟨_,rfl⟩
  rw [hE] at hI hx ⊢
  rw [hPe] at hC ⊢
  refine jl Tryz.func65 Tryz.ntmps65 fun w0 F0=>?_;dsimp only [St.init,number,Nat.reduceAdd]
  refine BI ?_
  refine WL.vl rfl (bZ Tryz.func51 hC) ?_
  refine um ?_
  refine WL.vl rfl (bZ Tryz.func124 hI) ?_
  refine um ?_
  exact Gs
 have hM:=ahq p hO h0 f (auY hx) (Jo p.cs p.st f) (Jp p.cs p.st f) (by
  unfold Jo;rw [if_pos hx];split
  ·exact hO.n1
  ·rw [aH];exact hO.n1) (by
  unfold Jp;rw [if_pos hx];split
  ·exact hO.n2
  ·rw [aH,yB];have:=hO.n2;omega)
 have e1:bK (Ya p f)=bK ⟨Jo p.cs p.st f,Jp p.cs p.st f,jo (pF (qP p f)) (qP p f)⟩:=by rw [show Ya p f=_ from if_pos (e.trans hx)]
 have e2:amF p f=NK (BN p.cs f) (pF (qP p f)) p.evs p.evs.length:=if_pos (e.trans hx)
 rw [e1,e2,e,hx]
 rw [hx] at hI
 obtain ⟨R,hR⟩:∃ z,bK ⟨Jo p.cs p.st f,Jp p.cs p.st f,jo (pF (qP p f)) (qP p f)⟩=z:=⟨_,rfl⟩
 have hRe:R=.ag [.ls 3 ((Jo p.cs p.st f).map aF),.ls 1 ((Jp p.cs p.st f).map eInt),.ls 6 ((jo (pF (qP p f)) (qP p f)).map dI)]:=hR.symm
 rw [hR] at hM ⊢
 rw [hRe] at hM ⊢
 obtain ⟨RE,hRE⟩:∃ z,(jo (pF (qP p f)) (qP p f)).map dI=z:=⟨_,rfl⟩
 obtain ⟨RL,hRL⟩:∃ z,(NK (BN p.cs f) (pF (qP p f)) p.evs p.evs.length).map iR=z:=⟨_,rfl⟩
 obtain ⟨RC,hRC⟩:∃ z,(Jo p.cs p.st f).map aF=z:=⟨_,rfl⟩
 obtain ⟨RS,hRS⟩:∃ z,(Jp p.cs p.st f).map eInt=z:=⟨_,rfl⟩
 rw [hRE,hRL,hRC,hRS] at hM ⊢
 rw [hRC,hRS] at hI
 rw [hPe] at hC hM ⊢
 clear hR hRe hRE hRL hRC hRS
 refine jl Tryz.func65 Tryz.ntmps65 fun w0 F0=>?_;dsimp only [St.init,number,Nat.reduceAdd]
 refine BI ?_
 refine WL.vl rfl (bZ Tryz.func51 hC) ?_
 refine um ?_
 refine WL.vl rfl (bZ Tryz.func124 hI) ?_
 refine um ?_
 refine WL.tr (Tr.nU 0 rfl rfl) ?_
 refine WL.tr (Tr.nU 1 rfl rfl) ?_
 refine BI ?_
 refine yH ?_
 refine WL.vl rfl (bZ Tryz.func125 hM) ?_
 refine BI ?_
 exact kC
end Go.Proofs.YthehkchjdkdbiaaGreatDoor
