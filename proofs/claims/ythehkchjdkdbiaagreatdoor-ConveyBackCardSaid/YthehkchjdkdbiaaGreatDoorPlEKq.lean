/- Place, cell and the time words of the program, in any system, over trees. -/
import Derived.Test.YthehkchjdkdbiaaGreatDoorGPKq
set_option maxHeartbeats 4000000
set_option maxRecDepth 100000
set_option linter.unusedVariables false
set_option linter.unusedSimpArgs false
namespace Go.Proofs.YthehkchjdkdbiaaGreatDoor
open Go.RowKit
theorem ajG {p:Prop}(h:p:=by rw [h0 0 (by omega)];decide):p:=h
theorem Nz {p:Prop}(h:p:=by
 refine awS ?_
 exact qM):p:=h
theorem alm {p:Prop}(h:p:=by
 refine zQ ?_
 exact ⟨f+1,q,by omega,(zqt id)⟩):p:=h
theorem aft (s c aT:Int):aU Tryz.prog 86 [.sc (.int .u8 s),.sc (.int .i64 c),.sc (.int .i64 aT)] (.sc (.bool (ig s aT c))) :=
 aU.DY (v:=.bool (ig s aT c)) rfl (fun _=>.sc _) fun w=>(Z7 s c aT w).mono fun e w'⟨he,hw⟩=>⟨he,hw ▸ Below.refl _ _⟩
theorem Xc (s aT:Int):aU Tryz.prog 85 [.sc (.int .u8 s),.sc (.int .i64 aT)] (.tu [.sc (if aK s aT=0 then bG s else .nilIface),.sc (.int .i64 (aK s aT))]):=by
 refine jl Tryz.func85 Tryz.ntmps85 fun w0 F0=>?_;dsimp only [St.init,number,Nat.reduceAdd]
 refine ajw ?_
 refine WL.vl rfl (WV.call rfl (ak Tryz.func50 rfl rfl) rfl rfl (G9 s)) ?_
 refine ajw ?_
 by_cases hs:1≤s∧s≤4
 ·rw [dG hs]
  by_cases h:(aT < 0∨6 < aT)∨(s=4∧aT≠0)
  ·have e:aK s aT=12:=by unfold aK;rw [if_neg (by omega),if_pos h]
   rw [e,if_neg (by decide)]
   rcases Classical.em (aT < 0) with h1|h1
   ·exact Nz
   ·rcases Classical.em (6 < aT) with h2|h2
    ·exact Nz
    ·obtain ⟨h3,h4⟩:s=4∧aT≠0:=by omega
     subst h3
     exact Nz
  ·have e:aK s aT=0:=by unfold aK;rw [if_neg (by omega),if_neg h]
   rw [e,if_pos rfl]
   have h1:¬ aT < 0:=by omega
   have h2:¬ 6 < aT:=by omega
   rcases Classical.em (s=4) with h3|h3
   ·have h4:aT=0:=by omega
    subst h3 h4
    exact Nz
   ·exact Nz
 ·rw [cZ hs]
  have e:aK s aT=30:=if_pos hs
  rw [e,if_neg (by decide)]
  refine ajw ?_
  exact qM
theorem ait (s aT:Int) (l:List UInt8):aU Tryz.prog 35 [.sc (.int .u8 s),.sc (.int .i64 aT),.sc (.string (bs l))] (.tu [.ag [.sc (.int .i64 (placeOf s aT l).1),.sc (.int .i64 (placeOf s aT l).2.1)],.sc (.int .i64 (placeOf s aT l).2.2)]):=by
 have hst:=Xc s aT
 by_cases h:aK s aT=0
 ·rw [if_pos h,h] at hst
  have hs:1≤s∧s≤4:=Classical.byContradiction fun q=>by rw [show aK s aT=30 from if_pos q] at h;cases h
  refine jl Tryz.func35 Tryz.ntmps35 fun w0 F0=>?_;dsimp only [St.init,number,Nat.reduceAdd]
  refine Xx ?_
  refine WL.vl rfl (bZ Tryz.func85 hst) ?_
  refine Xx ?_
  refine W.loop (fun c:Nat=>1≤c∧c≤15∧rE (Og s aT l) 1 14=rE (Og s aT l) c (15 - c)) (fun c=>⟨[(0,.sc (.int .u8 s)),(1,.sc (.int .i64 aT)),(2,.sc (.string (bs l))),(6,.pt 0 0 0),(7,.sc (.int .i64 0)),(8,.sc (bG s)),(10,.sc (.int .i64 c))],[(0,.box 64 [.sc (.int .i64 0),.sc (.int .i64 0)])],1⟩) (fun c=>15 - c) 1 ⟨by omega,by omega,rfl⟩ (zqt id) fun c ⟨h1,h2,h3⟩=>?_
  by_cases hlt:c≤14
  rotate_left
  ·have e:placeOf s aT l=(0,0,4):=D6 h (h3.trans (by rw [show 15 - c=0 by omega];rfl))
   rw [e]
   refine zQ ?_
   exact kC
  refine zQ ?_
  refine W.loop (fun f:Nat=>f≤19∧oL (Og s aT l c) 0 19=oL (Og s aT l c) f (19 - f)) (fun f=>⟨[(0,.sc (.int .u8 s)),(1,.sc (.int .i64 aT)),(2,.sc (.string (bs l))),(6,.pt 0 0 0),(7,.sc (.int .i64 0)),(8,.sc (bG s)),(10,.sc (.int .i64 c)),(11,.sc (.int .i64 f))],[(0,.box 64 [.sc (.int .i64 0),.sc (.int .i64 0)])],1⟩) (fun f=>19 - f) 0 ⟨by omega,rfl⟩ (zqt id) fun f ⟨g1,g2⟩=>?_
  have hnext:oL (Og s aT l c) 0 19=none→1≤c+1∧c+1≤15∧rE (Og s aT l) 1 14=rE (Og s aT l) (c+1) (15 - (c+1)):=fun q=>⟨by omega,by omega,h3.trans (by rw [show 15 - c=15 - (c+1)+1 by omega];exact aiX _ _ _ q)⟩
  by_cases hf:f≤18
  rotate_left
  ·have q:=hnext (g2.trans (by rw [show 19 - f=0 by omega];rfl))
   refine zQ ?_
   exact ⟨c+1,q,by omega,(zqt id)⟩
  have hsd:=aft s c aT
  cases hsb:ig s aT c with
  | false =>
   rw [hsb] at hsd
   have q:=hnext (ZX _ _ _ fun k _ _=>by unfold Og;rw [hsb];rfl)
   refine zQ ?_
   refine WL.vl rfl (bZ Tryz.func86 hsd) ?_
   refine zQ ?_
   exact ⟨c+1,q,by omega,(zqt id)⟩
  | true =>
   rw [hsb] at hsd
   have hsy:=Jf s hs c f au au
   refine zQ ?_
   refine WL.vl rfl (bZ Tryz.func86 hsd) ?_
   refine zQ ?_
   refine WL.vl rfl (WV.sys hs En rfl rfl (fun vs w=>by kernel_rfl) (fun vs w=>by kernel_rfl) (fun vs w=>by kernel_rfl) (fun vs w=>by kernel_rfl) rfl rfl hsy) ?_
   cases hm:Og s aT l c f with
   | true =>
    have e:placeOf s aT l=((c:Int),(f:Int),0):=xO h (h3.trans (by rw [show 15 - c=14 - c+1 by omega];exact afj _ _ _ _ (g2.trans (by rw [show 19 - f=18 - f+1 by omega];exact afk _ _ _ hm))))
    obtain ⟨m1,m2⟩:=aoj hs ⟨by omega,by omega⟩ hf hm
    rw [e,m1]
    refine zQ ?_
    rw [m2]
    refine zQ ?_
    exact kC
   | false =>
    have q:f+1≤19∧oL (Og s aT l c) 0 19=oL (Og s aT l c) (f+1) (19 - (f+1)):=⟨by omega,g2.trans (by rw [show 19 - f=19 - (f+1)+1 by omega];exact aiY _ _ _ hm)⟩
    rcases atv hs ⟨by omega,by omega⟩ hf hsb hm with o1|⟨o1,o2⟩
    ·rw [o1]
     exact alm
    ·rw [o1]
     refine zQ ?_
     rw [o2]
     exact alm
 ·rw [if_neg h] at hst
  rw [WB h]
  have hb:decide (aK s aT=0)=false:=cZ h
  refine jl Tryz.func35 Tryz.ntmps35 fun w0 F0=>?_;dsimp only [St.init,number,Nat.reduceAdd]
  refine Xx ?_
  refine WL.vl rfl (bZ Tryz.func85 hst) ?_
  refine Xx ?_
  rw [hb]
  refine Xx ?_
  exact kC
def ptT:Option (Nat×Nat)→AV
 | some (v,i)=>.tu [.ag [.sc (.int .i64 (v:Int)),.sc (.bool (IE i)),.sc (.bool (EH i))],.sc (.int .i64 0)]
 | none=>.tu [.ag [.sc (.int .i64 0),.sc (.bool false),.sc (.bool false)],.sc (.int .i64 4)]
def NS (v:Int)(i:Nat):List AV:=[.sc (.int .i64 v),.sc (.bool (IE i)),.sc (.bool (EH i))]
theorem Xi (s:Int)(hs:1≤s∧s≤4)(v:Int)(i:Nat)(hv:0≤v∧v≤7)(hi:i≤2)(h0:v=0→i=0):aU Tryz.prog 110 [.sc (bG s),.ag (NS v i)] (.tu [.sc (.string (bs (tW v i))),.sc (.bool (Aq s v i))]):=by
 rcases bQ hs with rfl|rfl|rfl|rfl
 ·exact aU.kP rfl (fun _=>jR) fun w=>awv v i w hv hi h0
 ·exact aU.kP rfl (fun _=>jR) fun w=>aww v i w hv hi h0
 ·exact aU.kP rfl (fun _=>jR) fun w=>awx v i w hv hi h0
 ·exact aU.kP rfl (fun _=>jR) fun w=>awy v i w hv hi h0
theorem agy {m:Nat→Bool}:∀ {j:Nat},j<3→(∀ i,i<j→m i=false)→m j=true→(List.range 3).find? m=some j
 | 0,_,_,h=>by rw [abl,if_pos h]
 | 1,_,h0,h=>by rw [abl,if_neg ajG,if_pos h]
 | 2,_,h0,h=>by rw [abl,if_neg ajG,if_neg (by rw [h0 1 (by omega)];decide),if_pos h]
theorem agz {m:Nat→Bool} (h0:∀ i,i<3→m i=false):(List.range 3).find? m=none:=by
 rw [abl,if_neg ajG,if_neg (by rw [h0 1 (by omega)];decide),if_neg (by rw [h0 2 (by omega)];decide)]
theorem ai0 (v:Int):∀ {j:Nat},j<3→[NS v 0,NS v 1,NS v 2][((j:Nat):Int).toNat]?=some (NS v j)
 | 0,_=>rfl
 | 1,_=>rfl
 | 2,_=>rfl
theorem atC (s:Int) (hs:1≤s∧s≤4) (l:List UInt8):aU Tryz.prog 92 [.sc (.int .u8 s),.sc (.string (bs l))] (ptT (lD (EI s l) 0 8)):=by
 have hof:=G9 s
 rw [dG hs] at hof
 refine jl Tryz.func92 Tryz.ntmps92 fun w0 F0=>?_;dsimp only [St.init,number,Nat.reduceAdd]
 refine ap6 ?_
 refine WL.vl rfl (bZ Tryz.func50 hof) ?_
 refine ap6 ?_
 refine W.loop (fun v:Nat=>v≤8∧lD (EI s l) 0 8=lD (EI s l) v (8 - v)) (fun v=>⟨[(0,.sc (.int .u8 s)),(1,.sc (.string (bs l))),(4,.pt 0 0 0),(5,.sc (.int .i64 0)),(6,.sc (bG s)),(8,.sc (.int .i64 v))],[(0,.box 87 (NS 0 0))],1⟩) (fun v=>8 - v) 0 ⟨by omega,rfl⟩ (zqt id) fun v ⟨h1,h2⟩=>?_
 by_cases hlt:v≤7
 rotate_left
 ·rw [h2.trans (show lD (EI s l) v (8 - v)=none by rw [show 8 - v=0 by omega];rfl)]
  refine kT ?_
  exact kC
 refine kT ?_
 first|refine W.tr (Tr.freeze 1 rfl) ?_|refine WL.tr (Tr.freeze 1 rfl) ?_
 refine W.loop (fun j:Nat=>j≤3∧∀ i,i < j→EI s l v i=false) (fun j=>⟨[(0,.sc (.int .u8 s)),(1,.sc (.string (bs l))),(4,.pt 0 0 0),(5,.sc (.int .i64 0)),(6,.sc (bG s)),(8,.sc (.int .i64 v)),(31,.ls 3 [NS v 0,NS v 1,NS v 2]),(32,.sc (.int .i64 3)),(33,.sc (.int .i64 j))],[(0,.box 87 (NS 0 0))],2⟩) (fun j=>3 - j) 0 ⟨by omega,fun i hi=>absurd hi au⟩ (zqt id) fun j ⟨g1,g2⟩=>?_
 by_cases hj:j < 3
 rotate_left
 ·have q:lD (EI s l) 0 8=lD (EI s l) (v+1) (8 - (v+1)):=h2.trans (by rw [show 8 - v=8 - (v+1)+1 by omega];exact aiZ _ _ _ (agz fun i hi=>g2 i (by omega)))
  refine kT ?_
  exact ⟨v+1,⟨by omega,q⟩,by omega,(zqt id)⟩
 have hno:EI s l v j=false→j+1≤3∧∀ i,i < j+1→EI s l v i=false:=fun q=>⟨by omega,fun i hi=>by rcases Nat.lt_succ_iff_lt_or_eq.1 hi with h|rfl;exact g2 i h;exact q⟩
 have hcase:(v=0∧(j=1∨j=2))∨(v=0∧j=0)∨0 < v:=by omega
 rcases hcase with ⟨rfl,hjj⟩|hcase
 ·have q:=hno (by unfold EI;rcases hjj with rfl|rfl<;>rfl)
  rcases hjj with rfl|rfl
  all_goals
   refine kT ?_
   refine WL.idx rfl rfl au (ai0 0 au) ?_
   refine kT ?_
   refine WL.vl rfl (WV.ane (b:=false) rfl rfl rfl rfl rfl bD (fun w=>by kernel_rfl)) ?_
   refine kT ?_
   exact ⟨_,q,by omega,(zqt id)⟩
 have h00:v=0→j=0:=by omega
 have hyes:EI s l v j=true→Aq s v j=true∧(tW v j == l)=true∧lD (EI s l) 0 8=some (v,j):=fun q=>by
  refine ⟨?_,?_,h2.trans (by rw [show 8 - v=7 - v+1 by omega];exact afl _ _ _ _ (agy hj g2 q))⟩
  all_goals simp only [EI,aW] at q
  ·exact q.2.1
  ·exact q.2.2
 have hnot:EI s l v j=false→Aq s v j=false∨Aq s v j=true∧(tW v j == l)=false:=fun q=>by
  have e:(v != 0|| j == 0)=true:=by
   rcases hcase with ⟨rfl,rfl⟩|h
   ·rfl
   ·simp only [qI,Gl,ne_eq];exact .inl (by omega)
  unfold EI at q
  rw [e,L8] at q
  cases ho:Aq s v j with
  | false=>exact .inl rfl
  | true=>rw [ho,L8] at q;exact .inr ⟨rfl,q⟩
 have htw:=Xi s hs v j au au au
 rcases hcase with ⟨rfl,rfl⟩|hv
 all_goals
  refine kT ?_
  refine WL.idx rfl rfl au (ai0 _ hj) ?_
  refine kT ?_
 refine WL.vl rfl (WV.ane (b:=true) rfl rfl rfl rfl rfl bD (fun w=>by kernel_rfl)) ?_
 all_goals
  refine kT ?_
  refine WL.vl rfl (bZ Tryz.func110 htw) ?_
  cases hm:EI s l _ _ with
  | true =>
   obtain ⟨m1,m2,m3⟩:=hyes hm
   rw [m1,m3]
   refine kT ?_
   rw [m2]
   refine kT ?_
   exact kC
  | false =>
   have q:=hno hm
   rcases hnot hm with m1|⟨m1,m2⟩
   ·rw [m1]
    refine kT ?_
    exact ⟨_,q,by omega,(zqt id)⟩
   ·rw [m1]
    refine kT ?_
    rw [m2]
    refine kT ?_
    exact ⟨_,q,by omega,(zqt id)⟩
theorem aa9 (s:Int) (hs:1≤s∧s≤4) (x:Stp) (L:Int) (hc:1≤x.1∧x.1≤14) (hf:0≤x.2.1∧x.2.1≤18) (hr:0≤x.2.2.1∧x.2.2.1≤3) (hg:0≤x.2.2.2.1∧x.2.2.2.1≤4) (hh:0≤x.2.2.2.2∧x.2.2.2.2≤15) :
  aU Tryz.prog 87 [.sc (bG s),.ag (aC x),.sc (.int .i64 L)] (.tu [.sc (.string (bs (cellS s x.1 x.2.1 x.2.2.1 x.2.2.2.1 x.2.2.2.2 L))),.sc (.bool (dK s x.1 x.2.1 x.2.2.1 x.2.2.2.1 x.2.2.2.2 L))]):=by
 have h1:=Jf s hs x.1 x.2.1 hc hf
 have h2:=KZ s hs x.2.2.1 hr
 have h3:=JE s hs x.2.2.2.1 hg
 have h4:=Rl s hs x.2.2.2.2 L hh
 have a1:=(aii s x.1 x.2.1 hs hc hf).1
 have a2:=aiF s x.2.2.1
 have a3:=aiB s x.2.2.2.1
 have a4:=aic s x.2.2.2.2 L
 unfold cellS dK
 refine jl Tryz.func87 Tryz.ntmps87 fun w0 F0=>?_;dsimp only [St.init,number,Nat.reduceAdd]
 refine Xy ?_
 refine WL.vl rfl (WV.sys hs En rfl rfl (fun vs w=>by kernel_rfl) (fun vs w=>by kernel_rfl) (fun vs w=>by kernel_rfl) (fun vs w=>by kernel_rfl) rfl rfl h1) ?_
 refine Xy ?_
 refine WL.vl rfl (WV.sys hs FI rfl rfl (fun vs w=>by kernel_rfl) (fun vs w=>by kernel_rfl) (fun vs w=>by kernel_rfl) (fun vs w=>by kernel_rfl) rfl rfl h2) ?_
 refine Xy ?_
 refine WL.vl rfl (WV.sys hs EX rfl rfl (fun vs w=>by kernel_rfl) (fun vs w=>by kernel_rfl) (fun vs w=>by kernel_rfl) (fun vs w=>by kernel_rfl) rfl rfl h3) ?_
 refine Xy ?_
 refine WL.vl rfl (WV.sys hs OQ rfl rfl (fun vs w=>by kernel_rfl) (fun vs w=>by kernel_rfl) (fun vs w=>by kernel_rfl) (fun vs w=>by kernel_rfl) rfl rfl h4) ?_
 clear h1 h2 h3 h4
 cases qU s x.1 x.2.1<;>cases okR s x.2.2.1<;>cases sZ s x.2.2.2.1<;>cases qN s x.2.2.2.2 L
 all_goals
  refine Xy ?_
  exact W.ret (fin2 rfl rfl rfl rfl rfl rfl rfl)
end Go.Proofs.YthehkchjdkdbiaaGreatDoor
