/- The library's sort (slices.SortFunc) over stops that stand in order already: it leaves them. -/
import Derived.Test.YthehkchjdkdbiaaGreatDoorG9Kq
set_option maxHeartbeats 8000000
set_option maxRecDepth 100000
set_option linter.unusedVariables false
set_option linter.unusedSimpArgs false
namespace Go.Proofs.YthehkchjdkdbiaaGreatDoor
open Go.RowKit
theorem Nj {p:Prop}(h:p:=by decide +kernel):p:=h
theorem TN {p:Prop}(h:p:=by
 exact ⟨k+1,by omega,by omega,(zqt id)⟩):p:=h
theorem al3 {p:Prop}(h:p:=by
 refine jl Tryz.func240 Tryz.ntmps240 fun w0 F0=>?_;dsimp only [St.init,number,Nat.reduceAdd]
 refine Ey ?_
 refine WL.vl rfl (bZ Tryz.func267 h1) ?_
 refine aqd ?_
 refine WL.vl rfl (bZ Tryz.func267 h2) ?_
 refine aqd ?_
 exact W.ret vS):p:=h
theorem aqC {p q:Prop}(k:q)(h:aP q→p:=by
 intro hq
 refine Gm ?_
 refine DK.lda rfl rfl r1 rfl ?_
 refine Gm ?_
 refine DK.lda rfl rfl r0 rfl ?_
 refine Gm ?_
 exact hq.k):p:=h ⟨k⟩
theorem ac2 {p q:Prop}(k:q)(h:aP q→p:=by
 intro hq
 repeat (first|refine DK.bf rfl rfl au ?_|refine DK.st rfl ?_|refine DK.ixs rfl rfl zU ?_|refine DK.nil ?_)
 exact hq.k):p:=h ⟨k⟩
def cmI(a b:Int):Int:=if a<b then -1 else if b<a then 1 else 0
theorem acN (a:Int):aU Tryz.prog 267 [.sc (.int .i64 a)] (.sc (.bool false)):=by
 refine jl Tryz.func267 Tryz.ntmps267 fun w0 F0=>?_;dsimp only [St.init,number,Nat.reduceAdd]
 refine zN ?_
 refine W.ret (fin1 rfl rfl (Ap ?_) rfl)
 simp
theorem ao2 (a b:Int):aU Tryz.prog 240 [.sc (.int .i64 a),.sc (.int .i64 b)] (.sc (.int .i64 (cmI a b))):=by
 have h1:=acN a
 have h2:=acN b
 by_cases hlt:a < b
 ·rw [show cmI a b=-1 from if_pos hlt]
  exact al3
 ·by_cases hgt:b < a
  ·rw [show cmI a b=1 by unfold cmI;rw [if_neg hlt,if_pos hgt]]
   exact al3
  ·rw [show cmI a b=0 by unfold cmI;rw [if_neg hlt,if_neg hgt]]
   exact al3
theorem an7 (x y:Stp):aU Tryz.prog 239 [.ag (aC x),.ag (aC y)] (.sc (.int .i64 (cmI x.1 y.1))):=by
 refine jl Tryz.func239 Tryz.ntmps239 fun w0 F0=>?_;dsimp only [St.init,number,Nat.reduceAdd]
 refine nK ?_
 refine WL.vl rfl (WV.call rfl (ak Tryz.func240 rfl rfl) rfl rfl (ao2 x.1 y.1)) ?_
 refine nK ?_
 exact W.ret vS
theorem Kw {l:List Stp} (ha:l.Pairwise fun x y=>x.1<y.1) {i j:Nat} (h:i<j)(hj:j<l.length):aU Tryz.prog 239 [.ag (aC l[j]),.ag (aC (l[i]'(by omega)))] (.sc (.int .i64 1)):=by
 have hlt:=List.pairwise_iff_getElem.1 ha i j (by omega) hj h
 have:=an7 l[j] (l[i]' au)
 rw [show cmI l[j].1 (l[i]'(by omega)).1=1 by unfold cmI;rw [if_neg (by omega),if_pos hlt]] at this
 exact this
theorem FZ {l:List Stp} {z:Int} {k:Nat} (hz:z.toNat=k)(h:k<l.length):(l.map aC)[z.toNat]?=some (aC l[k]):=by
 rw [hz,bT,aI h];rfl
theorem aua (l:List Stp) (ha:l.Pairwise fun x y=>x.1 < y.1) (hl:l.length≤100) :
  jI jE 0 Tryz.prog 280 [.sl 0,.sc (.int .i64 0),.sc (.int .i64 l.length),.sc (.func (.func 239) #[] #[])] [(0,.row 69 5 (l.map aC))] 1 (.tu []) [(0,.row 69 5 (l.map aC))] 1:=by
 have hRl:(l.map aC).length=l.length:=aH _
 refine jI.intro kV Tryz.func280 rfl Tryz.ntmps280 (bU rfl) rfl fun w0 F0 fp pg hB=>?_
 refine gB ?_
 refine aqe ?_
 refine W.loop (fun k:Nat=>1≤k) (fun k=>⟨[(0,.sl 0),(1,.sc (.int .i64 0)),(2,.sc (.int .i64 l.length)),(3,.sc (.func (.func 239) #[] #[])),(8,.sc (.int .i64 k))],[(0,.row 69 5 (l.map aC))],1⟩) (fun k=>l.length - k) 1 au (zqt id) fun k hk=>?_
 by_cases hlt:k < l.length
 ·have hC:=Kw ha (show k - 1 < k by omega) hlt
  have r1:=FZ (l:=l) (z:=(k:Int)) (k:=k) au hlt
  have r0:=FZ (l:=l) (z:=(k:Int) - 1) (k:=k - 1) au au
  obtain ⟨R,hR⟩:∃ z,l.map aC=z:=⟨_,rfl⟩
  rw [hR] at hRl r1 r0 ⊢
  refine TF ?_
  refine W.loop (fun u:Unit=>True) (fun _=>⟨[(0,.sl 0),(1,.sc (.int .i64 0)),(2,.sc (.int .i64 l.length)),(3,.sc (.func (.func 239) #[] #[])),(8,.sc (.int .i64 k)),(9,.sc (.int .i64 k))],[(0,.row 69 5 R)],1⟩) (fun _=>0) () trivial (zqt id) fun u hu=>?_
  refine TF ?_
  refine iF ?_
  refine aqC ?_
  refine DK.vl rfl (WV.yU (dL _) rfl (ak Tryz.func239 rfl rfl) rfl rfl rfl rfl rfl hC.g) ?_
  refine Gm ?_
  refine TF ?_
  exact TN
 ·refine TF ?_
  exact sQ rfl rfl rfl rfl rfl
theorem ao5 (l:List Stp) (ha:l.Pairwise fun x y=>x.1 < y.1) (hl:l.length≤100) (h1:1≤l.length) :
  jI jE 0 Tryz.prog 285 [.sl 0,.sc (.int .i64 0),.sc (.int .i64 l.length),.sc (.func (.func 239) #[] #[])] [(0,.row 69 5 (l.map aC))] 1 (.sc (.bool true)) [(0,.row 69 5 (l.map aC))] 1:=by
 have hRl:(l.map aC).length=l.length:=aH _
 refine jI.intro kV Tryz.func285 rfl Tryz.ntmps285 (bU rfl) rfl fun w0 F0 fp pg hB=>?_
 refine gB ?_
 refine aqe ?_
 refine W.loop (fun u:Unit=>True) (fun _=>⟨[(0,.sl 0),(1,.sc (.int .i64 0)),(2,.sc (.int .i64 l.length)),(3,.sc (.func (.func 239) #[] #[])),(9,.sc (.int .i64 1)),(10,.sc (.int .i64 0))],[(0,.row 69 5 (l.map aC))],1⟩) (fun _=>0) () trivial (zqt id) fun u hu=>?_
 refine MS ?_
 refine W.loop (fun k:Nat=>1≤k∧k≤l.length) (fun k=>⟨[(0,.sl 0),(1,.sc (.int .i64 0)),(2,.sc (.int .i64 l.length)),(3,.sc (.func (.func 239) #[] #[])),(9,.sc (.int .i64 k)),(10,.sc (.int .i64 0))],[(0,.row 69 5 (l.map aC))],1⟩) (fun k=>l.length - k) 1 au (zqt id) fun k hk=>?_
 by_cases hlt:k < l.length
 ·have hC:=Kw ha (show k - 1 < k by omega) hlt
  have r1:=FZ (l:=l) (z:=(k:Int)) (k:=k) au hlt
  have r0:=FZ (l:=l) (z:=(k:Int) - 1) (k:=k - 1) au au
  obtain ⟨R,hR⟩:∃ z,l.map aC=z:=⟨_,rfl⟩
  rw [hR] at hRl r1 r0 ⊢
  refine MS ?_
  refine iF ?_
  refine aqC ?_
  refine DK.vl rfl (WV.yU (dL _) rfl (ak Tryz.func239 rfl rfl) rfl rfl rfl rfl rfl hC.g) ?_
  refine Gm ?_
  refine MS ?_
  exact TN
 ·obtain rfl:k=l.length:=by omega
  refine MS ?_
  refine iF ?_
  refine Gm ?_
  refine MS ?_
  refine W.tr (σ':=⟨[(8,.sc (.bool true))],[(0,.row 69 5 (l.map aC))],1⟩) (zqt id) ?_
  exact jX
theorem ajo (l:List Stp) (ha:l.Pairwise fun x y=>x.1 < y.1) (i j:Nat) (h:i < j) (hj:j < l.length) (hl:l.length≤100) :
  jI jE 0 Tryz.prog 297 [.sl 0,.sc (.int .i64 i),.sc (.int .i64 j),.pt 1 0 0,.sc (.func (.func 239) #[] #[])] [(0,.row 69 5 (l.map aC)),(1,.box 3 [.sc (.int .i64 0)])] 2
   (.tu [.sc (.int .i64 i),.sc (.int .i64 j)]) [(0,.row 69 5 (l.map aC)),(1,.box 3 [.sc (.int .i64 0)])] 2:=by
 have hRl:(l.map aC).length=l.length:=aH _
 have hC:=Kw ha h hj
 have r1:=FZ (l:=l) (z:=(j:Int)) (k:=j) au hj
 have r0:=FZ (l:=l) (z:=(i:Int)) (k:=i) au au
 obtain ⟨R,hR⟩:∃ z,l.map aC=z:=⟨_,rfl⟩
 rw [hR] at hRl r1 r0 ⊢
 refine jI.intro kV Tryz.func297 rfl Tryz.ntmps297 (bU rfl) rfl fun w0 F0 fp pg hB=>?_
 refine gB ?_
 refine aui ?_
 refine iF ?_
 refine ac2 ?_
 refine DK.lda rfl rfl r1 rfl ?_
 refine ac2 ?_
 refine DK.lda rfl rfl r0 rfl ?_
 refine ac2 ?_
 refine DK.vl rfl (WV.yU (dL _) rfl (ak Tryz.func239 rfl rfl) rfl rfl rfl rfl rfl hC.g) ?_
 refine ac2 ?_
 refine auj ?_
 exact W.ret (Au rfl rfl rfl rfl rfl)
theorem aub (l:List Stp) (ha:l.Pairwise fun x y=>x.1 < y.1) (i j k:Nat) (h:i < j) (h2:j < k) (hk:k < l.length) (hl:l.length≤100) :
  jI jE 0 Tryz.prog 296 [.sl 0,.sc (.int .i64 i),.sc (.int .i64 j),.sc (.int .i64 k),.pt 1 0 0,.sc (.func (.func 239) #[] #[])] [(0,.row 69 5 (l.map aC)),(1,.box 3 [.sc (.int .i64 0)])] 2
   (.sc (.int .i64 j)) [(0,.row 69 5 (l.map aC)),(1,.box 3 [.sc (.int .i64 0)])] 2:=by
 have c1:=ajo l ha i j h au hl
 have c2:=ajo l ha j k h2 hk hl
 refine jI.intro kV Tryz.func296 rfl Tryz.ntmps296 (bU rfl) rfl fun w0 F0 fp pg hB=>?_
 refine gB ?_
 refine nK ?_
 refine WL.qo (dL _) [0,1] rfl rfl (ak Tryz.func297 rfl rfl) c1 rfl rfl rfl ⟨⟨rfl,rfl,rfl⟩,⟨rfl,rfl,rfl⟩,trivial⟩ rfl rfl rfl rfl ?_
 refine nK ?_
 refine WL.qo (dL _) [0,1] rfl rfl (ak Tryz.func297 rfl rfl) c2 rfl rfl rfl ⟨⟨rfl,rfl,rfl⟩,⟨rfl,rfl,rfl⟩,trivial⟩ rfl rfl rfl rfl ?_
 refine nK ?_
 refine WL.qo (dL _) [0,1] rfl rfl (ak Tryz.func297 rfl rfl) c1 rfl rfl rfl ⟨⟨rfl,rfl,rfl⟩,⟨rfl,rfl,rfl⟩,trivial⟩ rfl rfl rfl rfl ?_
 refine nK ?_
 exact W.ret (Au rfl rfl rfl rfl rfl)
theorem aue (l:List Stp) (ha:l.Pairwise fun x y=>x.1 < y.1) (h1:12 < l.length) (hl:l.length≤14) :
  jI jE 0 Tryz.prog 283 [.sl 0,.sc (.int .i64 0),.sc (.int .i64 l.length),.sc (.func (.func 239) #[] #[])] [(0,.row 69 5 (l.map aC))] 1
   (.tu [.sc (.int .i64 6),.sc (.int .i64 1)]) [(0,.row 69 5 (l.map aC))] 1:=by
 have c1:=aub l ha 3 6 9 au au au au
 have hn:l.length=13∨l.length=14:=by omega
 rcases hn with hn|hn
 all_goals
  rw [hn]
  refine jI.intro kV Tryz.func283 rfl Tryz.ntmps283 (bU rfl) rfl fun w0 F0 fp pg hB=>?_
  refine gB ?_
  refine ajp ?_
  refine WL.qo (dL _) [0,1] rfl rfl (ak Tryz.func296 rfl rfl) c1 rfl rfl rfl ⟨⟨rfl,rfl,rfl⟩,⟨rfl,rfl,rfl⟩,trivial⟩ rfl rfl rfl rfl ?_
  refine ajp ?_
  refine W.tr (σ':=⟨[(8,.sc (.int .i64 6)),(9,.sc (.int .i64 1))],[(0,.row 69 5 (l.map aC))],1⟩) (zqt id) ?_
  exact W.ret (Au rfl rfl rfl rfl rfl)
theorem aud (l:List Stp) (ha:l.Pairwise fun x y=>x.1 < y.1) (hl:l.length≤14) (z:Int) (hz:12 < l.length→z≠0) :
  jI jE 0 Tryz.prog 265 [.sl 0,.sc (.int .i64 0),.sc (.int .i64 l.length),.sc (.int .i64 z),.sc (.func (.func 239) #[] #[])] [(0,.row 69 5 (l.map aC))] 1 (.tu []) [(0,.row 69 5 (l.map aC))] 1:=by
 by_cases h:l.length≤12
 ·have c:=aua l ha au
  refine jI.intro kV Tryz.func265 rfl Tryz.ntmps265 (bU rfl) rfl fun w0 F0 fp pg hB=>?_
  refine gB ?_
  refine C9 ?_
  refine W.loop (fun u:Unit=>True) (fun _=>⟨[(0,.sl 0),(1,.sc (.int .i64 0)),(2,.sc (.int .i64 l.length)),(3,.sc (.int .i64 z)),(4,.sc (.func (.func 239) #[] #[])),(10,.sc (.bool true)),(11,.sc (.bool true))],[(0,.row 69 5 (l.map aC))],1⟩) (fun _=>0) () trivial (zqt id) fun u hu=>?_
  refine C9 ?_
  refine WL.qo (dL _) [0] rfl rfl (ak Tryz.func280 rfl rfl) c rfl rfl rfl ⟨⟨rfl,rfl,rfl⟩,trivial⟩ rfl rfl rfl rfl ?_
  refine C9 ?_
  exact jX
 ·have c:=aue l ha au hl
  have c2:=ao5 l ha au au
  have hz0:=hz au
  refine jI.intro kV Tryz.func265 rfl Tryz.ntmps265 (bU rfl) rfl fun w0 F0 fp pg hB=>?_
  refine gB ?_
  refine C9 ?_
  refine W.loop (fun u:Unit=>True) (fun _=>⟨[(0,.sl 0),(1,.sc (.int .i64 0)),(2,.sc (.int .i64 l.length)),(3,.sc (.int .i64 z)),(4,.sc (.func (.func 239) #[] #[])),(10,.sc (.bool true)),(11,.sc (.bool true))],[(0,.row 69 5 (l.map aC))],1⟩) (fun _=>0) () trivial (zqt id) fun u hu=>?_
  refine C9 ?_
  refine WL.qo (dL _) [0] rfl rfl (ak Tryz.func283 rfl rfl) c rfl rfl rfl ⟨⟨rfl,rfl,rfl⟩,trivial⟩ rfl rfl rfl rfl ?_
  refine C9 ?_
  refine WL.qo (dL _) [0] rfl rfl (ak Tryz.func285 rfl rfl) c2 rfl rfl rfl ⟨⟨rfl,rfl,rfl⟩,trivial⟩ rfl rfl rfl rfl ?_
  refine C9 ?_
  exact jX
def bL(n:Nat):Int:=if n=0 then 0 else if n<2 then 1 else if n<4 then 2 else if n<8 then 3 else 4
theorem axW {n:Nat} (h:12<n):bL n≠0:=by
 unfold bL
 rw [if_neg (by omega),if_neg (by omega),if_neg (by omega),if_neg (by omega)];decide
theorem ahh (n:Nat) (hn:n≤14):aU Tryz.prog 276 [.sc (.int .u64 n)] (.sc (.int .i64 (bL n))):=by
 obtain rfl|rfl|rfl|rfl|rfl|rfl|rfl|rfl|rfl|rfl|rfl|rfl|rfl|rfl|rfl:n=0∨n=1∨n=2∨n=3∨n=4∨n=5∨n=6∨n=7∨n=8∨n=9∨n=10∨n=11∨n=12∨n=13∨n=14:=by omega
 all_goals
  refine jl Tryz.func276 Tryz.ntmps276 fun w0 F0=>?_;dsimp only [St.init,number,Nat.reduceAdd]
  refine TG ?_
  refine WL.cvt rfl rfl rfl rfl ?_
  refine TG ?_
  refine WL.six rfl rfl (by decide) ?_
  refine TG ?_
  first|refine WL.cvt (m:=0) rfl rfl rfl Nj ?_|refine WL.cvt (m:=1) rfl rfl rfl Nj ?_|refine WL.cvt (m:=2) rfl rfl rfl Nj ?_|refine WL.cvt (m:=3) rfl rfl rfl Nj ?_|refine WL.cvt (m:=4) rfl rfl rfl Nj ?_
  refine TG ?_
  exact W.ret vS
theorem awM {n:Nat} (h:n≤14):IntKind.u64.wrap (n:Int)=(n:Int):=by
 obtain rfl|rfl|rfl|rfl|rfl|rfl|rfl|rfl|rfl|rfl|rfl|rfl|rfl|rfl|rfl:n=0∨n=1∨n=2∨n=3∨n=4∨n=5∨n=6∨n=7∨n=8∨n=9∨n=10∨n=11∨n=12∨n=13∨n=14:=by omega
 all_goals rfl
theorem X6 (n:Nat) (hn:n≤14):aU Tryz.prog 266 [.sc (.int .u64 n)] (.sc (.int .i64 (bL n))):=by
 have h:=ahh n hn
 refine jl Tryz.func266 Tryz.ntmps266 fun w0 F0=>?_;dsimp only [St.init,number,Nat.reduceAdd]
 refine ajq ?_
 refine WL.vl rfl (bZ Tryz.func276 h) ?_
 refine ajq ?_
 exact W.ret vS
theorem acO (l:List Stp) (ha:l.Pairwise fun x y=>x.1 < y.1) (hl:l.length≤14) :
  jI jE 0 Tryz.prog 238 [.sl 0,.sc (.func (.func 239) #[] #[])] [(0,.row 69 5 (l.map aC))] 1 (.tu []) [(0,.row 69 5 (l.map aC))] 1:=by
 have hRl:(l.map aC).length=l.length:=aH _
 have c:=aud l ha hl (bL l.length) axW
 have cb:=X6 l.length hl
 obtain ⟨z,hz⟩:∃ z,bL l.length=z:=⟨_,rfl⟩
 rw [hz] at c cb
 refine jI.intro kV Tryz.func238 rfl Tryz.ntmps238 (bU rfl) rfl fun w0 F0 fp pg hB=>?_
 refine gB ?_
 refine TI ?_
 refine WL.cvt rfl rfl rfl (awM hl) ?_
 refine TI ?_
 refine WL.vl rfl (bZ Tryz.func266 cb) ?_
 refine TI ?_
 refine WL.qo (dL _) [0] rfl rfl (ak Tryz.func265 rfl rfl) c rfl rfl rfl ⟨⟨rfl,rfl,rfl⟩,trivial⟩ rfl rfl rfl rfl ?_
 refine TI ?_
 exact sQ rfl rfl rfl rfl rfl
end Go.Proofs.YthehkchjdkdbiaaGreatDoor
