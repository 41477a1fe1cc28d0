/- piece.Alike of the program: pieces with the same notes, ties and onsets are alike. -/
import Derived.Test.YthehkchjdkdbiaaGreatDoorOnfKq
set_option maxHeartbeats 8000000
set_option maxRecDepth 100000
set_option linter.unusedVariables false
set_option linter.unusedSimpArgs false
namespace Go.Proofs.YthehkchjdkdbiaaGreatDoor
open Go.RowKit
theorem ak6 {p:Prop}(h:p:=by
 ·obtain rfl:k=l.length:=by omega
  refine ajs ?_
  exact W.ret vS):p:=h
theorem adC (l m:List Int) (h1:l.length≤100000) (h2:m.length≤100000):aU Tryz.prog 71 [.ls 1 (l.map eInt),.ls 1 (m.map eInt)] (.sc (.bool (decide (l=m)))):=by
 by_cases hl:l.length=m.length
 rotate_left
 ·rw [cZ fun e=>hl (by rw [e])]
  refine jl Tryz.func71 Tryz.ntmps71 fun w0 F0=>?_;dsimp only [St.init,number,Nat.reduceAdd]
  exact Ny
 refine jl Tryz.func71 Tryz.ntmps71 fun w0 F0=>?_;dsimp only [St.init,number,Nat.reduceAdd]
 refine MR ?_
 refine W.loop (fun k:Nat=>k≤l.length∧∀ i (hi:i < k) (h1:i < l.length) (h2:i < m.length),l[i]=m[i]) (fun k=>⟨[(0,.ls 1 (l.map eInt)),(1,.ls 1 (m.map eInt)),(12,.sc (.int .i64 l.length)),(13,.sc (.int .i64 k))],[],0⟩) (fun k=>l.length - k) 0 ⟨by omega,fun i hi=>by omega⟩ (zqt id) fun k hk=>?_
 obtain ⟨hk,hsame⟩:=hk
 by_cases hlt:k < l.length
 ·have hlt2:k < m.length:=by omega
  by_cases he:l[k]=m[k]
  ·have hd:decide (l[k]=m[k])=true:=dG he
   refine MR ?_
   refine iF ?_
   refine Np ?_
   rw [hd]
   refine MR ?_
   refine ⟨k+1,⟨by omega,fun i hi a b=>?_⟩,by omega,(zqt id)⟩
   by_cases e:i=k
   ·subst e;exact he
   ·exact hsame i au a b
  ·have hd:decide (l[k]=m[k])=false:=cZ he
   rw [cZ fun e=>he (by subst e;rfl)]
   refine MR ?_
   refine iF ?_
   refine Np ?_
   rw [hd]
   exact Ny
 ·have e:l=m:=fZ hl fun i a b=>hsame i (by omega) a b
  rw [dG e]
  exact Ny
theorem afU (x:Stp):aU Tryz.prog 74 [.ag (aC x),.ag (aC x)] (.sc (.bool true)):=by
 obtain ⟨c,f,r,g,h⟩:=x
 unfold aC
 dsimp only
 refine jl Tryz.func74 Tryz.ntmps74 fun w0 F0=>?_;dsimp only [St.init,number,Nat.reduceAdd]
 refine azs ?_
 exact W.ret vS
theorem amA (l:List Stp) (hl:l.length≤1000):aU Tryz.prog 73 [.ls 5 (l.map aC),.ls 5 (l.map aC),.sc (.func (.func 74) #[] #[])] (.sc (.bool true)):=by
 refine jl Tryz.func73 Tryz.ntmps73 fun w0 F0=>?_;dsimp only [St.init,number,Nat.reduceAdd]
 refine ajs ?_
 refine W.loop (fun k:Nat=>k≤l.length) (fun k=>⟨[(1,.ls 5 (l.map aC)),(2,.sc (.func (.func 74) #[] #[])),(15,.ls 5 (l.map aC)),(16,.sc (.int .i64 l.length)),(17,.sc (.int .i64 k))],[],0⟩) (fun k=>l.length - k) 0 au (zqt id) fun k hk=>?_
 by_cases hlt:k < l.length
 ·have h1:=afU l[k]
  refine ajs ?_
  refine WL.vl rfl (WV.yU (dL _) rfl (ak Tryz.func74 rfl rfl) rfl rfl rfl rfl rfl h1.g) ?_
  refine aju ?_
  exact TN
 exact ak6
theorem amx (e f:Ev) (h:jf e=jf f) (hl:e.stops.length≤20):aU Tryz.prog 72 [.ag (dI e),.ag (dI f)] (.sc (.bool true)):=by
 have hS:=amA e.stops au
 obtain ⟨b1,v1,d1,t1,i1,l1⟩:=e
 obtain ⟨b2,v2,d2,t2,i2,l2⟩:=f
 obtain ⟨h1,h2⟩:=Prod.mk.inj (show (l1,i1)=(l2,i2) from h)
 subst h1 h2
 unfold dI abf
 dsimp only at hS ⊢
 refine jl Tryz.func72 Tryz.ntmps72 fun w0 F0=>?_;dsimp only [St.init,number,Nat.reduceAdd]
 refine Xu ?_
 refine WL.apS rfl rfl rfl rfl (fun hp=>?_) (fun hp=>absurd hp (by simp))
 refine Xu ?_
 refine WL.vl rfl (bZ Tryz.func73 hS) ?_
 refine Xu ?_
 exact W.ret vS
theorem amy (l m:List Ev) (h:l.map jf=m.map jf) (hl:l.length≤1000) (h20:∀ e∈l,e.stops.length≤20):aU Tryz.prog 61 [.ls 6 (l.map dI),.ls 6 (m.map dI),.sc (.func (.func 72) #[] #[])] (.sc (.bool true)):=by
 have hlm:l.length=m.length:=by have:=congrArg List.length h;simpa using this
 have hat:∀ k (hk:k < l.length),jf l[k]=jf (m[k]' au):=fun k hk=>by
  have:=congrArg (fun z=>z[k]?) h
  simp only [bT,aI hk,aI (show k < m.length by omega),oM] at this
  exact Ns
 refine jl Tryz.func61 Tryz.ntmps61 fun w0 F0=>?_;dsimp only [St.init,number,Nat.reduceAdd]
 refine ajs ?_
 refine W.loop (fun k:Nat=>k≤l.length) (fun k=>⟨[(1,.ls 6 (m.map dI)),(2,.sc (.func (.func 72) #[] #[])),(15,.ls 6 (l.map dI)),(16,.sc (.int .i64 l.length)),(17,.sc (.int .i64 k))],[],0⟩) (fun k=>l.length - k) 0 au (zqt id) fun k hk=>?_
 by_cases hlt:k < l.length
 ·have hlt2:k < m.length:=by omega
  have h1:=amx l[k] m[k] (hat k hlt) (h20 _ (dS hlt))
  refine ajs ?_
  refine WL.vl rfl (WV.yU (dL _) rfl (ak Tryz.func72 rfl rfl) rfl rfl rfl rfl rfl h1.g) ?_
  refine aju ?_
  exact TN
 exact ak6
theorem aeR (p q:aS) (hp:jm p) (hq:jm q) (h1:aV p=0) (h2:aV q=0) (hc:q.cs=p.cs) (hs:q.st=p.st) (he:q.evs.map jf=p.evs.map jf) (ho:uw q.evs q.evs.length=uw p.evs p.evs.length) :
  aU Tryz.prog 25 [bK p,bK q] (.sc (.bool true)):=by
 have hI:=PK p.cs p.st q.cs q.st hp.n1 hp.n2 hq.n1 hq.n2
 have hd:tV p.cs p.st q.cs q.st=true:=dG ⟨hc.symm,hs.symm⟩
 rw [hd] at hI
 have hn:=hp.n3
 have hE:=amy p.evs q.evs he.symm au (fun e h=>by
  obtain ⟨k,hk,rfl⟩:=eu h
  exact hp.n4 k hk)
 have hO1:=KF p hp
 have hO2:=KF q hq
 rw [if_pos h1,h1] at hO1
 rw [if_pos h2,h2,ho] at hO2
 have hol:(uw p.evs p.evs.length).length≤1000:=by rw [He];omega
 have hq2:=adC (uw p.evs p.evs.length) (uw p.evs p.evs.length) au au
 rw [dG rfl] at hq2
 obtain ⟨OL,hOL⟩:∃ z,(uw p.evs p.evs.length).map eInt=z:=⟨_,rfl⟩
 rw [hOL] at hO1 hO2 hq2
 unfold bK at hO1 hO2 ⊢
 refine jl Tryz.func25 Tryz.ntmps25 fun w0 F0=>?_;dsimp only [St.init,number,Nat.reduceAdd]
 refine afG ?_
 refine WL.vl rfl (bZ Tryz.func70 hO1) ?_
 refine afG ?_
 refine WL.vl rfl (bZ Tryz.func70 hO2) ?_
 refine afG ?_
 refine WL.vl rfl (bZ Tryz.func60 hI) ?_
 refine afG ?_
 refine WL.vl rfl (bZ Tryz.func71 hq2) ?_
 refine afG ?_
 refine WL.vl rfl (bZ Tryz.func61 hE) ?_
 refine afG ?_
 exact W.ret vS
end Go.Proofs.YthehkchjdkdbiaaGreatDoor
