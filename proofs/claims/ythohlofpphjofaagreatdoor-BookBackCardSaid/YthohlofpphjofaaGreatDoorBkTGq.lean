/- Titles: program and reference. -/
import Derived.Test.YthohlofpphjofaaGreatDoorDelGq
import Derived.Test.YthohlofpphjofaaGreatDoorGZGq
set_option maxHeartbeats 8000000
set_option maxRecDepth 100000
set_option linter.unusedVariables false
set_option linter.unusedSimpArgs false
namespace Go.Proofs.YthohlofpphjofaaGreatDoor
theorem aef {p:Prop}(h:p:=by
 refine vM ?_
 simp only [ek,hc]
 refine uM ?_
 exact W.ret vJ):p:=h
theorem ad7 {p:Prop}(h:p:=by
 rw [dI,aB h]at h2
 simpa using h2):p:=h
theorem ai4 {p:Prop}(h:p:=by
 have e:iH t=false:=by unfold iH;rw [dW (by omega)];rfl
 rw [e]
 refine jc Tryz.func71 Tryz.ntmps71 fun w0 F0=>?_;dsimp only [St.init,number,Nat.reduceAdd]
 refine uM ?_
 exact W.ret vJ):p:=h
section
open Go.RowKit
theorem Xp (n:Int):Ctr Tryz.prog 120 [.sc (.int .i64 n)] (.sc (.int .i64 (if n < 1∨16 < n then 1 else 0))):=by
 by_cases h:n < 1∨16 < n
 ·rw [if_pos h]
  have h2:n < 1∨(¬ n < 1∧16 < n):=by omega
  rcases h2 with h2|h2
  all_goals
   refine jc Tryz.func120 Tryz.ntmps120 fun w0 F0=>?_;dsimp only [St.init,number,Nat.reduceAdd]
   refine Ut ?_
   exact W.ret vJ
 ·rw [if_neg h]
  refine jc Tryz.func120 Tryz.ntmps120 fun w0 F0=>?_;dsimp only [St.init,number,Nat.reduceAdd]
  refine Ut ?_
  exact W.ret vJ
def aaN(p:aN)(n:Int):Int:=if aO p=0 then(if n<1∨16<n then 1 else 0)else aO p
def aaO(p:aN)(n:Int):List Int:=if aaN p n=0 then aob p n else []
theorem akx {p:aN} (h0:aO p=0) {k:Nat} {x:Stp} (hx:Nb p k x):0≤xk p.cs p.st x.1 x.2.1∧xk p.cs p.st x.1 x.2.1≤254:=by
 obtain⟨hI,_,_⟩:=fK h0
 obtain⟨l1,l2,l3,l4,l5⟩:=jK hI
 have hc:=hx.aQ
 have hk:(x.1-1).toNat<p.cs.length:=by omega
 have hp:=aah l5 _ hk
 have hfr:=BN l5 _ hk
 have ef:dS p.cs x.1=p.cs[(x.1-1).toNat].2.1:=by
  exact UJ
 have hf:=hx.ajB
 rw [ef] at hf
 unfold xk
 rw [dI,aB hk]
 simp only [EO]
 split
 ·have hs:(x.2.1-1).toNat<p.st.length:=by omega
  have:=kE (ni 0) l4 _ hs
  rw [dI,aB hs]
  simp only [EO]
  omega
 ·omega
theorem VG {p:aN} (h0:aO p=0) {k:Nat}:∀ (l:List Stp)(n:Int),(∀ x∈l,Nb p k x)→-1≤n∧n≤254→-1≤Oh p l n∧Oh p l n≤254
 | [],n,_,h=>h
 | x::r,n,hl,h=>by
  have:=akx h0 (hl x (by simp))
  refine VG h0 r _ (fun y hy=>hl y qV) ?_
  show -1≤upP n (xk p.cs p.st x.1 x.2.1)∧upP n (xk p.cs p.st x.1 x.2.1)≤254
  unfold upP
  split<;>omega
theorem akk {p:aN} (h0:aO p=0):∀ x∈BD p,-1≤x∧x≤254:=by
 intro x hx
 obtain ⟨e,he,rfl⟩:=List.mem_map.1 hx
 obtain ⟨k,hk,rfl⟩:=fZ he
 exact VG h0 _ _ (kM h0 hk).stops ⟨by decide,by decide⟩
theorem Pm (p:aN) (hO:fH p) (n:Int):Ctr Tryz.prog 65 [eF p,.sc (.int .i64 n)] (.tu [.ls 1 ((aaO p n).map eInt),.sc (.int .i64 (aaN p n))]):=by
 have hn3:=hO.n3
 by_cases h0:aO p=0
 rotate_left
 ·have e1:aaN p n=aO p:=if_neg h0
  have e2:aaO p n=[]:=if_neg (by rw [e1];exact h0)
  have hM:=Rl p hO h0
  rw [e2,e1]
  obtain ⟨E,hE⟩:∃ E,aO p=E:=⟨_,rfl⟩
  rw [hE] at hM h0 ⊢
  refine jc Tryz.func65 Tryz.ntmps65 fun w0 F0=>?_;dsimp only [St.init,number,Nat.reduceAdd]
  refine acW ?_
  refine WL.vl rfl (bU Tryz.func119 hM) ?_
  refine Uw ?_
  exact U1
 have e1:aaN p n=if n < 1∨16 < n then 1 else 0:=if_pos h0
 have hC:=Xp n
 have hM:=Yf p hO h0
 have hml:(BD p).length≤420:=by unfold BD;simp;omega
 by_cases hn:n < 1∨16 < n
 ·rw [if_pos hn] at hC e1
  have e2:aaO p n=[]:=if_neg (by rw [e1];decide)
  rw [e2,e1]
  refine jc Tryz.func65 Tryz.ntmps65 fun w0 F0=>?_;dsimp only [St.init,number,Nat.reduceAdd]
  refine acW ?_
  refine WL.cto (truH _) [] rfl rfl (callF Tryz.func119 rfl rfl) hM rfl rfl rfl trivial rfl rfl rfl rfl ?_
  refine Uw ?_
  refine WL.vl rfl (bU Tryz.func120 hC) ?_
  refine Uw ?_
  exact U1
 rw [if_neg hn] at hC e1
 have e2:aaO p n=(Bj (IQ p)).take n.toNat:=if_pos e1
 have hD:=aju (BD p) aj
 have hs:(BD p).filter zQ=IQ p:=rfl
 rw [hs] at hD
 have hbd:∀ x∈IQ p,-1≤x∧x≤254:=fun x hx=>akk h0 x (List.mem_filter.1 hx).1
 have hsl:(IQ p).length≤420:=by have:=List.length_filter_le zQ (BD p);rw [hs] at this;omega
 rw [e2,e1]
 obtain ⟨L,hL⟩:∃ L,IQ p=L:=⟨_,rfl⟩
 rw [hL] at hD hbd hsl ⊢
 refine jc Tryz.func65 Tryz.ntmps65 fun w0 F0=>?_;dsimp only [St.init,number,Nat.reduceAdd]
 refine acW ?_
 refine WL.cto (truH _) [] rfl rfl (callF Tryz.func119 rfl rfl) hM rfl rfl rfl trivial rfl rfl rfl rfl ?_
 refine Uw ?_
 refine WL.vl rfl (bU Tryz.func120 hC) ?_
 refine Uw ?_
 refine WL.cto (truH _) [1] rfl rfl (callF Tryz.func121 rfl rfl) hD rfl rfl rfl ⟨⟨rfl,rfl,rfl⟩,trivial⟩ rfl rfl rfl rfl ?_
 refine acW ?_
 refine W.tr (Tr.freeze 2 rfl) ?_
 refine W.tr (Tr.nil (t:=9) 3 1 rfl rfl) ?_
 refine Qu ?_
 refine W.loop (fun k:Nat=>k≤n.toNat∧k≤L.length) (fun k=>⟨[(1,.sc (.int .i64 n)),(6,.ls 1 (L.map eInt)),(9,.sl 0),(10,.sc (.int .i64 ((k+1:Nat):Int)))],[(0,.row 3 1 (((Bj L).take k).map eInt))],1⟩) (fun k=>L.length - k) 0 ⟨by omega,by omega⟩ (mP (fun q=>bif Nat.beq q 0 then 3 else q) BK rfl) fun k hk=>?_
 obtain ⟨hk1,hk2⟩:=hk
 have hdl:=zM L
 by_cases hlt:k+1 < L.length∧k+1≤n.toNat
 ·obtain ⟨hlt,hlt2⟩:=hlt
  have ez:(((k+1:Nat):Int) - 1).toNat=k:=by omega
  have b1:=hbd L[k+1] (fA _)
  have b2:=hbd (L[k]'(by omega)) (fA _)
  have hcat:=Xu (l:=L) (i:=k) hlt
  refine Uw ?_
  refine W.dm [] aK aK aK FD ?_
  refine amA ?_
  have eL:∀ h,L[(((k+1:Nat):Int) - 1).toNat]'h=L[k]'(by omega):=fun h=>by simp only [ez]
  simp only [eL]
  refine amA ?_
  refine acW ?_
  refine ⟨k+1,⟨by omega,by omega⟩,by omega,?_⟩
  rw [hcat]
  exact (mP (fun q=>bif Nat.beq q 0 then 2 else q) (by repeat (first|exact trivial|refine ⟨⟨?_,?_,?_⟩,?_⟩|rfl|exact congrArg (fun q=>some (AO.row _ _ q)) (by rw [gK];rfl))) rfl)
 ·have hres:(Bj L).take n.toNat=(Bj L).take k:=by
   by_cases h:k+1≤n.toNat
   ·rw [lC (by omega),lC (by omega)]
   ·rw [show n.toNat=k by omega]
  rw [hres]
  have hc:¬ k+1 < L.length∨(k+1 < L.length∧¬ k+1≤n.toNat):=by omega
  rcases hc with hc|⟨hc,hc2⟩
  all_goals
   refine Uw ?_
   refine W.tr (Tr.freeze 0 rfl) ?_
   exact W.ret (finN rfl rfl rfl rfl)
theorem acT {t:List UInt8} {k:Nat} (h:k<t.length)(h1:(t.take k).all JE=true)(h2:JE (t.getD k 0)=true):(t.take (k+1)).all JE=true:=by
 rw [gq h,List.all_append,h1]
 exact ad7
theorem ak0 {t:List UInt8} {k:Nat} (h:k<t.length)(h2:JE (t.getD k 0)=false):t.all JE=false:=by
 rw [List.all_eq_false]
 refine⟨t[k],fA h,?_⟩
 exact ad7
theorem Iy (t:List UInt8) (hl:t.length≤1000000):Ctr Tryz.prog 71 [.sc (.string (bs t))] (.sc (.bool (iH t))):=by
 by_cases h1:t.length < 1
 ·exact ai4
 by_cases h2:t.length > 60
 ·exact ai4
 have e0:decide (1≤t.length∧t.length≤60)=true:=fQ aj
 have ez:((0:Int)).toNat=0:=rfl
 have el:(((t.length:Nat):Int) - 1).toNat=t.length - 1:=by omega
 obtain ⟨c0,hc0⟩:∃ c,((t.getD 0 0).toNat:Int)=c:=⟨_,rfl⟩
 obtain ⟨c1,hc1⟩:∃ c,((t.getD (t.length - 1) 0).toNat:Int)=c:=⟨_,rfl⟩
 by_cases h3:c0=32
 ·have e:iH t=false:=by unfold iH;rw [e0,hc0,h3];rfl
  rw [e]
  refine jc Tryz.func71 Tryz.ntmps71 fun w0 F0=>?_;dsimp only [St.init,number,Nat.reduceAdd]
  refine vM ?_
  simp only [ez,hc0]
  refine uM ?_
  exact W.ret vJ
 by_cases h4:c1=32
 ·have e:iH t=false:=by unfold iH;rw [e0,hc0,hc1,h4];simp
  rw [e]
  refine jc Tryz.func71 Tryz.ntmps71 fun w0 F0=>?_;dsimp only [St.init,number,Nat.reduceAdd]
  refine vM ?_
  simp only [ez,hc0]
  refine vM ?_
  simp only [el,hc1]
  refine uM ?_
  exact W.ret vJ
 have e:iH t=t.all JE:=by
  unfold iH;rw [e0,hc0,hc1];simp [h3,h4]
 rw [e]
 refine jc Tryz.func71 Tryz.ntmps71 fun w0 F0=>?_;dsimp only [St.init,number,Nat.reduceAdd]
 refine vM ?_
 simp only [ez,hc0]
 refine vM ?_
 simp only [el,hc1]
 refine uM ?_
 refine W.loop (fun k:Nat=>k≤t.length∧(t.take k).all JE=true) (fun k=>⟨[(0,.sc (.string (bs t))),(3,.sc (.int .i64 k))],[],0⟩) (fun k=>t.length - k) 0 ⟨by omega,by simp⟩ (zqt id) fun k hk=>?_
 obtain ⟨hk,hall⟩:=hk
 by_cases hlt:k < t.length
 rotate_left
 ·obtain rfl:k=t.length:=by omega
  rw [fE] at hall
  rw [hall]
  refine uM ?_
  exact W.ret vJ
 have ek:((k:Nat):Int).toNat=k:=dB k
 have hst:=fun h=>acT hlt hall h
 have hno:=fun h=>ak0 hlt h
 have hch:JE (t.getD k 0)=(decide (32≤((t.getD k 0).toNat:Int)) && decide (((t.getD k 0).toNat:Int)≤126)):=rfl
 obtain ⟨c,hc⟩:∃ c,((t.getD k 0).toNat:Int)=c:=⟨_,rfl⟩
 rw [hc] at hch
 rw [hch] at hst hno
 by_cases h5:c < 32
 ·rw [hno (by rw [dW (by omega)];rfl)]
  exact aef
 by_cases h6:c > 126
 ·rw [hno (by rw [dW (show ¬ c≤126 by omega)];simp)]
  refine vM ?_
  simp only [ek,hc]
  exact aef
 have hnext:=hst (by rw [fQ (show 32≤c by omega),fQ (show c≤126 by omega)];rfl)
 refine vM ?_
 simp only [ek,hc]
 refine vM ?_
 simp only [ek,hc]
 refine uM ?_
 exact ⟨k+1,⟨by omega,hnext⟩,by omega,(zqt id)⟩
end
end Go.Proofs.YthohlofpphjofaaGreatDoor
