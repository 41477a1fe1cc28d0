/- The reader of the reference: a stop is put in its place, the list handed out. -/
import Derived.Test.YthohlofpphjofaaGreatDoorNrTLq
set_option maxHeartbeats 4000000
set_option maxRecDepth 100000
set_option linter.unusedVariables false
set_option linter.unusedSimpArgs false
namespace Go.Proofs.YthohlofpphjofaaGreatDoor
open Go.RowKit
theorem ar2 {p:Prop}(h:p:=by
 refine Rn ?_;have azt:prt R ((RK.length:Nat):Int) (R.length:Int)=PP:=by rw [htl];exact hPP
 refine aym ?_;refine lQ ?_;refine aV.bd rfl rfl rfl ⟨rfl,trivial⟩ (λ_=>⟨rfl,trivial⟩) ?_;refine aV.ap rfl rfl (by show RK.length+1<=1000000000;omega) ⟨rfl,trivial⟩ (λ_=>⟨rfl,trivial⟩) ?_;refine lQ ?_;refine akW ?_;rw [azt];refine aV.ap rfl rfl (by simp;omega) ⟨rfl,trivial⟩ (λ_=>⟨rfl,trivial⟩) ?_;refine aV.mv rfl rfl rfl rfl rfl rfl ⟨rfl,trivial⟩ (λh=>by cases h) ?_;refine aV.nil ?_;refine Jm ?_;refine W.tr (σ':=⟨[(4,.sl 0)],[(0,.row 69 5 (RK++[[.sc (.int .i64 c),.sc (.int .i64 f),.sc (.int .i64 r),.sc (.int .i64 g),.sc (.int .i64 h)]]++PP))],1⟩) (ku (λq=>bif Nat.beq q 0 then 4 else q) mJ rfl) ?_;exact W.ret (BN rfl rfl rfl rfl rfl)):p:=h
theorem aym {p q:Prop}(k:q)(h:iF q->p:=by
 intro hq;refine Jm ?_;refine W.pK aK ?_;refine WA.dt [false,false,true,true,false,false,false,true,true] [0] [0] 8 aK aK aK ⟨rfl,trivial⟩ ⟨rfl,trivial⟩ ?_;exact hq.k):p:=h ⟨k⟩
theorem afN (l:List Stp) (x:Stp) (hl:l.length<=400000):jr jJ 0 Tryz.prog 230 [.ls 5 (l.map bI),.ag (bI x)] [] 0 (.sl 0) [(0,.row 69 5 ((tJ l x).map bI))] 1:=by
 have hspec:=λk=>MF (l:=l) (x:=x) (k:=k);have hml:(l.map bI).length=l.length:=bK _;have JA:∀ k (h:k < l.length),(l.map bI)[((k:Nat):Int).toNat]?=some (bI l[k]):=λk h=>by exact RI
 have VW:∀ k (h:k < l.length),(l.map bI).take (k+1)=(l.map bI).take k++[bI l[k]]:=λk h=>by rw [kF (by rw [hml];exact h)];simp
 obtain ⟨c,f,r,g,h⟩:=x;have hfin:∀ k,tJ l (c,f,r,g,h)=l.take k++(c,f,r,g,h)::l.drop k->(tJ l (c,f,r,g,h)).map bI=(l.map bI).take k++[[.sc (.int .i64 c),.sc (.int .i64 f),.sc (.int .i64 r),.sc (.int .i64 g),.sc (.int .i64 h)]]++prt (l.map bI) (k:Int) ((l.map bI).length:Int):=λk e=>by
  rw [e];unfold prt;rw [gy,gy,jw,iC,AB,Uy,Q7];show _++_::_=_;rw [vg];rfl
 obtain ⟨RR,hRR⟩:∃ z,(tJ l (c,f,r,g,h)).map bI=z:=⟨_,rfl⟩;rw [hRR] at hfin ⊢;obtain ⟨R,hR⟩:∃ z,l.map bI=z:=⟨_,rfl⟩;rw [hR] at hml JA VW hfin ⊢;unfold bI;dsimp only at hspec ⊢;refine jr.intro mG Tryz.func230 rfl Tryz.ntmps230 (bG rfl) rfl λw0 F0 fp pg hB=>?_;refine iU ?_;refine Jm ?_;refine W.tr (Tr.nil (t:=5) 69 5 rfl rfl) ?_;refine W.loop (λk:Nat=>k<=l.length/\∀ j (hj:j < l.length),j < k->l[j].1 < c) (λk=>⟨[(0,.ls 5 R),(3,.pt 0 0 0),(5,.sl 1),(6,.sc (.int .i64 (k:Int)))],[(0,.box 69 [.sc (.int .i64 c),.sc (.int .i64 f),.sc (.int .i64 r),.sc (.int .i64 g),.sc (.int .i64 h)]),(1,.row 69 5 (R.take k))],2⟩) (λk=>l.length - k) 0 ⟨by omega,λj hj h=>absurd h au⟩ (zqt id) λk hk=>?_;obtain ⟨hk,hall⟩:=hk;have htl:(R.take k).length=k:=by rw [jT];omega
 by_cases hlt:k < l.length
 .have hat:=JA k hlt;have hrow:=VW k hlt;by_cases hc:l[k].1 < c
  .have hnx:∀ j (hj:j < l.length),j < k+1->l[j].1 < c:=λj hj hjk=>by
    by_cases e:j=k;.subst e;exact hc
    .exact hall j hj au
   obtain ⟨⟨c',f',r',g',h'⟩,hx⟩:∃ z,l[k]=z:=⟨_,rfl⟩;rw [hx] at hat hrow hc;unfold bI at hat hrow;dsimp only at hat hrow hc;obtain ⟨RK,hRK⟩:∃ z,R.take k=z:=⟨_,rfl⟩;rw [hRK] at htl hrow ⊢;clear hall hspec hfin JA VW;refine Jm ?_;refine iY ?_;refine Rn ?_;refine DK.idx rfl rfl au hat ?_;refine Rn ?_;refine Jm ?_;refine Om ?_;refine Jm ?_;refine ⟨k+1,⟨by omega,hnx⟩,by omega,?_⟩;rw [hrow];exact aqo
  .have hres:=hfin k (hspec k hk (λj hj hjk=>hall j hj hjk) λ_=>hc);obtain ⟨⟨c',f',r',g',h'⟩,hx⟩:∃ z,l[k]=z:=⟨_,rfl⟩;rw [hx] at hat hc;unfold bI at hat;dsimp only at hat hc;obtain ⟨RK,hRK⟩:∃ z,R.take k=z:=⟨_,rfl⟩;rw [hRK] at htl hres ⊢;clear hall hspec hfin JA VW hrow;rw [hres];obtain ⟨PP,hPP⟩:∃ z,prt R (k:Int) (R.length:Int)=z:=⟨_,rfl⟩;rw [hPP];have hPl:PP.length<=400000:=by rw [← hPP];unfold prt;simp;omega
   refine Jm ?_;refine iY ?_;refine Rn ?_;refine DK.idx rfl rfl au hat ?_;exact ar2
 .obtain rfl:k=l.length:=by omega
  have hres:=hfin l.length (hspec l.length hk (λj hj hjk=>hall j hj hjk) λh=>absurd h au);obtain ⟨RK,hRK⟩:∃ z,R.take l.length=z:=⟨_,rfl⟩;rw [hRK] at htl hres ⊢;clear hall hspec hfin JA VW;rw [hres];obtain ⟨PP,hPP⟩:∃ z,prt R (l.length:Int) (R.length:Int)=z:=⟨_,rfl⟩;rw [hPP];have hPl:PP.length<=400000:=by rw [← hPP];unfold prt;simp;omega
  refine Jm ?_;refine iY ?_;exact ar2
end Go.Proofs.YthohlofpphjofaaGreatDoor
