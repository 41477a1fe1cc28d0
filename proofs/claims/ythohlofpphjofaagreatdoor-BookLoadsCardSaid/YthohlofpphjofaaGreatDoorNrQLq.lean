/- The reader of the reference: a chord. (Under way.) -/
import Derived.Test.YthohlofpphjofaaGreatDoorNr5Lq
import Derived.Test.YthohlofpphjofaaGreatDoorNrYLq
import Derived.Test.YthohlofpphjofaaGreatDoorNr7Lq
set_option maxHeartbeats 8000000
set_option maxRecDepth 100000
set_option linter.unusedVariables false
set_option linter.unusedSimpArgs false
namespace Go.Proofs.YthohlofpphjofaaGreatDoor
open Go.RowKit
theorem amN {p:Prop}(h:p:=by
 refine ak5 ?_;refine aV.v0 rfl (aS Tryz.func229 hpc) ?_;refine jl ?_;refine aV.al rfl rfl rfl rfl trivial (λ_=>trivial) ?_;refine aV.xq rfl rfl rfl rfl rfl rfl rfl rfl rfl rfl rfl rfl rfl rfl trivial (λh=>by cases h) ?_;refine A8 ?_;refine zl ?_;exact ar0):p:=h
theorem amJ {p:Prop}(h:p:=by
 clear f2;refine YN ?_;refine ak5 ?_;refine aV.v0 rfl (aS Tryz.func229 hpc) ?_;refine jl ?_;refine aV.al rfl rfl rfl rfl trivial (λ_=>trivial) ?_;refine aV.xq rfl rfl rfl rfl rfl rfl rfl rfl rfl rfl rfl rfl rfl rfl trivial (λh=>by cases h) ?_;refine A8 ?_;refine avy ?_;exact ar0):p:=h
theorem UZ {p:Prop}(h:p:=by
 refine ak5 ?_;refine aV.v0 rfl (aS Tryz.func229 hpc) ?_;refine jl ?_;refine aV.al rfl rfl rfl rfl trivial (λ_=>trivial) ?_;refine aV.xq rfl rfl rfl rfl rfl rfl rfl rfl rfl rfl rfl rfl rfl rfl trivial (λh=>by cases h) ?_;refine A8 ?_;refine avy ?_;refine WL.qQ (dD _) [] rfl rfl (aj Tryz.func230 rfl rfl) hi rfl rfl rfl trivial rfl rfl rfl rfl ?_;refine zl ?_;refine ⟨k+1,⟨by omega,d1⟩,by omega,?_⟩;rw [d3];exact aqo):p:=h
theorem ar0 {p:Prop}(h:p:=by
 refine arR ?_;exact W.ret (iD (σ':=⟨[(6,.sl 0),(7,.sc (.bool false))],[(0,.row 69 5 [])],1⟩) (ku (λq=>bif Nat.beq q 0 then 3 else q) mJ rfl) (BN rfl rfl rfl rfl rfl))):p:=h
theorem ak5 {p q:Prop}(k:q)(h:iF q->p:=by
 intro hq;refine aAD ?_;refine jl ?_;refine ayk ?_;refine jl ?_;refine ayt ?_;exact hq.k):p:=h ⟨k⟩
theorem ak3 {p q:Prop}(k:q)(h:iF q->p:=by
 intro hq;refine avy ?_;refine WL.idx rfl rfl au at7 ?_;refine zl ?_;exact hq.k):p:=h ⟨k⟩
theorem ayt {p q:Prop}(k:q)(h:iF q->p:=by
 intro hq;refine ayl ?_;refine mM ?_;exact hq.k):p:=h ⟨k⟩
theorem arR {p q:Prop}(k:q)(h:iF q->p:=by
 intro hq;refine W.tr (Tr.nil (t:=6) 69 5 rfl rfl) ?_;exact hq.k):p:=h ⟨k⟩
theorem YR {p q:Prop}(k:q)(h:iF q->p:=by
 intro hq;dsimp only [Option.getD,Option.isSome,List.map];exact hq.k):p:=h ⟨k⟩
theorem ayl {p q:Prop}(k:q)(h:iF q->p:=by
 intro hq;refine aV.v0 rfl (sV rfl au at7) ?_;exact hq.k):p:=h ⟨k⟩
theorem ayk {p q:Prop}(k:q)(h:iF q->p:=by
 intro hq;refine aV.v0 rfl (sV rfl au aoO) ?_;exact hq.k):p:=h ⟨k⟩
theorem YN {p q:Prop}(k:q)(h:iF q->p:=by
 intro hq;refine zl ?_;refine WL.idx rfl rfl au aoO ?_;exact hq.k):p:=h ⟨k⟩
theorem avy {p q:Prop}(k:q)(h:iF q->p:=by
 intro hq;refine zl ?_;refine WL.idx rfl rfl au aoO ?_;refine zl ?_;exact hq.k):p:=h ⟨k⟩
theorem aAD {p q:Prop}(k:q)(h:iF q->p:=by
 intro hq;refine zl ?_;refine W.pK aK ?_;refine WA.dt [false,false,false,false,false,false,false,false,false,false,false,false,false,true,true,false] [] [] 14 aK aK aK trivial trivial ?_;exact hq.k):p:=h ⟨k⟩
theorem aaD (s:Int) (hs:1<=s/\s<=4) (cs:List Crs) (st:List Int) (hcs:cs.length<=64) (words:List (List UInt8)) (hw:words.length<=400000) (hb:uT s (aA s cs) words.length) :jr jJ 0 Tryz.prog 169 [.sc (.int .u8 s),.ag (jc cs st),.ls 1 (words.map aX)] [] 0 (.tu [.sl 0,.sc (.bool (pF s (aA s cs) words).isSome)]) [(0,.row 69 5 ((((pF s (aA s cs) words).getD []).map mg).map bI))] 1:=by
 rw [afV hb];have hS:=Qy s hs cs st hcs words.length hw;rw [if_pos hb,bW (λh=>h hb)] at hS;unfold jc at hS ⊢;refine YR ?_;have hml:(words.map aX).length=words.length:=bK _;obtain ⟨R,hR⟩:∃ z,words.map aX=z:=⟨_,rfl⟩;rw [hR] at hml ⊢;rw [← hml] at hS;refine jr.intro mG Tryz.func169 rfl Tryz.ntmps169 (bG rfl) rfl λw0 F0 fp pg hB=>?_;refine iU ?_;refine arp ?_;refine WL.vl rfl (aS Tryz.func228 hS) ?_;refine arp ?_;refine arR ?_;exact W.ret (iD (σ':=⟨[(6,.sl 0),(7,.sc (.bool false))],[(0,.row 69 5 [])],1⟩) (ku (λq=>bif Nat.beq q 0 then 1 else q) mJ rfl) (BN rfl rfl rfl rfl rfl))
theorem Qw (s:Int) (hs:1<=s/\s<=4) (cs:List Crs) (st:List Int) (hcs:cs.length<=64) (words:List (List UInt8)) (hw:words.length<=390000) (hwl:∀ w∈words,w.length<=400000) (hb:¬ uT s (aA s cs) words.length){P:Nat->Prop} {LL:Nat->List N5} {la:Nat->Nat} {RR:Option (List N5)} (H:as4 s (aA s cs) words P LL la RR) :jr jJ 0 Tryz.prog 169 [.sc (.int .u8 s),.ag (jc cs st),.ls 1 (words.map aX)] [] 0 (.tu [.sl 0,.sc (.bool (RR).isSome)]) [(0,.row 69 5 ((((RR).getD []).map mg).map bI))] 1:=by
 have hS:=Qy s hs cs st hcs words.length au;rw [if_neg hb,bQ hb] at hS;obtain ⟨n6,n4⟩:=qY s cs;unfold jc at hS ⊢;obtain ⟨⟨p0,hL0,hl0⟩,as1,ag7,Hon,ag8,as2,aqt,Hlen⟩:=H;obtain ⟨n,hn⟩:∃ z,aA s cs=z:=⟨_,rfl⟩;rw [hn] at hS hb n6 n4 as1 ag7 Hon ag8 as2;have hml:(words.map aX).length=words.length:=bK _;have atH:∀ k (h:k < words.length),(words.map aX)[((k:Nat):Int).toNat]?=some (aX words[k]):=λk h=>by exact RI
 have hSl:((jH s n words.length words.length).map eInt).length=words.length:=by rw [bK,Fg]
 have atE:∀ k (h:k < words.length),((jH s n words.length words.length).map eInt)[((k:Nat):Int).toNat]?=some (eInt (eH s n words.length k)):=λk h=>by
  rw [gy,dw];unfold jH;rw [dw,Uk h];rfl
 have axc:∀ k (h:k < words.length),0<=eH s n words.length k/\eH s n words.length k<=6/\(s=4->eH s n words.length k=0):=λk h=>by
  refine ⟨aaO h,?_,λh4=>?_⟩;.unfold eH;split<;>(try split)<;>omega
  .have:=n4 h4;unfold eH;split<;>(try split)<;>omega
 obtain ⟨m,hm⟩:∃ z,words.length=z:=⟨_,rfl⟩;obtain ⟨R,hR⟩:∃ z,words.map aX=z:=⟨_,rfl⟩;rw [hR] at hml atH ⊢;obtain ⟨SP,hSP⟩:∃ z,(jH s n words.length words.length).map eInt=z:=⟨_,rfl⟩;rw [hSP] at hS hSl atE;rw [← hml] at hS;refine jr.intro mG Tryz.func169 rfl Tryz.ntmps169 (bG rfl) rfl λw0 F0 fp pg hB=>?_;refine iU ?_;refine zl ?_;refine WL.vl rfl (aS Tryz.func228 hS) ?_;refine zl ?_;refine W.tr (Tr.nil (t:=10) 69 5 rfl rfl) ?_;refine W.loop (λk:Nat=>k<=words.length/\P k) (λk=>⟨[(0,.sc (.int .u8 s)),(2,.ls 1 R),(8,.ls 1 SP),(10,.sl 1),(11,.sc (.int .i64 (la k:Int))),(12,.sc (.int .i64 (k:Int)))],[(1,.row 69 5 (((LL k).map mg).map bI))],2⟩) (λk=>words.length - k) 0 ⟨by omega,p0⟩ (by rw [hL0,hl0];exact (zqt id)) λk hk=>?_;obtain ⟨hk,hP⟩:=hk;have hLk:=Hlen k;have Y0:(((LL k).map mg).map bI).length=(LL k).length:=by rw [bK,bK]
 by_cases hlt:k < words.length;rotate_left
 .obtain rfl:k=words.length:=by omega
  rw [aqt hP];by_cases hnil:LL words.length=[]
  .rw [if_pos hnil,hnil];refine YR ?_;refine zl ?_;exact W.ret (iD (σ':=⟨[(6,.sl 0),(7,.sc (.bool false))],[(0,.row 69 5 [])],1⟩) (ku (λq=>bif Nat.beq q 0 then 1 else q) mJ rfl) (BN rfl rfl rfl rfl rfl))
  .rw [if_neg hnil];dsimp only [Option.getD,Option.isSome];have hpos:0 < (LL words.length).length:=List.length_pos_iff.2 hnil;obtain ⟨RL,hRL⟩:∃ z,((LL words.length).map mg).map bI=z:=⟨_,rfl⟩;rw [hRL] at Y0;rw [hRL];refine zl ?_;exact W.ret (iD (σ':=⟨[(6,.sl 0),(7,.sc (.bool true))],[(0,.row 69 5 RL)],1⟩) (ku (λq=>bif Nat.beq q 0 then 1 else q) mJ rfl) (BN rfl rfl rfl rfl rfl))
 have at7:=atH k hlt;have aoO:=atE k hlt;obtain ⟨sp1,sp2,sp3⟩:=axc k hlt;have h1:=as1 k hlt hP;have h2:=ag7 k hlt hP;have h3:=λx=>Hon k hlt x hP;have h4:=λx=>ag8 k hlt x hP;have h5:=λx=>as2 k hlt x hP;have hwk:=hwl words[k] (gB hlt);obtain ⟨spv,az0⟩:∃ z,eH s n words.length k=z:=⟨_,rfl⟩;rw [az0] at aoO sp1 sp2 sp3 h1 h2 h3 h4 h5;have azZ:aJ s spv=0:=by exact abS
 have hins:=λx=>afN ((LL k).map mg) (mg x) (by rw [bK];omega);have Iq:=λx=>I4 (LL k) x;obtain ⟨w,hww⟩:∃ z,words[k]=z:=⟨_,rfl⟩;rw [hww] at at7 h1 h2 h3 h4 h5 hwk;have hpc:=O6 s spv w azZ hwk;clear as1 ag7 Hon ag8 as2 aqt Hlen atH atE axc;obtain ⟨RL,hRL⟩:∃ z,((LL k).map mg).map bI=z:=⟨_,rfl⟩;rw [hRL] at Y0 hins ⊢;obtain ⟨LA,hLA⟩:∃ z,la k=z:=⟨_,rfl⟩;rw [hLA] at h2 h3 h4 h5 ⊢;by_cases hsp:0 < spv
 .by_cases hd:w=[45]
  .obtain ⟨d1,d2,d3⟩:=h2 hsp hd;have hbt:(w == ([45]:List UInt8))=true:=by rw [hd];rfl
   clear h1 h2 h3 h4 h5 hins Iq hpc;refine ak3 ?_;rw [hbt];refine zl ?_;refine ⟨k+1,⟨by omega,d1⟩,by omega,?_⟩;rw [d2,d3,hRL];exact (zqt id)
  .have hbf:(w == ([45]:List UInt8))=false:=by simpa using hd
   cases hc:iP s spv w with
   | none =>
    rw [h1 (λq=>hd q.2) hc];rw [hc] at hpc;unfold MG at hpc;refine YR ?_;dsimp only at hpc;clear h1 h2 h3 h4 h5 hins Iq;refine F5 ?_;refine ak3 ?_;rw [hbf];exact amN| some x =>
    obtain ⟨d1,d2,d3⟩:=h3 x hsp hd hc;rw [hc] at hpc;unfold MG at hpc;have hi:=hins x;have hi2:=Iq x;obtain ⟨xc,xf,xr,xg,xh⟩:=x;dsimp only at hpc;rw [hi2,← d2] at hi;unfold mg bI at hi;dsimp only at hi;clear h1 h2 h3 h4 h5 hins Iq hi2;refine F5 ?_;refine ak3 ?_;rw [hbf];exact UZ
 obtain rfl:spv=0:=by omega
 cases hc:iP s 0 w with
 | none =>
  rw [h1 (λq=>by omega) hc];rw [hc] at hpc;unfold MG at hpc;refine YR ?_;dsimp only at hpc;clear h1 h2 h3 h4 h5 hins Iq;refine F5 ?_;refine YN ?_;exact amN| some x =>
  have h4:=h4 x rfl hc;have h5:=h5 x rfl hc;rw [hc] at hpc;unfold MG at hpc;have hi:=hins x;have hi2:=Iq x;obtain ⟨xc,xf,xr,xg,xh⟩:=x;dsimp only at hpc h4 h5;by_cases hf:0 < LA/\(s=2/\LA<=xc\/s≠2/\xc<=LA)
  .rw [h4 hf.1 hf.2];refine YR ?_;clear h1 h2 h3 h4 h5 hins Iq hi2 hi;refine F5 ?_;obtain ⟨f1,f2⟩:=hf;by_cases s2:s=2
   .subst s2;have f3:LA<=xc:=by omega
    exact amJ
   .have f3:xc<=LA:=by omega
    exact amJ
  .obtain ⟨d1,d2,d3⟩:=h5 hf;rw [hi2,← d2] at hi;unfold mg bI at hi;dsimp only at hi;clear h1 h2 h3 h4 h5 hins Iq hi2;refine F5 ?_;by_cases l0:LA=0
   .subst l0;refine YN ?_;exact UZ
   by_cases s2:s=2
   .subst s2;have f3:xc < LA:=by omega
    clear hf;refine YN ?_;exact UZ
   .have f3:LA < xc:=by omega
    clear hf;refine YN ?_;exact UZ
theorem ajt (s:Int)(hs:1<=s/\s<=4)(cs:List Crs)(st:List Int)(hcs:cs.length<=64)(words:List (List UInt8))(hw:words.length<=390000)(hwl:∀ w∈words,w.length<=400000) :jr jJ 0 Tryz.prog 169 [.sc (.int .u8 s),.ag (jc cs st),.ls 1 (words.map aX)] [] 0 (.tu [.sl 0,.sc (.bool (pF s (aA s cs) words).isSome)]) [(0,.row 69 5 ((((pF s (aA s cs) words).getD []).map mg).map bI))] 1:=by
 by_cases hb:uT s (aA s cs) words.length;.exact aaD s hs cs st hcs words au hb
 .obtain⟨n6,n4⟩:=qY s cs;have hn:=(ajM hb).1;by_cases s2:s=2
  .subst s2;exact Qw 2 hs cs st hcs words hw hwl hb (ajI hn n6)
  .exact Qw s hs cs st hcs words hw hwl hb (ajJ s2 hn n6 n4)
end Go.Proofs.YthohlofpphjofaaGreatDoor
