/- Load of the program. (RWN.) -/
import Derived.Test.YthohlofpphjofaaGreatDoorLdKLq
set_option maxHeartbeats 16000000
set_option maxRecDepth 100000
set_option linter.unusedVariables false
set_option linter.unusedSimpArgs false
namespace Go.Proofs.YthohlofpphjofaaGreatDoor
section
variable {p:Prop}
theorem anl(h:p:=by
 refine aV.xq rfl rfl rfl rfl rfl rfl rfl rfl rfl rfl rfl rfl rfl rfl ⟨rfl,trivial⟩ (λh=>by cases h) ?_;refine lQ ?_;refine aV.nil ?_;refine ⟨rfl,?_⟩;refine (?_:WL _ _ _ _ _ _);refine qc ?_;exact Ov):p:=h
theorem am6(h:p:=by
 first|refine W.tr (Tr.freeze 2 rfl) ?_|refine WL.tr (Tr.freeze 2 rfl) ?_
 exact gZ):p:=h
theorem Ov(h:p:=by
 first|refine W.tr (Tr.EH 0 0 5 rfl rfl rfl) ?_|refine WL.tr (Tr.EH 0 0 5 rfl rfl rfl) ?_
 exact gZ):p:=h
theorem alW(h:p:=by
 unfold prt;rw [gy,gy,jw,Q7]):p:=h
theorem asv(h:p:=by
 unfold qW qw at hc;rw [e1] at hc;refine Ol ?_;refine WL.ctb hB [1,2] rfl rfl (aj Tryz.func125 rfl rfl) hc rfl rfl rfl ⟨⟨rfl,rfl,rfl⟩,⟨rfl,rfl,rfl⟩,trivial⟩ rfl rfl rfl rfl ?_;refine qc ?_;refine ⟨_,hI,by show 0 < 2*(L.length - a)+1;omega,?_⟩;refine FZ ?_;exact (zqt id)):p:=h
theorem asr(h:p:=by
 refine mD ?_;refine WL.vl rfl (WV.dZ hB rfl (aj Tryz.func11 rfl rfl) rfl rfl hR) ?_;refine mD ?_;refine WL.qQ (dD _) [0,1] rfl rfl (aj Tryz.func124 rfl rfl) hF rfl rfl rfl ⟨⟨rfl,rfl,rfl⟩,⟨rfl,rfl,rfl⟩,trivial⟩ rfl rfl rfl rfl ?_;refine ayh ?_;exact W.ret (BN rfl rfl rfl rfl rfl)):p:=h
theorem ar9(h:p:=by
 have hat:=awR k au;have hs:=hJs k au;have hs1:=hJk (k+1);have hs2:(aC 10 (X.take k) []).length+((X[k]'(by omega)).length+1)<=65536:=by rw [hs] at hs1;simpa using hs1
 obtain ⟨J,hJJ⟩:∃ z,aC 10 (X.take k) []=z:=⟨_,rfl⟩;rw [hJJ] at hs hs2 ⊢;obtain ⟨x,hxx⟩:∃ z,X[k]' au=z:=⟨_,rfl⟩;rw [hxx] at hat hs hs2;have hx1:(x++[10]).length=x.length+1:=by simp
 refine mD ?_;refine Om ?_;refine mD ?_;refine WL.bw rfl rfl rfl (aj Tryz.func53 rfl rfl) acr au hs.symm ?_;refine mD ?_;exact ⟨k+1,by omega,by omega,(zqt id)⟩):p:=h
end
theorem UJ {p q:Prop}(k:q)(h:iF q->p:=by
 intro hq;refine iU ?_;refine Oq ?_;refine arK ?_;refine abE ?_;exact hq.k):p:=h ⟨k⟩
theorem ad6 {p q:Prop}(k:q)(h:iF q->p:=by
 intro hq;refine ayn ?_;refine abE ?_;refine mD ?_;exact hq.k):p:=h ⟨k⟩
theorem Oq {p q:Prop}(k:q)(h:iF q->p:=by
 intro hq;refine mD ?_;refine iY ?_;refine abE ?_;exact hq.k):p:=h ⟨k⟩
theorem ayn {p q:Prop}(k:q)(h:iF q->p:=by
 intro hq;refine DK.y8 rfl rfl ⟨by omega,by omega,by omega⟩ aoN ?_;exact hq.k):p:=h ⟨k⟩
theorem FZ {p q:Prop}(k:q)(h:iF q->p:=by
 intro hq;dsimp only [OI.f,OI.bx,OI.rw];exact hq.k):p:=h ⟨k⟩
theorem arN {p q:Prop}(k:q)(h:iF q->p:=by
 intro hq;refine W.xw 10 aK aK aK ?_;refine WA.dt [false,false,false,false,false,false,true,false,false,true] [3] [3] 9 aK aK aK ⟨rfl,trivial⟩ ⟨rfl,trivial⟩ ?_;exact hq.k):p:=h ⟨k⟩
theorem arK {p q:Prop}(k:q)(h:iF q->p:=by
 intro hq;refine DK.y8 rfl rfl ⟨by omega,by omega,by omega⟩ hpr ?_;exact hq.k):p:=h ⟨k⟩
theorem ayh {p q:Prop}(k:q)(h:iF q->p:=by
 intro hq;refine mD ?_;refine W.tr (σ':=⟨[(2,.sc .nilFunc)],[(0,.box 123 [.ls 1 LT,.sc (.int .i64 (a:Int)),.sl 1,.sc (.int .i64 ((a:Int)+ln)),.sc (.int .i64 e)]),(1,.row 129 5 (B++[[.sc (.string (bs tt)),.sc (.int .u8 0),.sc (.slice none 0 0),.sc (.slice none 0 0),.sc (.slice none 0 0)]]))],2⟩) (zqt id) ?_;exact hq.k):p:=h ⟨k⟩
theorem Ol {p q:Prop}(k:q)(h:iF q->p:=by
 intro hq;refine qc ?_;refine WL.vl rfl (aov rfl) ?_;refine qc ?_;exact hq.k):p:=h ⟨k⟩
theorem abE {p q:Prop}(k:q)(h:iF q->p:=by
 intro hq;repeat (first|refine DK.vl rfl (WV.IC rfl rfl) ?_|refine DK.st rfl ?_|refine DK.ar rfl rfl ax2 ?_|refine DK.len rfl rfl rfl ?_|refine DK.ixs rfl rfl wY ?_|refine DK.nil ?_)
 exact hq.k):p:=h ⟨k⟩
section
open Go.RowKit
theorem ax2 {z:Int} (h:I64 z:=by unfold I64;omega):I64 z:=h
theorem ail {R:List (List UInt8)} {n:Nat} (h:n<=jo R):∀ w∈R.take n,w≠Wu:=by
 intro w hw e;obtain ⟨k,hk,rfl⟩:=oz hw;rw [jT]at hk;rw [List.getElem_take]at e;have:=Tc (r:=R) (k:=k) au au;rw [e]at this;simp at this
theorem ae6 {R:List (List UInt8)} (h:jo R<R.length):R=R.take (jo R)++Wu::R.drop (jo R+1):=by
 have e:R[jo R]=Wu:=by simpa using S9 h
 conv=>lhs;rw [← NI (jo R) R,pX h,e]
theorem SY (L:List (List UInt8)) (R:List (List AV)) (a:Nat) (h:a<=L.length) (hl:L.length<=1000000) (hn:L.length<=a+jo (L.drop a)) :jr ng zo Tryz.prog 125 [.pt 0 0 0] [(0,qW (L.map aX) a 0 0),(1,qw R)] 2 (.sc .nilFunc) [(0,qW (L.map aX) a ((L.length:Int)+1) 4),(1,qw R)] 2:=by
 have hlen:(L.map aX).length=L.length:=bK _;have hI:=KQ (L.drop a) Wu (λw hw=>ail (R:=L.drop a) (n:=(L.drop a).length) YL w (by rw [jw];exact hw)) YL;have hF:=KU (L.map aX) R a 0 0 ((L.length:Int)+1) 4;have hpr:prt (L.map aX) (a:Int) ((L.map aX).length:Int)=(L.drop a).map aX:=by exact alW
 unfold Wu at hI;obtain ⟨LT,KG⟩:∃ z,L.map aX=z:=⟨_,rfl⟩;rw [KG] at hlen hF hpr ⊢;refine jr.intro jR Tryz.func125 rfl Tryz.ntmps125 (bG rfl) rfl λw0 F0 fp pg hB=>?_;unfold qW qw at *;refine iU ?_;refine akI ?_;refine iY ?_;refine Rz ?_;refine arK ?_;refine Rz ?_;refine DK.vl rfl (aS Tryz.func158 hI) ?_;refine Rz ?_;refine akI ?_;rw [← hlen] at hF ⊢;refine WL.qQ (dD _) [0,1] rfl rfl (aj Tryz.func124 rfl rfl) hF rfl rfl rfl ⟨⟨rfl,rfl,rfl⟩,⟨rfl,rfl,rfl⟩,trivial⟩ rfl rfl rfl rfl ?_;refine akI ?_;exact W.ret (BN rfl rfl rfl rfl rfl)
theorem acS {B:List (List AV)} {r:List AV} {j:Nat} {l:List AV} (h1:j+l.length<=r.length) (h2:l.all AV.TL=true):AO.put (.row 129 5 (B++[r])) B.length j l=some (.row 129 5 (B++[jL j l r])):=by
 have:(B++[r])[B.length]?=some r:=by simp
 unfold AO.put;dsimp only;rw [this];dsimp only;rw [if_pos ⟨h1,h2⟩];simp
theorem ae7 (L:List (List UInt8)) (B:List (List AV)) (tt:List UInt8) (a:Nat) (h:a<=L.length) (hl:L.length<=1000000) (hL:(kU L a).length<=65536) (hb:B.length<=64) (hn:¬ L.length<=a+jo (L.drop a)) :((aG (kU L a)).2.2.2≠0->jr ng zo Tryz.prog 125 [.pt 0 0 0] [(0,qW (L.map aX) a 0 0),(1,qw (B++[Gx tt]))] 2 (.sc .nilFunc) [(0,qW (L.map aX) a ((a:Int)+(aG (kU L a)).2.2.1) (aG (kU L a)).2.2.2),(1,qw (B++[Gx tt]))] 2) /\((aG (kU L a)).2.2.2=0->jr ng zo Tryz.prog 125 [.pt 0 0 0] [(0,qW (L.map aX) a 0 0),(1,qw (B++[Gx tt]))] 2 aui [(0,qW (L.map aX) ((a:Int)+((jo (L.drop a):Nat)+1)) 0 0),(1,qw (B++[yZ ⟨tt,(aG (kU L a)).1,(aG (kU L a)).2.1⟩]))] 2):=by
 have hlen:(L.map aX).length=L.length:=bK _;have hparts:=ae6 (R:=L.drop a) YL;have hne0:=ail (R:=L.drop a) (Nat.le_refl _);have hx:kU L a=aC 10 ((L.drop a).take (jo (L.drop a))) []:=rfl;obtain ⟨n,hnn⟩:∃ z,jo (L.drop a)=z:=⟨_,rfl⟩;rw [hnn] at hparts hn hx hne0 ⊢;have hJ:=hL;rw [hx] at hJ;have hI:=KP ((L.drop a).take n) ((L.drop a).drop (n+1)) Wu hne0 (by simp only [jT,vk];omega);rw [← hparts] at hI;have hTn:((L.drop a).take n).length=n:=by rw [jT,vk];omega
 rw [hTn] at hI;have hpr:prt (L.map aX) (a:Int) ((L.map aX).length:Int)=(L.drop a).map aX:=by exact alW
 have aoN:prt (L.map aX) (a:Int) ((a:Int)+n)=((L.drop a).take n).map aX:=by
  unfold prt;rw [show ((a:Int)+n).toNat=a+n by omega,gy,← Uy,← Q7,List.drop_take,Nat.add_sub_cancel_left]
 rw [hx];have hJk:∀ k,(aC 10 (((L.drop a).take n).take k) []).length<=65536:=λk=>gX (vP _ k) hJ;clear hparts hne0 hx hL;obtain ⟨X,hX⟩:∃ z,(L.drop a).take n=z:=⟨_,rfl⟩;rw [hX] at hTn hJ hJk aoN ⊢;have Zt:(X.map aX).length=n:=by rw [bK,hTn]
 have awR:∀ k (h:k < X.length),(X.map aX)[((k:Nat):Int).toNat]?=some (aX X[k]):=λk h=>zO h;have hR:=au3 (aC 10 X []) hJ;have hln:=LJ (aC 10 X []);have hJn:∀ h:0 < n,aC 10 X []≠[]:=λh e=>by
  have:=congrArg List.length e;cases X with
  | nil=>simp at hTn;omega| cons x r=>rw [iL] at this;simp at this
 have hJs:∀ k (h:k < X.length),aC 10 (X.take (k+1)) []=aC 10 (X.take k) []++(X[k]++[10]):=λk h=>Ey h;have hJ0:aC 10 (X.take n) []=aC 10 X []:=by rw [← hTn,jw]
 obtain ⟨LT,KG⟩:∃ z,L.map aX=z:=⟨_,rfl⟩;obtain ⟨XT,hXT⟩:∃ z,X.map aX=z:=⟨_,rfl⟩;obtain ⟨RT,hRT⟩:∃ z,(L.drop a).map aX=z:=⟨_,rfl⟩;rw [KG] at hlen hpr aoN ⊢;rw [hRT] at hI hpr;rw [hXT] at aoN Zt awR;unfold Wu at hI;obtain ⟨⟨s,p,ln,e⟩,hr⟩:∃ z,aG (aC 10 X [])=z:=⟨_,rfl⟩;rw [hr] at hR hln ⊢;unfold rdR at hR;dsimp only at hR hln ⊢;have hF:=KU LT (B++[Gx tt]) a 0 0 ((a:Int)+ln) e;have hBl:(B++[Gx tt]).length=B.length+1:=by simp
 have hix:(((B++[Gx tt]).length:Int) - 1).toNat=B.length:=by rw [hBl];omega
 unfold qW qw Gx at *;by_cases he:e=0;rotate_left
 .refine ⟨λ_=>?_,λk=>absurd k he⟩;by_cases hn0:n=0
  .subst hn0;have hXn:X=[]:=sN hTn;subst hXn;refine jr.intro jR Tryz.func125 rfl Tryz.ntmps125 (bG rfl) rfl λw0 F0 fp pg hB=>?_;refine UJ ?_;refine DK.vl rfl (aS Tryz.func158 hI) ?_;refine abE ?_;refine Oq ?_;refine ad6 ?_;refine W.loop (λk:Nat=>k=0) (λk=>⟨[(0,.pt 0 0 0),(3,.sc (.int .i64 ((0:Nat):Int))),(4,.pt 2 0 0),(46,.ls 1 XT),(47,.sc (.int .i64 XT.length)),(48,.sc (.int .i64 k))],[(0,.box 123 [.ls 1 LT,.sc (.int .i64 (a:Int)),.sl 1,.sc (.int .i64 0),.sc (.int .i64 0)]),(1,.row 129 5 (B++[[.sc (.string (bs tt)),.sc (.int .u8 0),.sc (.slice none 0 0),.sc (.slice none 0 0),.sc (.slice none 0 0)]])),(2,.box 103 [.sc (.pointer none),.sc (.slice none 0 0)])],3⟩) (λk=>k) 0 rfl (zqt id) λk hk=>?_;subst hk;refine mD ?_;refine WL.vl rfl (WV.as8 rfl (aj Tryz.func55 rfl rfl) rfl rfl λw b=>ahf w b _) ?_;exact asr
  .have hn0:0 < n:=by omega
   refine jr.intro jR Tryz.func125 rfl Tryz.ntmps125 (bG rfl) rfl λw0 F0 fp pg hB=>?_;refine UJ ?_;refine DK.vl rfl (aS Tryz.func158 hI) ?_;refine abE ?_;refine mD ?_;first|refine W.tr (Tr.vK 2 5 rfl) ?_|refine WL.tr (Tr.vK 2 5 rfl) ?_
   dsimp only [St.upd];refine Oq ?_;refine ad6 ?_;refine W.loop (λk:Nat=>k<=n) (λk=>⟨[(0,.pt 0 0 0),(3,.sc (.int .i64 (n:Int))),(4,.pt 2 0 0),(46,.ls 1 XT),(47,.sc (.int .i64 XT.length)),(48,.sc (.int .i64 k))],[(0,.box 123 [.ls 1 LT,.sc (.int .i64 (a:Int)),.sl 1,.sc (.int .i64 0),.sc (.int .i64 0)]),(1,.row 129 5 (B++[[.sc (.string (bs tt)),.sc (.int .u8 0),.sc (.slice none 0 0),.sc (.slice none 0 0),.sc (.slice none 0 0)]])),(2,.vK 103 5 (aC 10 (X.take k) []))],3⟩) (λk=>n - k) 0 au (zqt id) λk hk=>?_;by_cases hkn:k < n;.exact ar9
   obtain rfl:k=n:=by omega
   rw [hJ0];refine mD ?_;refine WL.bs rfl rfl rfl (aj Tryz.func55 rfl rfl) RX (hJn au) ?_;exact asr
 .subst he;refine ⟨λk=>absurd rfl k,λ_=>?_⟩;clear hF;unfold aui;by_cases hn0:n=0
  .subst hn0;have hXn:X=[]:=sN hTn;subst hXn;refine jr.intro jR Tryz.func125 rfl Tryz.ntmps125 (bG rfl) rfl λw0 F0 fp pg hB=>?_;refine UJ ?_;refine DK.vl rfl (aS Tryz.func158 hI) ?_;refine abE ?_;refine Oq ?_;refine ad6 ?_;refine W.loop (λk:Nat=>k=0) (λk=>⟨[(0,.pt 0 0 0),(3,.sc (.int .i64 ((0:Nat):Int))),(4,.pt 2 0 0),(46,.ls 1 XT),(47,.sc (.int .i64 XT.length)),(48,.sc (.int .i64 k))],[(0,.box 123 [.ls 1 LT,.sc (.int .i64 (a:Int)),.sl 1,.sc (.int .i64 0),.sc (.int .i64 0)]),(1,.row 129 5 (B++[[.sc (.string (bs tt)),.sc (.int .u8 0),.sc (.slice none 0 0),.sc (.slice none 0 0),.sc (.slice none 0 0)]])),(2,.box 103 [.sc (.pointer none),.sc (.slice none 0 0)])],3⟩) (λk=>k) 0 rfl (zqt id) λk hk=>?_;subst hk;refine mD ?_;refine WL.vl rfl (WV.as8 rfl (aj Tryz.func55 rfl rfl) rfl rfl λw b=>ahf w b _) ?_;refine mD ?_;refine WL.vl rfl (WV.dZ hB rfl (aj Tryz.func11 rfl rfl) rfl rfl hR) ?_;refine Oq ?_;refine mD ?_;rw [hix];refine arN ?_;refine jl ?_;refine Ot ?_;refine mM ?_;refine aV.xq rfl rfl rfl rfl rfl rfl rfl rfl rfl rfl rfl rfl (acS (bG rfl) rfl) rfl ⟨rfl,trivial⟩ (λ_=>⟨rfl,trivial⟩) ?_;refine C9 ?_;refine mM ?_;refine aV.xq rfl rfl rfl rfl rfl rfl rfl rfl rfl rfl rfl rfl (acS (bG rfl) rfl) rfl ⟨rfl,trivial⟩ (λh=>by cases h) ?_;refine aV.nil ?_;refine ⟨rfl,?_⟩;refine (?_:WL _ _ _ _ _ _);refine mD ?_;refine WL.vl rfl (WV.mkb rfl rfl) ?_;refine mD ?_;refine W.tr (σ':=⟨[(2,.fn (67+1000000) [.pt 0 0 0])],[(0,.box 123 [.ls 1 LT,.sc (.int .i64 ((a:Int)+((0:Nat)+1))),.sl 1,.sc (.int .i64 0),.sc (.int .i64 0)]),(1,.row 129 5 (B++[yZ ⟨tt,s,p⟩]))],2⟩) (zqt id) ?_;exact lT
  .have hn0:0 < n:=by omega
   refine jr.intro jR Tryz.func125 rfl Tryz.ntmps125 (bG rfl) rfl λw0 F0 fp pg hB=>?_;refine UJ ?_;refine DK.vl rfl (aS Tryz.func158 hI) ?_;refine abE ?_;refine mD ?_;first|refine W.tr (Tr.vK 2 5 rfl) ?_|refine WL.tr (Tr.vK 2 5 rfl) ?_
   dsimp only [St.upd];refine Oq ?_;refine ad6 ?_;refine W.loop (λk:Nat=>k<=n) (λk=>⟨[(0,.pt 0 0 0),(3,.sc (.int .i64 (n:Int))),(4,.pt 2 0 0),(46,.ls 1 XT),(47,.sc (.int .i64 XT.length)),(48,.sc (.int .i64 k))],[(0,.box 123 [.ls 1 LT,.sc (.int .i64 (a:Int)),.sl 1,.sc (.int .i64 0),.sc (.int .i64 0)]),(1,.row 129 5 (B++[[.sc (.string (bs tt)),.sc (.int .u8 0),.sc (.slice none 0 0),.sc (.slice none 0 0),.sc (.slice none 0 0)]])),(2,.vK 103 5 (aC 10 (X.take k) []))],3⟩) (λk=>n - k) 0 au (zqt id) λk hk=>?_;by_cases hkn:k < n;.exact ar9
   obtain rfl:k=n:=by omega
   rw [hJ0];refine mD ?_;refine WL.bs rfl rfl rfl (aj Tryz.func55 rfl rfl) RX (hJn au) ?_;refine mD ?_;refine WL.vl rfl (WV.dZ hB rfl (aj Tryz.func11 rfl rfl) rfl rfl hR) ?_;refine Oq ?_;refine mD ?_;rw [hix];refine arN ?_;refine jl ?_;refine Ot ?_;refine mM ?_;refine aV.xq rfl rfl rfl rfl rfl rfl rfl rfl rfl rfl rfl rfl (acS (bG rfl) rfl) rfl ⟨rfl,trivial⟩ (λ_=>⟨rfl,trivial⟩) ?_;refine C9 ?_;refine mM ?_;refine aV.xq rfl rfl rfl rfl rfl rfl rfl rfl rfl rfl rfl rfl (acS (bG rfl) rfl) rfl ⟨rfl,trivial⟩ (λh=>by cases h) ?_;refine aV.nil ?_;refine ⟨rfl,?_⟩;refine (?_:WL _ _ _ _ _ _);refine mD ?_;refine WL.vl rfl (WV.mkb rfl rfl) ?_;refine mD ?_;refine W.tr (σ':=⟨[(2,.fn (67+1000000) [.pt 0 0 0])],[(0,.box 123 [.ls 1 LT,.sc (.int .i64 ((a:Int)+((k:Nat)+1))),.sl 1,.sc (.int .i64 0),.sc (.int .i64 0)]),(1,.row 129 5 (B++[yZ ⟨tt,s,p⟩]))],2⟩) (zqt id) ?_;exact lT
theorem auj {t:List UInt8} (h:t≠[]):([10]:List UInt8).isSuffixOf t=decide ((aH 10 t).2=[]):=by
 have hj:=lF 10 t;have hn:=(BH 10 t).2;obtain⟨⟨L,tl⟩,hF⟩:∃ z,aH 10 t=z:=⟨_,rfl⟩;rw [hF] at hj hn ⊢;dsimp only at hj hn ⊢;rw [FT,List.isSuffixOf_iff_suffix,dH];unfold aC at hj;constructor
 .rintro⟨u,hu⟩;apply Classical.byContradiction;intro ht;have h1:t.getLast?=some 10:=by rw [← hu];simp
  obtain⟨x,hx⟩:∃ x,tl.getLast?=some x:=⟨_,List.getLast?_eq_some_getLast ht⟩;rw [← hj,List.getLast?_append,hx] at h1;obtain rfl:x=10:=by simpa using h1
  exact hn _ (List.mem_of_getLast? hx) rfl
 .rintro rfl;rcases List.eq_nil_or_concat L with rfl|⟨L0,x,rfl⟩;.exact absurd hj.symm h
  .exact⟨L0.flatMap (λl=>l++[10])++x,by rw [← hj];simp⟩
theorem aeV (l:List UInt8) (h:l.length<=1000000):bC Tryz.prog 66 [.sc (.string (bs l)),.sc (.string (bs [10]))] (.sc (.bool (([10]:List UInt8).isSuffixOf l))):=by
 have hP:=ajY l [10] h;refine dV Tryz.func66 Tryz.ntmps66 λw0 F0=>?_;dsimp only [St.init,number,Nat.reduceAdd];refine akJ ?_;refine WL.vl rfl (aS Tryz.func123 hP) ?_;refine akJ ?_;exact W.ret kR
inductive OI where| tt (a:Nat)(b:List En)| pc (a:Nat)(b:List En)| er (R:List (List AV))(a ln e:Int)| ok (b:List En)
def OI.f:OI->AV
 | .tt _ _=>.fn (67+1000000) [.pt 1 0 0]| .pc _ _=>.fn (125+1000000) [.pt 1 0 0]| _=>.sc .nilFunc
def OI.bx (L:List (List UInt8)):OI->List AV
 | .tt a _=>[.ls 1 (L.map aX),.sc (.int .i64 a),.sl 2,.sc (.int .i64 0),.sc (.int .i64 0)]| .pc a _=>[.ls 1 (L.map aX),.sc (.int .i64 ((a:Int)+1)),.sl 2,.sc (.int .i64 0),.sc (.int .i64 0)]| .er _ a ln e=>[.ls 1 (L.map aX),.sc (.int .i64 a),.sl 2,.sc (.int .i64 ln),.sc (.int .i64 e)]| .ok _=>[.ls 1 (L.map aX),.sc (.int .i64 (L.length:Int)),.sl 2,.sc (.int .i64 0),.sc (.int .i64 0)]
def OI.rw (L:List (List UInt8)):OI->List (List AV)
 | .tt _ b=>b.map yZ| .pc a b=>b.map yZ++[Gx (vN L a)]| .er R _ _ _=>R| .ok b=>b.map yZ
def OI.I (L:List (List UInt8))(V:Nat->List En->Prop):OI->Prop
 | .tt a b=>a<=L.length/\b.length<=64/\mQ L 0 []=mQ L a b/\V a b| .pc a b=>a<L.length/\b.length<=63/\iw L a b=0/\mQ L 0 []=mQ L a b/\V a b| .er _ _ ln e=>mQ L 0 []=([],ln,e)/\e≠0| .ok b=>mQ L 0 []=(b,0,0)
def OI.m (L:List (List UInt8)):OI->Nat
 | .tt a _=>2*(L.length-a)+2| .pc a _=>2*(L.length-a)+1| _=>0
theorem auo:jB ng Tryz.prog 22 [.sc (.string (bs []))] (ldR (lY [])):=by
 have e:lY []=([],0,0):=by
  unfold lY;rw [if_neg (by show ¬ ([]:List UInt8)≠[];simp)];exact ZJ (Nat.le_refl _)
 rw [e];refine jB.intro jR Tryz.func22 rfl Tryz.ntmps22 (bG rfl) (dW rfl) λw0 F0 hB=>?_;dsimp only [St.init,number,Nat.reduceAdd];refine YB ?_;rw [show (([]:List UInt8) == [])=true from rfl];refine YB ?_;exact Ov
theorem auq (t:List UInt8) (ht:t.length<=999999) (V:Nat->List En->Prop) (hV0:V 0 [])(hVx:∀ a b,V a b->a < (aH 10 t).1.length->iw (aH 10 t).1 a b=0->¬ (aH 10 t).1.length<=a+1+jo ((aH 10 t).1.drop (a+1))->(kU (aH 10 t).1 (a+1)).length<=65536)(hVn:∀ a b,V a b->a < (aH 10 t).1.length->iw (aH 10 t).1 a b=0->¬ (aH 10 t).1.length<=a+1+jo ((aH 10 t).1.drop (a+1))->(aG (kU (aH 10 t).1 (a+1))).2.2.2=0->V (a+1+jo ((aH 10 t).1.drop (a+1))+1) (b++[⟨vN (aH 10 t).1 a,(aG (kU (aH 10 t).1 (a+1))).1,(aG (kU (aH 10 t).1 (a+1))).2.1⟩])):jB ng Tryz.prog 22 [.sc (.string (bs t))] (ldR (lY t)):=by
 by_cases h0:t=[];.subst h0;exact auo
 have hb0:(t == [])=false:=by simpa using h0
 have hsx:=aeV t au;rw [auj h0] at hsx;have hW:=Fv 10 t au;have hwb:=jk 10 t;have hLa:=Dk t;have hwl:(aZ 10 t).length<=1000000:=by exact aee
 unfold lY;unfold aZ at hW hwb hwl;obtain ⟨⟨L,tl⟩,hF⟩:∃ z,aH 10 t=z:=⟨_,rfl⟩;rw [hF] at hsx hW hwb hwl hLa hVx hVn ⊢;dsimp only at hsx hW hwb hwl hLa hVx hVn ⊢;rw [dS,Je] at hwl;have hml:((L++[tl]).map aX).length=L.length+1:=by simp
 have hpr:prt ((L++[tl]).map aX) 0 ((((L++[tl]).map aX).length:Int) - 1)=L.map aX:=by
  unfold prt;rw [hml,show (((L.length+1:Nat):Int) - 1).toNat=L.length by omega];simp
 obtain ⟨W0,hW0⟩:∃ z,(L++[tl]).map aX=z:=⟨_,rfl⟩;rw [hW0] at hW hml hpr;by_cases htl:tl=[];rotate_left
 .rw [if_pos htl];rw [bW htl] at hsx;rw [show (L.length:Int)+1=(W0.length:Int) by omega];refine jB.intro jR Tryz.func22 rfl Tryz.ntmps22 (bG rfl) (dW rfl) λw0 F0 hB=>?_;dsimp only [St.init,number,Nat.reduceAdd];refine qc ?_;rw [hb0];refine qc ?_;refine WL.vl rfl (WV.dZ hB rfl (aj Tryz.func38 rfl rfl) rfl rfl hW) ?_;refine qc ?_;refine WL.vl rfl (aS Tryz.func66 hsx) ?_;refine qc ?_;refine W.xw 9 aK aK aK ?_;refine WA.dt [false,false,false,false,false,false,true,false,false] [1] [1] 6 aK aK aK ⟨rfl,trivial⟩ ⟨rfl,trivial⟩ ?_;refine lQ ?_;refine C9 ?_;refine lQ ?_;refine aV.v0 rfl (vS rfl) ?_;exact anl
 subst htl;rw [if_neg (by simp)];rw [bQ rfl] at hsx;have hwL:∀ w∈L,w.length<=1000000:=λw hw=>by have:=hwb w (Ny _ hw);omega
 have hLn:L.length<=1000000:=by omega
 refine jB.intro jR Tryz.func22 rfl Tryz.ntmps22 (bG rfl) (dW rfl) λw0 F0 hB=>?_;dsimp only [St.init,number,Nat.reduceAdd];refine qc ?_;rw [hb0];refine qc ?_;refine WL.vl rfl (WV.dZ hB rfl (aj Tryz.func38 rfl rfl) rfl rfl hW) ?_;refine qc ?_;refine WL.vl rfl (aS Tryz.func66 hsx) ?_;refine qc ?_;refine W.xw 15 aK aK aK ?_;refine WA.dt [false,false,false,false,false,false,false,false,false,false,false,false,false,false,true] [] [1] 14 aK aK aK trivial ⟨rfl,trivial⟩ ?_;refine lQ ?_;refine C9 ?_;refine mM ?_;refine aV.st rfl aK rfl ?_;refine Ot ?_;refine mM ?_;refine aV.st rfl aK rfl ?_;refine aV.vl rfl aK (vS rfl) ?_;refine aV.ar rfl aK rfl ax2 ?_;refine aV.vl rfl aK (xP rfl ⟨by omega,by omega,by omega⟩) ?_;rw [hpr];refine C9 ?_;refine mM ?_;refine aV.xq rfl rfl rfl rfl rfl rfl rfl rfl rfl rfl rfl rfl rfl rfl trivial (λh=>by cases h) ?_;refine aV.nil ?_;refine ⟨rfl,?_⟩;refine (?_:WL _ _ _ _ _ _);refine qc ?_;refine WL.vl rfl (WV.mkb rfl rfl) ?_;refine qc ?_;refine W.tr (Tr.oJ (k:=1) (j:=2) 129 5 rfl rfl rfl rfl) ?_;refine W.loop (OI.I L V) (λs=>⟨[(2,.pt 0 0 0),(3,.sc (.int .i64 0)),(4,.sc (.int .i64 0)),(5,.pt 1 0 0),(6,s.f)],[(0,.box 47 [.sc (.slice none 0 0)]),(1,.box 123 (s.bx L)),(2,.row 129 5 (s.rw L))],3⟩) (OI.m L) (.tt 0 []) ⟨iT _,by simp,rfl,hV0⟩ (zqt id) λs hs=>?_;have hC:∀ {ln e:Int} {R:List (List AV)},True:=trivial;cases s with
 | tt a b =>
  obtain ⟨h1,h2,h3,hV⟩:=hs;refine FZ ?_;by_cases hlt:a < L.length;rotate_left
  .have hal:a=L.length:=by omega
   have hc:=Wx L (b.map yZ) a hal hLn;have hI:OI.I L V (.ok b):=h3.trans (ZJ au);unfold qW qw at hc;refine Ol ?_;refine WL.ctb (dD _) [1,2] rfl rfl (aj Tryz.func67 rfl rfl) hc rfl rfl rfl ⟨⟨rfl,rfl,rfl⟩,⟨rfl,rfl,rfl⟩,trivial⟩ rfl rfl rfl rfl ?_;refine qc ?_;refine ⟨.ok b,hI,by show 0 < 2*(L.length - a)+2;omega,?_⟩;refine FZ ?_;rw [← hal];exact (zqt id)
  have hT:=ae8 L b a hlt hLn hwL h2;by_cases hte:iw L a b=0
  .have hc:=hT.2 hte;have h64:=WB hte;have hI:OI.I L V (.pc a b):=⟨hlt,by omega,hte,h3,hV⟩;unfold qW aug qw auh at hc;refine Ol ?_;refine WL.ctb (dD _) [1,2] rfl rfl (aj Tryz.func67 rfl rfl) hc rfl rfl rfl ⟨⟨rfl,rfl,rfl⟩,⟨rfl,rfl,rfl⟩,trivial⟩ rfl rfl rfl rfl ?_;refine qc ?_;refine ⟨.pc a b,hI,by show 2*(L.length - a)+1 < 2*(L.length - a)+2;omega,?_⟩;refine FZ ?_;exact asH
  .have hc:=hT.1 hte;have hI:OI.I L V (.er (b.map yZ) ((a:Int)+1) ((a:Int)+1) (iw L a b)):=⟨h3.trans (KW hlt hte),hte⟩;unfold qW qw at hc;refine Ol ?_;refine WL.ctb (dD _) [1,2] rfl rfl (aj Tryz.func67 rfl rfl) hc rfl rfl rfl ⟨⟨rfl,rfl,rfl⟩,⟨rfl,rfl,rfl⟩,trivial⟩ rfl rfl rfl rfl ?_;refine qc ?_;refine ⟨_,hI,by show 0 < 2*(L.length - a)+2;omega,?_⟩;refine FZ ?_;exact (zqt id)| pc a b =>
  obtain ⟨h1,h2,h4,h3,hV⟩:=hs;refine FZ ?_;have e1:((a+1:Nat):Int)=(a:Int)+1:=by omega
  by_cases hop:L.length<=a+1+jo (L.drop (a+1))
  .have hc:=SY L (b.map yZ++[Gx (vN L a)]) (a+1) au hLn hop;have hI:OI.I L V (.er (b.map yZ++[Gx (vN L a)]) ((a:Int)+1) ((L.length:Int)+1) 4):=⟨h3.trans (acV h1 h4 hop),by decide⟩;exact asv
  have hP:=ae7 L (b.map yZ) (vN L a) (a+1) (by omega) hLn (hVx a b hV h1 h4 hop) (by rw [bK];omega) hop;by_cases he:(aG (kU L (a+1))).2.2.2=0
  .have hc:=hP.2 he;have hI:OI.I L V (.tt (a+1+jo (L.drop (a+1))+1) (b++[⟨vN L a,(aG (kU L (a+1))).1,(aG (kU L (a+1))).2.1⟩])):=⟨by omega,by rw [dS,Je];omega,h3.trans (ld_next h1 h4 hop he),hVn a b hV h1 h4 hop he⟩;have e2:((a:Int)+1)+((jo (L.drop (a+1)):Nat)+1)=((a+1+jo (L.drop (a+1))+1:Nat):Int):=by omega
   have e3:b.map yZ++[yZ (⟨vN L a,(aG (kU L (a+1))).1,(aG (kU L (a+1))).2.1⟩:En)]=(b++[(⟨vN L a,(aG (kU L (a+1))).1,(aG (kU L (a+1))).2.1⟩:En)]).map yZ:=by rw [iC];rfl
   unfold qW qw aui at hc;rw [e1,e2,e3] at hc;refine Ol ?_;refine WL.ctb hB [1,2] rfl rfl (aj Tryz.func125 rfl rfl) hc rfl rfl rfl ⟨⟨rfl,rfl,rfl⟩,⟨rfl,rfl,rfl⟩,trivial⟩ rfl rfl rfl rfl ?_;refine qc ?_;refine ⟨_,hI,by show 2*(L.length - (a+1+jo (L.drop (a+1))+1))+2 < 2*(L.length - a)+1;omega,?_⟩;refine FZ ?_;exact (zqt id)
  .have hc:=hP.1 he;have hI:OI.I L V (.er (b.map yZ++[Gx (vN L a)]) ((a:Int)+1) ((a:Int)+1+(aG (kU L (a+1))).2.2.1) (aG (kU L (a+1))).2.2.2):=⟨h3.trans (ain h1 h4 hop he),he⟩;exact asv| er R a ln e =>
  obtain ⟨h1,h2⟩:=hs;rw [h1];refine FZ ?_;refine Ol ?_;refine W.xw 12 aK aK aK ?_;refine WA.dt [false,false,false,false,false,false,false,false,false,true,false,false] [1] [1] 9 aK aK aK ⟨rfl,trivial⟩ ⟨rfl,trivial⟩ ?_;refine lQ ?_;refine C9 ?_;refine jl ?_;refine C9 ?_;refine lQ ?_;exact anl| ok b =>
  have h1:mQ L 0 []=(b,0,0):=hs;rw [h1];refine FZ ?_;refine Ol ?_;exact am6
theorem aup (t:List UInt8) (ht:t.length<=65536):jB ng Tryz.prog 22 [.sc (.string (bs t))] (ldR (lY t)) :=auq t au (λ_ _=>True) trivial (λa b _ _ _ _=>gX (WC t (a+1)) ht) (λ_ _ _ _ _ _ _=>trivial)
end
end Go.Proofs.YthohlofpphjofaaGreatDoor
