/- The law of loading a book: both sides load every text alike. -/
import Derived.Test.YthohlofpphjofaaGreatDoorNr9Lq
import Derived.Test.YthohlofpphjofaaGreatDoorLd5Lq
import Derived.Test.YthohlofpphjofaaGreatDoorBk3Lq
set_option maxHeartbeats 8000000
set_option maxRecDepth 100000
set_option linter.unusedVariables false
set_option linter.unusedSimpArgs false
namespace Go.Proofs.YthohlofpphjofaaGreatDoor
theorem Ig {p:Prop}(h:p:=by
 refine dM ?_;exact Ov):p:=h
theorem RF {p q:Prop}(k:q)(h:iF q->p:=by
 intro hq;refine WL.idx rfl rfl au hx ?_;refine dM ?_;exact hq.k):p:=h ⟨k⟩
section
open Go.RowKit
theorem ajy (t:List UInt8) (ht:t.length<=65536):bC Tryz.prog 23 [.sc (.string (bs t))] (ldR (lY t)):=by
 have hW:=Qx t au;have hxl:=λa=>gX (WC t a) ht;have hLa:=Dk t;have ht0:=ht;have hwb:∀ w∈(aH 10 t).1,w.length<=65536:=λw hw=>gX (jk 10 t w (by unfold aZ;simp [hw])) ht;have hwl:(aZ 10 t).length<=65537:=by exact aee
 unfold lY;unfold aZ at hwl;rw [dS,Je] at hwl;obtain ⟨⟨L,tl⟩,hF⟩:∃ z,aH 10 t=z:=⟨_,rfl⟩;rw [hF] at hW hxl hwb hwl hLa;rw [hF];dsimp only at hW hxl hwb hwl hLa ⊢;by_cases htl:tl=[];rotate_left
 .rw [if_neg htl,bW htl] at hW;rw [if_pos htl];have hl1:((L++[tl]).map aX).length=L.length+1:=by rw [bK,dS];rfl
  obtain ⟨LT,KG⟩:∃ z,(L++[tl]).map aX=z:=⟨_,rfl⟩;rw [KG] at hW hl1;rw [show (L.length:Int)+1=(LT.length:Int) by omega];refine dV Tryz.func23 Tryz.ntmps23 λw0 F0=>?_;dsimp only [St.init,number,Nat.reduceAdd];refine adO ?_;refine WL.vl rfl (aS Tryz.func16 hW) ?_;refine adO ?_;exact Ov
 rw [if_pos htl,bQ htl] at hW;rw [if_neg (by simp [htl])];have hlen:(L.map aX).length=L.length:=bK _;have hat:∀ k (h:k < L.length),(L.map aX)[((k:Nat):Int).toNat]?=some (aX L[k]):=λk h=>zO h;obtain ⟨LT,KG⟩:∃ z,L.map aX=z:=⟨_,rfl⟩;rw [KG] at hW hlen hat;clear KG;refine dV Tryz.func23 Tryz.ntmps23 λw0 F0=>?_;dsimp only [St.init,number,Nat.reduceAdd];refine adO ?_;refine WL.vl rfl (aS Tryz.func16 hW) ?_;refine adO ?_;refine W.tr (Tr.oJ (k:=1) (j:=0) 129 5 rfl rfl rfl rfl) ?_;refine W.loop (λs:Nat×List En=>s.1<=L.length/\s.2.length<=64/\mQ L 0 []=mQ L s.1 s.2) (λs=>⟨[(2,.pt 0 0 0),(3,.sc (.int .i64 0)),(4,.sc (.int .i64 0)),(5,.ls 1 LT),(7,.pt 1 0 0),(8,.sc (.int .i64 s.1))],[(0,.box 47 [.sc (.slice none 0 0)]),(1,.box 47 [.sl 2]),(2,.row 129 5 (s.2.map yZ))],3⟩) (λs=>L.length - s.1) (0,[]) ⟨by omega,by simp,rfl⟩ (zqt id) λs hs=>?_;obtain ⟨a,b⟩:=s;obtain ⟨h1,h2,h3⟩:=hs;dsimp only at h1 h2 h3 ⊢;rw [h3];by_cases hlt:a < L.length;rotate_left
 .rw [ZJ (by omega)];refine dM ?_;exact am6
 have hx:=hat a hlt;have hxb:=hwb _ (gB hlt);have hg:L.getD a []=L[a]:=by simp [hlt]
 have hbl:(b.map yZ).length=b.length:=bK _;obtain ⟨x,hxx⟩:∃ z,L[a]=z:=⟨_,rfl⟩;rw [hxx] at hx hxb hg;have hcut:cut x 0 6=x.take 6:=by simp [cut]
 by_cases ht:(x.take 6 == Wv)=true;rotate_left
 .have ht:(x.take 6 == Wv)=false:=by simpa using ht
  have e:iw L a b=4:=by unfold iw;rw [hg];simp [ht]
  rw [KW hlt Ry,e];by_cases h6:x.length < 6
  .refine dM ?_;refine RF ?_;exact Ov
  .refine dM ?_;refine RF ?_;refine RF ?_;refine WL.cut rfl rfl au ?_;rw [hcut];refine dM ?_;rw [show (x.take 6 == [116,105,116,108,101,32])=false from ht];exact Ig
 have h6:¬ x.length < 6:=λh=>by
  have:=congrArg List.length (show x.take 6=Wv by simpa using ht);rw [jT,show Wv.length=6 from rfl] at this;omega
 refine dM ?_;refine RF ?_;refine RF ?_;refine WL.cut rfl rfl au ?_;rw [hcut];refine dM ?_;rw [show (x.take 6 == [116,105,116,108,101,32])=true from ht];by_cases h64:b.length=64
 .have e:iw L a b=2:=by unfold iw;rw [hg,if_neg (by rw [ht];decide),if_pos h64]
  rw [KW hlt Ry,e];exact Ig
 have hdr:vN L a=x.drop 6:=by unfold vN;rw [hg]
 have hTi:=afR (x.drop 6) YL;have hHa:=ajv b (x.drop 6) b.length (Nat.le_refl _) au;have azF:cut x 6 x.length=x.drop 6:=by simp only [cut];rw [ou];rfl;rw [vk];show x.length - 6<=_;omega
 refine dM ?_;refine RF ?_;refine WL.cut rfl rfl au ?_;rw [azF];refine dM ?_;cases hto:jS (x.drop 6) with
 | false =>
  have e:iw L a b=110:=by unfold iw;rw [hg,hdr,if_neg (by rw [ht];decide),if_neg h64,if_pos (.inl hto)]
  rw [KW hlt Ry,e];rw [hto] at hTi;refine WL.vl rfl (aS Tryz.func68 hTi) ?_;exact Ig| true =>
 rw [hto] at hTi;refine WL.vl rfl (aS Tryz.func68 hTi) ?_;refine dM ?_;by_cases hn:wW b (x.drop 6) < b.length
 .have e:iw L a b=110:=by unfold iw;rw [hg,hdr,if_neg (by rw [ht];decide),if_neg h64,if_pos (.inr hn)]
  rw [KW hlt Ry,e];rw [bQ hn] at hHa;refine WL.vl rfl (WV.Iy (dD _) rfl (aj Tryz.func69 rfl rfl) rfl (.cons (fG.ag (.cons (fG.row rfl) .nil)) (.cons (fG.pu rfl) (.cons (fG.pu rfl) .nil))) Aw hHa.g) ?_;exact Ig
 have e0:iw L a b=0:=by unfold iw;rw [hg,hdr,if_neg (by rw [ht];decide),if_neg h64,if_neg (by rw [hto];simp;omega)]
 rw [bW hn] at hHa;refine WL.vl rfl (WV.Iy (dD _) rfl (aj Tryz.func69 rfl rfl) rfl (.cons (fG.ag (.cons (fG.row rfl) .nil)) (.cons (fG.pu rfl) (.cons (fG.pu rfl) .nil))) Aw hHa.g) ?_;refine dM ?_;obtain ⟨R,hR⟩:∃ z,L.drop (a+1)=z:=⟨_,rfl⟩;have hRl:R.length=L.length - (a+1):=by rw [← hR,vk]
 have aeU:∀ k (h:k < R.length),R[k]=L[a+1+k]'(by omega):=λk h=>by rw [List.getElem_of_eq hR.symm h,List.getElem_drop]
 have hRb:∀ k,(aC 10 (R.take k) []).length<=65536:=λk=>by
  refine gX (vP R k) ?_;have h9:=gX (zL L (a+1)) hLa;rw [hR] at h9;exact gX h9 ht0
 refine W.loop (λk:Nat=>k<=R.length/\∀ i (h:i < k) (h2:i < R.length),(R[i] == Wu)=false) (λk=>⟨[(2,.pt 0 0 0),(3,.sc (.int .i64 0)),(4,.sc (.int .i64 0)),(5,.ls 1 LT),(7,.pt 1 0 0),(8,.sc (.int .i64 a)),(9,.sc (.string (bs (x.drop 6)))),(10,.sc (.int .i64 ((a:Int)+1+k))),(11,.sc (.string (bs (aC 10 (R.take k) []))))],[(0,.box 47 [.sc (.slice none 0 0)]),(1,.box 47 [.sl 2]),(2,.row 129 5 (b.map yZ))],3⟩) (λk=>R.length - k) 0 ⟨by omega,λi h=>by omega⟩ (zqt id) λk hk=>?_;obtain ⟨g1,g2⟩:=hk;by_cases hk:k < R.length;rotate_left
 .have hnn:jo R=k:=acU g1 (λi hi=>g2 i hi au) (λh=>absurd h hk);rw [acV hlt e0 (by rw [hR,hnn];omega)];rw [← hlen];exact Ig
 have hxk:LT[((a:Int)+1+k).toNat]?=some (aX R[k]):=by
  rw [aeU k hk];exact hat (a+1+k) au
 by_cases hend:(R[k] == Wu)=true;rotate_left
 .have hend:(R[k] == Wu)=false:=by simpa using hend
  have hsl:=Ey hk;have hsb:=hRb (k+1);rw [hsl,dS,dS,Je] at hsb;refine dM ?_;refine WL.idx rfl rfl au hxk ?_;refine dM ?_;rw [show (R[k] == [101,110,100])=false from hend];refine dM ?_;refine WL.idx rfl rfl au hxk ?_;refine dM ?_;refine ⟨k+1,⟨by omega,λi h h2=>?_⟩,by omega,?_⟩
  .by_cases e:i=k;.subst e;exact hend
   .exact g2 i au h2
  rw [hsl,← vg,show (a:Int)+1+((k+1:Nat):Int)=(a:Int)+1+k+1 by omega];exact (zqt id)
 have hnn:jo R=k:=acU g1 (λi hi=>g2 i hi au) (λh=>hend);refine dM ?_;refine WL.idx rfl rfl au hxk ?_;refine dM ?_;rw [show (R[k] == [101,110,100])=true from hend];have hrd:=ajB (aC 10 (R.take k) []) (hRb k);have hxe:kU L (a+1)=aC 10 (R.take k) []:=by unfold kU;rw [hR,hnn]
 have hne:¬ L.length<=a+1+jo (L.drop (a+1)):=by rw [hR,hnn];omega
 have hE:=ain (b:=b) hlt e0 hne;have hN:=ld_next (b:=b) hlt e0 hne;rw [hxe] at hE hN;rw [hR,hnn,hdr] at hN;have hln:=LJ (aC 10 (R.take k) []);clear hxe hne hxk hRb aeU g2;obtain ⟨⟨s,p,ln,e⟩,hr⟩:∃ z,aG (aC 10 (R.take k) [])=z:=⟨_,rfl⟩;rw [hr] at hrd hE hN hln;dsimp only at hE hN hln;unfold rdR at hrd;dsimp only at hrd;refine dM ?_;by_cases he:e=0;rotate_left
 .rw [hE he];refine WL.vl rfl (aS Tryz.func12 hrd) ?_;exact Ig
 .subst he;have h1:b.map yZ++[yZ (⟨x.drop 6,s,p⟩:En)]=(b++[(⟨x.drop 6,s,p⟩:En)]).map yZ:=by rw [iC];rfl
  refine WL.vl rfl (aS Tryz.func12 hrd) ?_;refine dM ?_;refine ⟨(a+1+k+1,b++[⟨x.drop 6,s,p⟩]),⟨by show a+1+k+1<=L.length;omega,by show (b++[_]).length<=64;rw [dS,Je];omega,hN rfl⟩,by show L.length - (a+1+k+1) < L.length - a;omega,?_⟩;dsimp only;rw [← h1,show ((a+1+k+1:Nat):Int)=(a:Int)+1+k+1 by omega];exact (ku (λq=>bif Nat.beq q 2 then 5 else q) arw rfl)
theorem ao8 (t:List UInt8):jB agE Tryz.prog 6 [.sc (.string (bs t))] (.sc (.bool true)):=by
 have hw:=agN.wB;refine jB.intro axW Tryz.func6 rfl Tryz.ntmps6 (bG rfl) (dW rfl) λw0 F0 hB=>?_;dsimp only [St.init,number,Nat.reduceAdd];refine YD ?_;(refine W.cond rfl (λhif=>?_) (λhif=>?_)<;>(try simp only [dH,dO,eu,eF,dP,eG] at hif))
 .refine YD ?_;refine WL.vl rfl (WV.dZ hB rfl (aj Tryz.func21 rfl rfl) rfl rfl hw) ?_;refine YD ?_;exact W.ret kR
 have hl:t.length<=20000:=by omega
 have hP:=(aup t au).wN;have hR:=ajy t au;have hS:=aaC (lY t).1 (ZK t);unfold ldR at hP hR;obtain ⟨⟨b,n,e⟩,hr⟩:∃ z,lY t=z:=⟨_,rfl⟩;rw [hr] at hP hR hS;dsimp only at hP hR hS;refine YD ?_;refine WL.vl rfl (WV.dZ hB rfl (aj Tryz.func22 rfl rfl) rfl rfl hP) ?_;refine YD ?_;refine WL.vl rfl (aS Tryz.func23 hR) ?_;refine akH ?_;refine WL.vl rfl (aS Tryz.func24 hS) ?_;refine akH ?_;refine WL.vl rfl (WV.dZ hB rfl (aj Tryz.func21 rfl rfl) rfl rfl hw) ?_;refine akH ?_;exact W.ret kR
end
end Go.Proofs.YthohlofpphjofaaGreatDoor
