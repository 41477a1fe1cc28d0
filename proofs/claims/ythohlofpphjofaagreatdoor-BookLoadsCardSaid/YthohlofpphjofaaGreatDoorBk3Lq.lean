/- Books: Copy and Same of the reference, how big a book is, and the law BookChecks. -/
import Derived.Test.YthohlofpphjofaaGreatDoorGbLq
set_option maxHeartbeats 8000000
set_option maxRecDepth 100000
set_option linter.unusedVariables false
set_option linter.unusedSimpArgs false
namespace Go.Proofs.YthohlofpphjofaaGreatDoor
theorem Vd {p:Prop}(h:p:=by
 refine CV ?_;exact kT):p:=h
theorem Va {p:Prop}(h:p:=by
 refine dM ?_;exact kT):p:=h
theorem U7 {p:Prop}(h:p:=by
 refine dM ?_;exact qL):p:=h
theorem alS {p:Prop}(h:p:=by
 have:(zM s p).length≠0:=λh=>hl (sN h);simp;omega):p:=h
theorem asn {p:Prop}(h:p:=by
 refine WA.ds [false,false,false,false,false,false,false,false,false,false,true,true,true,true] [0,1] aK aK ⟨rfl,rfl,trivial⟩ ?_;refine ax6 ?_;refine (?_:W _ _ _ _ _);refine Rk ?_;simp only [hb];refine Rk ?_;refine WL.vl rfl (WV.call rfl (aj Tryz.func13 rfl rfl) rfl rfl (apZ b[k].p hO)) ?_;refine Rk ?_;exact ⟨k+1,by omega,by omega,(zqt id)⟩):p:=h
theorem ak0 {p q:Prop}(k:q)(h:iF q->p:=by
 intro hq;refine dM ?_;refine WL.idx rfl rfl (by decide) (r:=Ej y) rfl ?_;exact hq.k):p:=h ⟨k⟩
section
open Go.RowKit
theorem EZ (s:Int) (hs:¬ (1<=s/\s<=4)):bC Tryz.prog 73 [.sc (.int .u8 s)] (.tu [.sc (.string (bs [])),.sc (.int .i64 30)]):=by
 have h:=LU s;rw [bW hs] at h;refine dV Tryz.func73 Tryz.ntmps73 λw0 F0=>?_;dsimp only [St.init,number,Nat.reduceAdd];refine aq5 ?_;refine WL.vl rfl (aS Tryz.func50 h) ?_;refine YB ?_;exact kT
theorem nZ (s:Int) (hs:1<=s/\s<=4):bC Tryz.prog 73 [.sc (.int .u8 s)] (.tu [.sc (.string (bs (axU s))),.sc (.int .i64 0)]):=by
 have h:=LU s;rw [bQ hs] at h;have hnm:=apd s hs;refine dV Tryz.func73 Tryz.ntmps73 λw0 F0=>?_;dsimp only [St.init,number,Nat.reduceAdd];refine ax5 ?_;refine WL.vl rfl (aS Tryz.func50 h) ?_;refine aq6 ?_;refine WL.vl rfl (WV.sys hs aqT rfl rfl (λvs w=>by kernel_rfl) (λvs w=>by kernel_rfl) (λvs w=>by kernel_rfl) (λvs w=>by kernel_rfl) rfl rfl hnm) ?_;refine aq6 ?_;exact kT
theorem Sz {s:Int} {p:bV} {key:Int} (h:¬ (1<=s/\s<=4)):YZ s p key=30/\edT s p key=[]:=by
 have:YZ s p key=30:=if_neg h;exact⟨this,by unfold edT;rw [this];rfl⟩
theorem Sv {s:Int} {p:bV} {key:Int} (h:1<=s/\s<=4)(h2:wK p key≠0):YZ s p key=wK p key/\edT s p key=[]:=by
 have:YZ s p key=wK p key:=by unfold YZ;rw [if_pos h,if_pos h2]
 exact⟨this,by unfold edT;rw [this,if_neg h2]⟩
theorem acD {s:Int} {p:bV} {key:Int} (h:1<=s/\s<=4)(h2:wK p key=0)(h3:zM s p≠[]):YZ s p key=31/\edT s p key=[]:=by
 have:YZ s p key=31:=by unfold YZ;rw [if_pos h,if_neg (by simp [h2]),if_neg h3]
 exact⟨this,by unfold edT;rw [this];rfl⟩
theorem acE {s:Int} {p:bV} {key:Int} (h:1<=s/\s<=4) (h2:wK p key=0) (h3:zM s p=[]):YZ s p key=0/\edT s p key=edB s p (uI p.evs p.evs.length) (Jw p key) p.evs.length:=by
 have:YZ s p key=0:=by unfold YZ;rw [if_pos h,if_neg (by simp [h2]),if_pos h3]
 exact ⟨this,by unfold edT;rw [this];rfl⟩
theorem Xu (s:Int) (p:bV) (hO:jh p) (key:Int) (hne:0 < p.evs.length):jB Fz Tryz.prog 64 [iG p,.sc (.int .i64 key),.sc (.int .u8 s)] (.tu [.sc (.string (bs (edT s p key))),.sc (.int .i64 (YZ s p key))]):=by
 have hn3:=hO.n3;by_cases hs:1<=s/\s<=4;rotate_left
 ·rw [(Sz hs).1,(Sz hs).2];refine jB.intro rO Tryz.func64 rfl Tryz.ntmps64 (bG rfl) (dW rfl) λw0 F0 hB=>?_;dsimp only [St.init,number,Nat.reduceAdd];refine Jj ?_;refine WL.vl rfl (WV.call rfl (aj Tryz.func73 rfl rfl) rfl rfl (EZ s hs)) ?_;exact Va
 have hE:=IY p hO key;by_cases hx:wK p key=0;rotate_left
 ·rw [(Sv hs hx).1,(Sv hs hx).2];obtain ⟨E,hEq⟩:∃ E,wK p key=E:=⟨_,rfl⟩;rw [hEq] at hx hE ⊢;refine jB.intro rO Tryz.func64 rfl Tryz.ntmps64 (bG rfl) (dW rfl) λw0 F0 hB=>?_;dsimp only [St.init,number,Nat.reduceAdd];refine Jj ?_;refine WL.vl rfl (WV.call rfl (aj Tryz.func73 rfl rfl) rfl rfl (nZ s hs)) ?_;refine dM ?_;refine WL.vl rfl (WV.dZ hB rfl (aj Tryz.func115 rfl rfl) rfl rfl hE) ?_;exact Va
 obtain ⟨h0,hsf,hsl⟩:=acF hO hx;have hlE:=(Gy hs h0).2;have hlR:=(Gy hs h0).1;have hc:=adi s p hO;rw [hlE] at hc;rw [hx] at hE;by_cases hl:zM s p=[];rotate_left
 ·rw [(acD hs hx hl).1,(acD hs hx hl).2];have hb:((0:Int) == 0 && ((zM s p).length:Int) == 0)=false:=by exact alS
  rw [hb] at hc;refine jB.intro rO Tryz.func64 rfl Tryz.ntmps64 (bG rfl) (dW rfl) λw0 F0 hB=>?_;dsimp only [St.init,number,Nat.reduceAdd];refine Jj ?_;refine WL.vl rfl (WV.call rfl (aj Tryz.func73 rfl rfl) rfl rfl (nZ s hs)) ?_;refine dM ?_;refine WL.vl rfl (WV.dZ hB rfl (aj Tryz.func115 rfl rfl) rfl rfl hE) ?_;refine dM ?_;refine WL.vl rfl (aS Tryz.func19 hc) ?_;exact Va
 rw [(acE hs hx hl).1,(acE hs hx hl).2];have hb:((0:Int) == 0 && ((zM s p).length:Int) == 0)=true:=by rw [hl];rfl
 rw [hb] at hc;have hOn:=DI p hO;rw [if_pos h0,h0] at hOn;have hMe:=yK p hO;have e4:aiw p=uI p.evs p.evs.length:=if_pos h0;rw [e4,h0] at hMe;have hml:=uJ p.evs p.evs.length;have hmb:=Tn p.evs p.evs.length;have hol:=rC p.evs p.evs.length;have hnil:∀ i (h:i < p.evs.length),qV s p i p.evs[i]=[]:=λi h=>Dl p.evs.length (Nat.le_refl _) (by rw [← hlR];exact hl) i h h;have hMh:∃ x r,uI p.evs p.evs.length=x::r/\x.1=0:=by
  obtain ⟨n,hn⟩:∃ n,p.evs.length=n+1:=⟨p.evs.length - 1,by omega⟩;rw [hn];exact WT p.evs n
 obtain ⟨MS,hMS⟩:∃ L,uI p.evs p.evs.length=L:=⟨_,rfl⟩;obtain ⟨L,hL⟩:∃ L,Jw p key=L:=⟨_,rfl⟩;rw [hMS] at hMe hml hmb hMh ⊢;rw [hL] at hE hsf hsl ⊢;refine jB.intro rO Tryz.func64 rfl Tryz.ntmps64 (bG rfl) (dW rfl) λw0 F0 hB=>?_;dsimp only [St.init,number,Nat.reduceAdd];refine Jj ?_;refine WL.vl rfl (WV.call rfl (aj Tryz.func73 rfl rfl) rfl rfl (nZ s hs)) ?_;refine dM ?_;refine WL.vl rfl (WV.dZ hB rfl (aj Tryz.func115 rfl rfl) rfl rfl hE) ?_;refine dM ?_;refine WL.vl rfl (aS Tryz.func19 hc) ?_;refine dM ?_;refine WL.vl rfl (aS Tryz.func79 hOn) ?_;refine dM ?_;refine WL.vl rfl (aS Tryz.func116 hMe) ?_;refine dM ?_;first|refine W.tr (Tr.vK 1 5 rfl) ?_|refine WL.tr (Tr.vK 1 5 rfl) ?_
 dsimp only [St.upd];refine dM ?_;refine W.loop (λk:Nat=>k<=p.evs.length/\mAt MS k<=MS.length/\(mAt MS k≠0->∃ x,MS[mAt MS k - 1]?=some x/\x.1<=k)/\(edB s p MS L k).length<=1300000*k) (λk=>⟨[(2,.sc (.int .u8 s)),(3,.pt 0 0 0),(10,.ls 4 ((rsT L k).map Ej)),(12,.ls 1 ((jG p.evs p.evs.length).map eInt)),(14,.ls 3 (MS.map BM)),(16,.pt 1 0 0),(17,.sc (.int .i64 (mAt MS k:Nat))),(57,.ls 6 (p.evs.map iO)),(58,.sc (.int .i64 p.evs.length)),(59,.sc (.int .i64 k))],[(0,.box 30 (iG p).cells),(1,.vK 103 5 (edB s p MS L k))],2⟩) (λk=>p.evs.length - k) 0 ⟨by omega,iT _,λh=>absurd rfl h,by simp [edB]⟩ (zqt id) λk hk=>?_;obtain ⟨hk1,hmL,hmF,hBl⟩:=hk;by_cases hlt:k < p.evs.length;rotate_left
 ·obtain rfl:k=p.evs.length:=by omega
  have hBn:edB s p MS L p.evs.length≠[]:=by
   obtain ⟨n,hn⟩:∃ n,p.evs.length=n+1:=⟨p.evs.length - 1,by omega⟩;rw [hn];unfold edB;rw [ahx (by omega)];unfold edR;simp
  refine dM ?_;refine WL.bs rfl rfl rfl (aj Tryz.func55 rfl rfl) RX hBn ?_;exact Va
 obtain ⟨ev,hev⟩:∃ e,p.evs[k]=e:=⟨_,rfl⟩;have hcx:=Sl hs au hlt (hnil k hlt);have zI:=aar s p hO k;rw [hcx.1,hcx.2] at zI;have hcl:=ahm hs hO h0 k hlt;have Zp:=ahx (s:=s) (p:=p) (MS:=MS) (L:=L) hlt;rw [hev] at zI hcl Zp;refine dM ?_;rw [hev];obtain ⟨B,hBq⟩:∃ B,edB s p MS L k=B:=⟨_,rfl⟩;have hBs:edB s p MS L (k+1)=B++edN s p MS L k:=by rw [← hBq];rfl
 rw [hBq] at hBl ⊢;refine W.loop (λm:Nat=>m<=MS.length/\sH MS k (mAt MS k)=sH MS k m/\(m≠0->∃ x,MS[m - 1]?=some x/\x.1<=k)) (λm=>⟨[(2,.sc (.int .u8 s)),(3,.pt 0 0 0),(10,.ls 4 ((rsT L k).map Ej)),(12,.ls 1 ((jG p.evs p.evs.length).map eInt)),(14,.ls 3 (MS.map BM)),(16,.pt 1 0 0),(17,.sc (.int .i64 (m:Nat))),(18,.sc (.int .i64 k)),(19,.pt 2 0 0),(57,.ls 6 (p.evs.map iO)),(58,.sc (.int .i64 p.evs.length)),(59,.sc (.int .i64 k))],[(0,.box 30 (iG p).cells),(1,.vK 103 5 B),(2,.box 90 (iO ev))],3⟩) (λm=>MS.length - m) (mAt MS k) ⟨hmL,rfl,hmF⟩ (zqt id) λm hm=>?_;obtain ⟨hm1,hm3,hm4⟩:=hm;by_cases hgo:∃ h:m < MS.length,MS[m].1<=k
 ·obtain ⟨h1,h2⟩:=hgo;refine dM ?_;refine ⟨m+1,⟨by omega,hm3.trans (Lj h1 h2),λ_=>⟨MS[m],by simp [h1],h2⟩⟩,by omega,?_⟩;exact (zqt id)
 have hm0:m≠0:=λh=>by
  obtain ⟨y,r,hy1,hy2⟩:=hMh;subst hy1 h;exact hgo ⟨by simp,by show y.1<=_;omega⟩
 obtain ⟨x,hx1,hx2⟩:=hm4 hm0;have hmA:mAt MS (k+1)=m:=by
  show sH MS k (mAt MS k)=m;exact alE
 have hxb:=(hmb x (cZ hx1)).1;refine W.seq ?_;refine W.ave ⟨[(76,.sc (.bool false)),(2,.sc (.int .u8 s)),(3,.pt 0 0 0),(10,.ls 4 ((rsT L k).map Ej)),(12,.ls 1 ((jG p.evs p.evs.length).map eInt)),(14,.ls 3 (MS.map BM)),(16,.pt 1 0 0),(17,.sc (.int .i64 (m:Nat))),(18,.sc (.int .i64 k)),(19,.pt 2 0 0),(57,.ls 6 (p.evs.map iO)),(58,.sc (.int .i64 p.evs.length)),(59,.sc (.int .i64 k))],[(0,.box 30 (iG p).cells),(1,.vK 103 5 B),(2,.box 90 (iO ev))],3⟩ ?_ ?_
 ·have hno:MS.length<=m\/(∃ h:m < MS.length,¬ MS[m].1<=k):=by exact alN
  rcases hno with h|⟨h1,h2⟩;all_goals
   refine dM ?_;refine (?_:Tr _ _ _);exact (zqt id)
 refine Jj ?_;obtain ⟨t0,ht0⟩:∃ t:List UInt8,(if ev.tie=true then [126] else [37])=t:=⟨_,rfl⟩;have aB8:t0.length<=1:=by rw [← ht0];split<;>simp
 refine W.meet ⟨[(20,.sc (.string (bs t0))),(2,.sc (.int .u8 s)),(3,.pt 0 0 0),(10,.ls 4 ((rsT L k).map Ej)),(12,.ls 1 ((jG p.evs p.evs.length).map eInt)),(14,.ls 3 (MS.map BM)),(16,.pt 1 0 0),(17,.sc (.int .i64 (m:Nat))),(18,.sc (.int .i64 k)),(19,.pt 2 0 0),(57,.ls 6 (p.evs.map iO)),(58,.sc (.int .i64 p.evs.length)),(59,.sc (.int .i64 k))],[(0,.box 30 (iG p).cells),(1,.vK 103 5 B),(2,.box 90 (iO ev))],3⟩ ?_ ?_
 ·(refine W.cond rfl (λhif=>?_) (λhif=>?_)<;>(try simp only [dH,dO,eu,eF,dP,eG] at hif))
  ·have atP:ev.tie=true:=hif;rw [if_pos atP] at ht0;subst ht0;refine Jj ?_;exact qL
  ·have atP:¬ ev.tie=true:=by simpa using hif
   rw [if_neg atP] at ht0;subst ht0;refine Jj ?_;exact qL
 refine Jj ?_;refine W.tr (Tr.nil (t:=21) 9 1 rfl rfl) ?_;refine RG ?_;obtain ⟨rs,hrs⟩:∃ r,rsT L k=r:=⟨_,rfl⟩;have aqG:=Ua L k;rw [hrs] at aqG ⊢;refine W.loop (λq:Nat=>q<=rs.length/\∀ y∈rs.take q,y.1=(k:Int)) (λq=>⟨[(20,.sc (.string (bs t0))),(21,.sl 3),(2,.sc (.int .u8 s)),(3,.pt 0 0 0),(10,.ls 4 ((rs.drop q).map Ej)),(12,.ls 1 ((jG p.evs p.evs.length).map eInt)),(14,.ls 3 (MS.map BM)),(16,.pt 1 0 0),(17,.sc (.int .i64 (m:Nat))),(18,.sc (.int .i64 k)),(19,.pt 2 0 0),(57,.ls 6 (p.evs.map iO)),(58,.sc (.int .i64 p.evs.length)),(59,.sc (.int .i64 k))],[(0,.box 30 (iG p).cells),(1,.vK 103 5 B),(2,.box 90 (iO ev)),(3,.row 9 1 (((rs.take q).map sfT).map eStr))],4⟩) (λq=>rs.length - q) 0 ⟨iT _,by simp⟩ (zqt id) λq hq=>?_;obtain ⟨hq1,hq2⟩:=hq;obtain ⟨R,hR⟩:∃ R,rs.drop q=R:=⟨_,rfl⟩;have hRl:R.length=rs.length - q:=by rw [← hR,vk]
 by_cases atN:∃ y r,R=y::r/\y.1=(k:Int)
 ·obtain ⟨y,r,rfl,hy⟩:=atN;have hqq:q < rs.length:=by simp only [pW] at hRl;omega
  have hcons:=pX hqq;rw [hR] at hcons;obtain ⟨hy1,hr1⟩:=List.cons.inj hcons;have htk:=kF hqq;rw [← hy1] at htk;have az5:RJ y:=hsf y (aqG.1 y (by rw [hy1];exact gB hqq));have hrow:((rs.take q).map sfT).map eStr++[eStr (sfT y)]=((rs.take (q+1)).map sfT).map eStr:=by rw [htk];simp
  have hpr:prt (Ej y::r.map Ej) 1 ((Ej y::r.map Ej).length:Nat)=r.map Ej:=by unfold prt;simp;rw [ou (by simp)]
  have hst:=agu y az5;have hlc:(Ej y::r.map Ej).length=r.length+1:=by simp
  have axb:(rs.take q).length=q:=by rw [jT];omega
  have hrlen:rs.length<=8400:=by omega
  rw [hR,AB];refine ak0 ?_;refine ak0 ?_;refine dM ?_;refine WL.vl rfl (WV.dZ hB rfl (aj Tryz.func117 rfl rfl) rfl rfl hst) ?_;refine dM ?_;refine WL.y8 rfl rfl ⟨by decide,by simp;omega,wz _⟩ hpr ?_;refine dM ?_;refine ⟨q+1,⟨by omega,λz hz=>?_⟩,by omega,?_⟩
  ·rw [htk] at hz;rcases List.mem_append.1 hz with hz|hz;·exact hq2 z hz
   ·rw [CO] at hz;rw [hz];exact hy
  rw [← hr1];exact (ku (λq=>bif Nat.beq q 3 then 5 else q) (by repeat (first|exact trivial|refine ⟨⟨?_,?_,?_⟩,?_⟩|rfl|exact congrArg (λq=>some (AO.row _ _ q)) hrow)) rfl)
 have htd:=zh (f:=λz:Sf=>decide (z.1=(k:Int))) hq1 (λz hz=>by simpa using hq2 z hz) (λh=>by
  have:=pX h;rw [hR] at this;simp only [dO];intro hz;exact atN ⟨_,_,this,hz⟩);have hnm:nmK L k=(rs.take q).map sfT:=by unfold nmK;rw [hrs,htd.1]
 have azX:rsT L (k+1)=R:=by
  show (rsT L k).dropWhile _=_;rw [hrs,htd.2,hR]
 refine W.seq ?_;refine W.ave ⟨[(91,.sc (.bool false)),(20,.sc (.string (bs t0))),(21,.sl 3),(2,.sc (.int .u8 s)),(3,.pt 0 0 0),(10,.ls 4 (R.map Ej)),(12,.ls 1 ((jG p.evs p.evs.length).map eInt)),(14,.ls 3 (MS.map BM)),(16,.pt 1 0 0),(17,.sc (.int .i64 (m:Nat))),(18,.sc (.int .i64 k)),(19,.pt 2 0 0),(57,.ls 6 (p.evs.map iO)),(58,.sc (.int .i64 p.evs.length)),(59,.sc (.int .i64 k))],[(0,.box 30 (iG p).cells),(1,.vK 103 5 B),(2,.box 90 (iO ev)),(3,.row 9 1 (((rs.take q).map sfT).map eStr))],4⟩ ?_ ?_
 ·have hno:R=[]\/(∃ y r,R=y::r/\¬ y.1=(k:Int)):=by cases hRc:R with
   | nil=>exact .inl rfl| cons y r=>exact .inr ⟨y,r,rfl,λh=>atN ⟨y,r,hRc,h⟩⟩
  rw [hR];rcases hno with h|⟨y,r,h1,h2⟩
  ·subst h;rw [List.map_nil];exact U7
  ·subst h1;have hlc:(Ej y::r.map Ej).length=r.length+1:=by simp
   rw [AB];refine ak0 ?_;exact U7
 have axb:(rs.take q).length=q:=by rw [jT];omega
 have aB5:rs.length<=8400:=by omega
 have azG:=aol hsf hsl k ev;have hjl:=V9 [43] (by simp) (nmK L k) (Tq hsf hsl k).2;have hnl:=(Tq hsf hsl k).1;have hJ:=aii [43] (nmK L k) au au;have atL:evT L k ev=if nmK L k=[] then t0 else Lib.join (nmK L k) [43]:=by unfold evT;rw [ht0]
 rw [← hnm];obtain ⟨nm,azS⟩:∃ z,nmK L k=z:=⟨_,rfl⟩;rw [azS] at hjl hnl hJ atL ⊢;refine dM ?_;refine W.meet ⟨[(20,.sc (.string (bs (evT L k ev)))),(2,.sc (.int .u8 s)),(3,.pt 0 0 0),(10,.ls 4 (R.map Ej)),(12,.ls 1 ((jG p.evs p.evs.length).map eInt)),(14,.ls 3 (MS.map BM)),(16,.pt 1 0 0),(17,.sc (.int .i64 (m:Nat))),(18,.sc (.int .i64 k)),(19,.pt 2 0 0),(57,.ls 6 (p.evs.map iO)),(58,.sc (.int .i64 p.evs.length)),(59,.sc (.int .i64 k))],[(0,.box 30 (iG p).cells),(1,.vK 103 5 B),(2,.box 90 (iO ev))],4⟩ ?_ ?_
 ·(refine W.cond rfl (λhif=>?_) (λhif=>?_)<;>(try simp only [dH,dO,eu,eF,dP,eG] at hif))
  ·have hn0:nm≠[]:=λh=>by rw [h] at hif;simp at hif
   rw [atL,if_neg hn0];obtain ⟨jt,hjt⟩:∃ z,Lib.join nm [43]=z:=⟨_,rfl⟩;rw [hjt] at hJ ⊢;refine dM ?_;refine WL.tr (Tr.freeze 3 rfl) ?_;refine WL.vl rfl (aS Tryz.func111 hJ) ?_;exact U7
  ·have hn0:nm=[]:=sN (by first|omega|(simp at hif;omega)|(simpa using hif));rw [atL,if_pos hn0];exact U7
 refine dM ?_;refine WL.vl rfl (aS Tryz.func118 zI) ?_;refine dM ?_;have hoK:=EX p.evs k;have hoF:=EX p.evs x.1.toNat;have aA3:m<=420:=by omega
 have hMx:(MS.map BM)[((m:Int) - 1).toNat]?=some (BM x):=by rw [show ((m:Int) - 1).toNat=m - 1 by omega,dw,hx1];rfl
 have hok1:((jG p.evs p.evs.length).map eInt)[((k:Nat):Int).toNat]?=some (eInt (aY p.evs k)):=by rw [gy,dw,TF (by omega)];rfl
 have hok2:((jG p.evs p.evs.length).map eInt)[x.1.toNat]?=some (eInt (aY p.evs x.1.toNat)):=by rw [dw,TF (by omega)];rfl
 have azH:atr MS k=x.1.toNat:=by unfold atr;rw [hmA,hx1];rfl
 have azY:avf p.evs MS k=aY p.evs k - aY p.evs x.1.toNat:=by unfold avf;rw [azH]
 have hR1:edN s p MS L k=Lib.itoa (m:Nat)++[58]++Lib.itoa (aY p.evs k - aY p.evs x.1.toNat)++[32]++evT L k ev++[32,59,32]++colS s p k ev++[10]:=by rw [Zp];unfold edR;rw [azY,hmA]
 have hsI:I64 (aY p.evs k - aY p.evs x.1.toNat):=by unfold I64;omega
 have hI1:=ZI (m:Nat) yg;have hI2:=ZI _ hsI;have hl1:=Eu (n:=(m:Nat)) au;have hl2:=Eu (n:=aY p.evs k - aY p.evs x.1.toNat) au;obtain ⟨oK,azU⟩:∃ z,aY p.evs k=z:=⟨_,rfl⟩;obtain ⟨oF,azT⟩:∃ z,aY p.evs x.1.toNat=z:=⟨_,rfl⟩;rw [azU] at hoK hok1 hR1 hI2 hl2;rw [azT] at hoF hok2 hR1 hI2 hl2;obtain ⟨a1,ha1⟩:∃ z,Lib.itoa (m:Nat)=z:=⟨_,rfl⟩;obtain ⟨a2,ha2⟩:∃ z,Lib.itoa (oK - oF)=z:=⟨_,rfl⟩;obtain ⟨et,het⟩:∃ z,evT L k ev=z:=⟨_,rfl⟩;obtain ⟨co,hco⟩:∃ z,colS s p k ev=z:=⟨_,rfl⟩;rw [ha1] at hI1 hl1 hR1;rw [ha2] at hI2 hl2 hR1;rw [het] at azG hR1 ⊢;rw [hco] at hcl hR1 ⊢;have c1:(a1++[58]).length<=21:=by simp only [dS,pW,AA];omega
 have c2:(a1++[58]++a2).length<=41:=by rw [dS];omega
 have c3:(a1++[58]++a2++[32]).length<=42:=by rw [dS];simp only [pW,AA];omega
 have c4:(a1++[58]++a2++[32]++et).length<=200042:=by rw [dS];omega
 have c5:(a1++[58]++a2++[32]++et++[32,59,32]).length<=200045:=by rw [dS];simp only [pW,AA];omega
 have c6:(a1++[58]++a2++[32]++et++[32,59,32]++co).length<=1200045:=by rw [dS];omega
 have c7:(a1++[58]++a2++[32]++et++[32,59,32]++co++[10]).length<=1200046:=by rw [dS];simp only [pW,AA];omega
 have aBV:1<=m:=by omega
 have azN:=Lib.hid hm1;clear hol hm1 hm4 hm3;refine iY ?_;refine Oj ?_;refine DK.idx rfl rfl au hok1 ?_;refine Oj ?_;refine DK.idx rfl rfl au hMx ?_;refine Oj ?_;refine DK.idx rfl rfl au hok2 ?_;refine Oj ?_;refine dM ?_;refine WL.vl rfl (WV.dZ hB rfl (aj Tryz.func108 rfl rfl) rfl rfl hI1) ?_;refine dM ?_;refine WL.vl rfl (WV.dZ hB rfl (aj Tryz.func108 rfl rfl) rfl rfl hI2) ?_;refine dM ?_;have hrow:B++(a1++[58]++a2++[32]++et++[32,59,32]++co++[10])=edB s p MS L (k+1):=by rw [hBs,hR1]
 have hBn:(edB s p MS L (k+1)).length<=1300000*(k+1):=by rw [← hrow,dS];omega
 refine WL.bw rfl rfl rfl (aj Tryz.func53 rfl rfl) acr au hrow ?_;refine dM ?_;refine ⟨k+1,⟨by omega,by rw [hmA];exact azN,λ_=>⟨x,by rw [hmA];exact hx1,by omega⟩,hBn⟩,by omega,?_⟩;rw [azX,hmA];exact ano
theorem Xt (s:Int) (p:bV) (hO:jh p) (key:Int) (hne:p.evs.length=0):jB Fz Tryz.prog 64 [iG p,.sc (.int .i64 key),.sc (.int .u8 s)] (.tu [.sc (.string (bs (edT s p key))),.sc (.int .i64 (YZ s p key))]):=by
 have hn3:=hO.n3;by_cases hs:1<=s/\s<=4;rotate_left
 .rw [(Sz hs).1,(Sz hs).2];refine jB.intro rO Tryz.func64 rfl Tryz.ntmps64 (bG rfl) (dW rfl) λw0 F0 hB=>?_;dsimp only [St.init,number,Nat.reduceAdd];refine adN ?_;refine WL.vl rfl (WV.call rfl (aj Tryz.func73 rfl rfl) rfl rfl (EZ s hs)) ?_;exact Vd
 have hE:=IY p hO key;by_cases hx:wK p key=0;rotate_left
 .rw [(Sv hs hx).1,(Sv hs hx).2];obtain ⟨E,hEq⟩:∃ E,wK p key=E:=⟨_,rfl⟩;rw [hEq] at hx hE ⊢;refine jB.intro rO Tryz.func64 rfl Tryz.ntmps64 (bG rfl) (dW rfl) λw0 F0 hB=>?_;dsimp only [St.init,number,Nat.reduceAdd];refine adN ?_;refine WL.vl rfl (WV.call rfl (aj Tryz.func73 rfl rfl) rfl rfl (nZ s hs)) ?_;refine CV ?_;refine WL.vl rfl (WV.dZ hB rfl (aj Tryz.func115 rfl rfl) rfl rfl hE) ?_;exact Vd
 obtain ⟨h0,hsf,hsl⟩:=acF hO hx;have hlE:=(Gy hs h0).2;have hlR:=(Gy hs h0).1;have hc:=adi s p hO;rw [hlE] at hc;rw [hx] at hE;by_cases hl:zM s p=[];rotate_left
 .rw [(acD hs hx hl).1,(acD hs hx hl).2];have hb:((0:Int) == 0 && ((zM s p).length:Int) == 0)=false:=by exact alS
  rw [hb] at hc;refine jB.intro rO Tryz.func64 rfl Tryz.ntmps64 (bG rfl) (dW rfl) λw0 F0 hB=>?_;dsimp only [St.init,number,Nat.reduceAdd];refine adN ?_;refine WL.vl rfl (WV.call rfl (aj Tryz.func73 rfl rfl) rfl rfl (nZ s hs)) ?_;refine CV ?_;refine WL.vl rfl (WV.dZ hB rfl (aj Tryz.func115 rfl rfl) rfl rfl hE) ?_;refine CV ?_;refine WL.vl rfl (aS Tryz.func19 hc) ?_;exact Vd
 rw [(acE hs hx hl).1,(acE hs hx hl).2];have hb:((0:Int) == 0 && ((zM s p).length:Int) == 0)=true:=by rw [hl];rfl
 rw [hb] at hc;have hOn:=DI p hO;rw [if_pos h0,h0] at hOn;have hMe:=yK p hO;have e4:aiw p=uI p.evs p.evs.length:=if_pos h0;rw [e4,h0] at hMe;have hml:=uJ p.evs p.evs.length;have hmb:=Tn p.evs p.evs.length;have hol:=rC p.evs p.evs.length;have hnil:∀ i (h:i < p.evs.length),qV s p i p.evs[i]=[]:=λi h=>Dl p.evs.length (Nat.le_refl _) (by rw [← hlR];exact hl) i h h;obtain ⟨MS,hMS⟩:∃ L,uI p.evs p.evs.length=L:=⟨_,rfl⟩;obtain ⟨L,hL⟩:∃ L,Jw p key=L:=⟨_,rfl⟩;rw [hMS] at hMe hml hmb ⊢;rw [hL] at hE hsf hsl ⊢;refine jB.intro rO Tryz.func64 rfl Tryz.ntmps64 (bG rfl) (dW rfl) λw0 F0 hB=>?_;dsimp only [St.init,number,Nat.reduceAdd];refine adN ?_;refine WL.vl rfl (WV.call rfl (aj Tryz.func73 rfl rfl) rfl rfl (nZ s hs)) ?_;refine CV ?_;refine WL.vl rfl (WV.dZ hB rfl (aj Tryz.func115 rfl rfl) rfl rfl hE) ?_;refine CV ?_;refine WL.vl rfl (aS Tryz.func19 hc) ?_;refine CV ?_;refine WL.vl rfl (aS Tryz.func79 hOn) ?_;refine CV ?_;refine WL.vl rfl (aS Tryz.func116 hMe) ?_;have hev0:p.evs=[]:=sN hne;have hB0:edB s p MS L p.evs.length=[]:=by rw [hne];rfl
 rw [hB0];refine CV ?_;refine W.loop (λk:Nat=>k=0) (λk=>⟨[(2,.sc (.int .u8 s)),(3,.pt 0 0 0),(16,.pt 1 0 0),(57,.ls 6 (p.evs.map iO)),(58,.sc (.int .i64 p.evs.length)),(59,.sc (.int .i64 k))],[(0,.box 30 (iG p).cells),(1,.box 103 [.sc (.pointer none),.sc (.slice none 0 0)])],2⟩) (λk=>k) 0 rfl (zqt id) λk hk=>?_;subst hk;refine CV ?_;refine WL.vl rfl (WV.as8 rfl (aj Tryz.func55 rfl rfl) rfl rfl λw b=>ahf w b _) ?_;exact Vd
theorem aas (s:Int)(p:bV)(hO:jh p)(key:Int):jB Fz Tryz.prog 64 [iG p,.sc (.int .i64 key),.sc (.int .u8 s)] (.tu [.sc (.string (bs (edT s p key))),.sc (.int .i64 (YZ s p key))]):=by
 by_cases h:p.evs.length=0;.exact Xt s p hO key h
 .exact Xu s p hO key au
def p11:bV:=⟨[(67,3,false)],[1,2,3],[⟨false,4,false,false,false,[(1,1,0,0,0)]⟩,⟨false,0,false,false,false,[(1,0,0,0,0)]⟩]⟩
theorem ai6:jh p11:=ai9 (by decide +kernel)
theorem aqK:aib p11 4=0/\aic p11 4=[-1]:=by decide +kernel
theorem awr:YZ 1 p11 0=0:=by decide +kernel
theorem awq:edT 1 p11 0=[49,58,48,32,71,35,52,32,59,32,67,32,98,10,49,58,52,56,32,71,61,52,32,59,32,45,32,97,10]:=by decide +kernel
theorem agN:jB Fz Tryz.prog 21 [] (.sc (.bool true)):=by
 have hE:=aas 1 p11 ai6 0;have hI:=Xv p11 ai6 4;rw [awq,awr] at hE;rw [aqK.1,aqK.2] at hI;refine jB.intro rO Tryz.func21 rfl Tryz.ntmps21 (bG rfl) (dW rfl) λw0 F0 hB=>?_;dsimp only [St.init,number,Nat.reduceAdd];refine akG ?_;refine WL.tr (Tr.freeze 0 rfl) ?_;refine WL.tr (Tr.freeze 1 rfl) ?_;refine WL.tr (Tr.freeze 3 rfl) ?_;refine WL.tr (Tr.freeze 4 rfl) ?_;refine akG ?_;refine WL.tr (Tr.freeze 5 rfl) ?_;refine WL.vl rfl (WV.dZ hB rfl (aj Tryz.func64 rfl rfl) rfl rfl hE) ?_;refine akG ?_;refine WL.vl rfl (aS Tryz.func65 hI) ?_;refine aq7 ?_;refine WL.idx rfl rfl au rfl ?_;refine aq7 ?_;exact W.ret kR
theorem aaC (b:List En) (hB:asX b):bC Tryz.prog 24 [eBk b,eBk b] (.sc (.bool true)):=by
 have hn:=hB.n;refine dV Tryz.func24 Tryz.ntmps24 λw0 F0=>?_;dsimp only [St.init,number,Nat.reduceAdd];refine Rk ?_;refine W.loop (λk:Nat=>k<=b.length) (λk=>⟨[(2,.pt 0 0 0),(3,.pt 1 0 0),(5,.sc (.int .i64 k))],[(0,.box 47 [.ls 5 (b.map yZ)]),(1,.box 47 [.ls 5 (b.map yZ)])],2⟩) (λk=>b.length - k) 0 au (zqt id) λk hk=>?_;by_cases hlt:k < b.length;rotate_left
 .refine Rk ?_;exact W.ret kR
 have hO:=hB.p k hlt;have hb:(b[k].t == b[k].t)=true:=by simp
 refine Rk ?_;refine W.pK aK ?_;refine WA.aoh [0,1,2,3,4,5,6,7,8,9,10,11,12,13] [0,1,2,3,4,5,6,7,8,9,10,11,12,13] [0,1,2,3,4,5,6,7,8,9,11,10,12,13] [0,1,2,3,4,5,6,7,8,9,11,10,12,13] 10 11 aK aK rfl ?_ ?_;.exact asn
 .exact asn
end
end Go.Proofs.YthohlofpphjofaaGreatDoor
