/- The reader of the reference: the holds. (RWN.) -/
import Derived.Test.YthohlofpphjofaaGreatDoorNrTLq
set_option maxHeartbeats 8000000
set_option maxRecDepth 100000
set_option linter.unusedVariables false
set_option linter.unusedSimpArgs false
namespace Go.Proofs.YthohlofpphjofaaGreatDoor
open Go.RowKit
theorem arZ {p:Prop}(h:p:=by
 refine qI ?_;refine WL.ldQ rfl rfl rfl rfl hat zx ?_;refine qI ?_;refine WL.ldQ rfl rfl rfl rfl hat zx ?_;refine arS ?_;refine DK.vl rfl (Td rfl rfl rfl hat zx) ?_;refine arT ?_;refine DK.vl rfl (WV.Iy (dD _) rfl (aj Tryz.func102 rfl rfl) rfl (.cons (fG.ag (.cons (fG.pu rfl) (.cons (fG.pu rfl) (.cons (fG.rV 1 rfl (fG.row rfl) (ug _) hat zx hle) .nil)))) (.cons (fG.pu rfl) (.cons (fG.pu rfl) .nil))) Aw KF.g) ?_;refine akS ?_;refine qI ?_;refine WL.ldQ rfl rfl rfl rfl hat zx ?_;refine qI ?_;refine WL.op rfl (WO.store rfl rfl rfl rfl rfl rfl rfl rfl rfl rfl (TM hSk (by show 4+1<=5;omega) rfl)) ?_;refine qI ?_;refine ⟨k+1,⟨by omega,hE2⟩,by omega,?_⟩;exact (ku (λq=>q) arx rfl)):p:=h
theorem alq {p:Prop}(h:p:=by
 refine qI ?_;refine WL.ldQ rfl rfl rfl rfl hat zx ?_;refine qI ?_;refine WL.ldQ rfl rfl rfl rfl hat zx ?_;refine arS ?_;refine DK.vl rfl (Td rfl rfl rfl hat zx) ?_;refine arT ?_;refine DK.vl rfl (WV.Iy (dD _) rfl (aj Tryz.func102 rfl rfl) rfl (.cons (fG.ag (.cons (fG.pu rfl) (.cons (fG.pu rfl) (.cons (fG.rV 1 rfl (fG.row rfl) (ug _) hat zx hle) .nil)))) (.cons (fG.pu rfl) (.cons (fG.pu rfl) .nil))) Aw KF.g) ?_;refine akS ?_;refine qI ?_;exact W.ret (sG rfl rfl rfl trivial rfl)):p:=h
theorem arT {p q:Prop}(k:q)(h:iF q->p:=by
 intro hq;refine akS ?_;refine ayq ?_;refine akS ?_;exact hq.k):p:=h ⟨k⟩
theorem arS {p q:Prop}(k:q)(h:iF q->p:=by
 intro hq;refine arG ?_;refine iY ?_;refine akS ?_;exact hq.k):p:=h ⟨k⟩
theorem ayq {p q:Prop}(k:q)(h:iF q->p:=by
 intro hq;refine DK.vl rfl (JO rfl hSk rfl rfl) ?_;exact hq.k):p:=h ⟨k⟩
theorem arG {p q:Prop}(k:q)(h:iF q->p:=by
 intro hq;refine qI ?_;refine WL.ldr rfl rfl hSk rfl rfl ?_;refine qI ?_;exact hq.k):p:=h ⟨k⟩
theorem akS {p q:Prop}(k:q)(h:iF q->p:=by
 intro hq;repeat (first|refine DK.vl rfl (WV.IC rfl rfl) ?_|refine DK.st rfl ?_|refine DK.ixs rfl rfl wY ?_|refine DK.nil ?_)
 exact hq.k):p:=h ⟨k⟩
def jd:N5->Int:=λx=>(x.2.2.2.2:Int)
theorem afW {s:Int} {E:List NC} {i k:Nat} {l:List N5} (h:k<l.length) {v:Int} (hv:v=aN s E i l[k]):((bJ jd (aN s E i) k l).map bI).set k (jL 4 [.sc (.int .i64 v)] (bI (gu jd l[k])))=(bJ jd (aN s E i) (k+1) l).map bI:=by
 subst hv;have e:jL 4 [.sc (.int .i64 (aN s E i l[k]))] (bI (gu jd l[k]))=bI (gu (aN s E i) l[k]):=rfl;rw [e,← FI,Dy h]
theorem ajw (s:Int) (hs:1<=s/\s<=4) (cs:List Crs) (st:List Int) (E:List NC) (h1:cs.length<=64) (h2:st.length<=64) (hE:E.length<=420) (h20:∀ x∈E,x.l.length<=20) :OE jJ 0 Tryz.prog 47 [.sc (.int .u8 s),.ag [.ls 3 (cs.map bg),.ls 1 (st.map eInt),.sl 0]] [(0,.jO 90 6 ((E.map EN).map fH))] 1 (match pG s E with
    | some i=>.ok (.tu [.sc (.int .i64 (i:Int)),.sc (.int .i64 24)]) [] 3| none=>.ok (.tu [.sc (.int .i64 0),.sc (.int .i64 0)]) [(0,.jO 90 6 ((oM s E).map fH))] 2):=by
 refine OE.intro mG Tryz.func47 rfl Tryz.ntmps47 (bG rfl) rfl λw0 F0 fp pg hB=>?_;refine iU ?_;refine UD ?_;refine W.loop (λi:Nat=>i<=E.length/\(∀ j (h:j < E.length),j < i->E[j].l.any (nU s E j)=false)) (λi=>⟨[(0,.sc (.int .u8 s)),(3,.pt 1 0 0),(6,.sc (.int .i64 (i:Int)))],[(0,.jO 90 6 ((aU jd (aN s E) E i 0).map fH)),(1,.box 30 [.ls 3 (cs.map bg),.ls 1 (st.map eInt),.sl 0])],2⟩) (λi=>E.length - i) 0 ⟨by omega,λj hj h2=>absurd h2 (by omega)⟩ (by rw [show E.map EN=aU jd (aN s E) E 0 0 from (LM _ _ _).symm];exact (zqt id)) λi hi=>?_;obtain ⟨hi,hall⟩:=hi;have hnl:((aU jd (aN s E) E i 0).map fH).length=E.length:=by rw [bK,iR]
 by_cases hlt:i < E.length;rotate_left
 .obtain rfl:i=E.length:=by omega
  rw [Lu λj hj=>hall j hj hj,Dz];rw [Dz] at hnl;obtain ⟨FE,hFE⟩:∃ z,(oM s E).map fH=z:=⟨_,rfl⟩;have azj:(E.mapIdx λi x=>dJ x (aN s E i)).map fH=FE:=hFE;rw [azj] at hnl ⊢;rw [hFE];dsimp only;refine UD ?_;refine W.ret (?_:nR _ _ _ (.tu [.sc (.int .i64 0),.sc (.int .i64 0)]) [(0,.jO 90 6 FE)] 2 _ _);exact sG rfl rfl rfl ⟨rfl,trivial⟩ rfl
 have hat:((aU jd (aN s E) E i 0).map fH)[i]?=some (fH { dJ E[i] jd with stops:=bJ jd (aN s E i) 0 E[i].l }):=by rw [dw,Qn hlt];rfl
 have VX:∀ k,((aU jd (aN s E) E i 0).map fH).set i (fH { dJ E[i] jd with stops:=bJ jd (aN s E i) k E[i].l })=(aU jd (aN s E) E i k).map fH:=λk=>yH hlt fH 0;have KJ:∀ k,((aU jd (aN s E) E i 0).map iO).set i (iO { dJ E[i] jd with stops:=bJ jd (aN s E i) k E[i].l })=(aU jd (aN s E) E i k).map iO:=λk=>yH hlt iO 0;have atS:=h20 _ (gB hlt);have hLC:=λk c=>ajz ⟨cs,st,aU jd (aN s E) E i k⟩ ⟨h1,h2,by show (aU jd (aN s E) E i k).length<=420;rw [iR];exact hE,λj hj=>by
  have hj2:j < E.length:=by rw [← iR (U:=jd) (V:=aN s E) (E:=E) (n:=i) (k:=k)];exact hj
  exact gX (Nat.le_of_eq (EO (U:=jd) (V:=aN s E) (n:=i) (k:=k) hj2)) (h20 _ (gB hj2))⟩ i c;obtain ⟨l,hl⟩:∃ z,E[i].l=z:=⟨_,rfl⟩;rw [hl] at atS;refine qI ?_;refine W.tr (Tr.open_ 0 i 5 rfl hat rfl (Ku _) rfl) ?_;dsimp only [St.upd,St.new,Nat.reduceAdd];rw [hl] at hat ⊢;refine W.loop (λk:Nat=>k<=l.length/\∀ j (h:j < l.length),j < k->nU s E i l[j]=false) (λk=>⟨[(0,.sc (.int .u8 s)),(3,.pt 1 0 0),(6,.sc (.int .i64 (i:Int))),(7,.sc (.int .i64 (k:Int)))],[(0,.rV 90 6 ((aU jd (aN s E) E i 0).map fH) i 5 (.sl 2)),(1,.box 30 [.ls 3 (cs.map bg),.ls 1 (st.map eInt),.sl 0]),(2,.row 69 5 ((bJ jd (aN s E i) k l).map bI))],3⟩) (λk=>l.length - k) 0 ⟨by omega,λj h h2=>absurd h2 (by omega)⟩ (zqt id) λk hk=>?_;obtain ⟨hk,hno⟩:=hk;have hSl:((bJ jd (aN s E i) k l).map bI).length=l.length:=by rw [bK,yG]
 by_cases hkt:k < l.length;rotate_left
 .obtain rfl:k=l.length:=by omega
  have hcl:((aU jd (aN s E) E i 0).map fH).set i ((fH { dJ E[i] jd with stops:=bJ jd (aN s E i) 0 l }).set 5 (.ow 69 5 ((bJ jd (aN s E i) l.length l).map bI)))=(aU jd (aN s E) E (i+1) 0).map fH:=by
   have h:=VX l.length;rw [hl] at h;have h2:=IU (U:=jd) (V:=aN s E) hlt;rw [hl] at h2;rw [← h2,← h];rfl
  have hany:E[i].l.any (nU s E i)=false:=by rw [hl];exact Xc λk hk=>hno k hk hk
  obtain ⟨SS,hSS⟩:∃ z,(bJ jd (aN s E i) l.length l).map bI=z:=⟨_,rfl⟩;rw [hSS] at hSl hcl ⊢;refine UD ?_;refine WL.ldQ rfl rfl rfl rfl hat zx ?_;refine UD ?_;refine ⟨i+1,⟨by omega,λj hj hji=>?_⟩,by omega,?_⟩
  .by_cases e:j=i;.subst e;exact hany
   .exact hall j hj au
  refine Tr.trans (Tr.close_ 0 rfl rfl rfl hat zx hcl) ?_;exact (zqt id)
 have hSk:((bJ jd (aN s E i) k l).map bI)[k]?=some (bI (gu jd l[k])):=by rw [dw,Dx hkt];rfl
 have hset:=λ{v:Int} (h:v=aN s E i l[k])=>afW (s:=s) (E:=E) (i:=i) hkt h;have hLk:=hLC k l[k].1;have hle:(((aU jd (aN s E) E i 0).map fH).map λr=>r.map (AV.fz 1)).set i (((fH { dJ E[i] jd with stops:=bJ jd (aN s E i) 0 l }).map (AV.fz 1)).set 5 (.ls 5 ((bJ jd (aN s E i) k l).map bI)))=(aU jd (aN s E) E i k).map iO:=by exact amx
 have KF:bC Tryz.prog 102 [.ag [.ls 3 (cs.map bg),.ls 1 (st.map eInt),.ls 6 ((aU jd (aN s E) E i k).map iO)],.sc (.int .i64 i),.sc (.int .i64 l[k].1)] (.sc (.int .i64 (pI E i l[k]))):=by
  have h:=hLk;rw [show ak (bV.mk cs st (aU jd (aN s E) E i k)).evs i l[k].1=ak (E.map iQ) i l[k].1 from IQ _ _] at h;exact h
 have hsame:=λh=>IL (U:=jd) (V:=aN s E i) (k:=k) (l:=l) hkt h;have hnx:nU s E i l[k]=false->∀ j (h:j < l.length),j < k+1->nU s E i l[j]=false:=λh j hj hjk=>by
  by_cases e:j=k;.subst e;exact h
  .exact hno j hj au
 have hbad:nU s E i l[k]=true->pG s E=some i:=λh=>Xd hlt hall (by rw [hl];exact hkt) (by simpa [hl] using h);have ah1:0<=pI E i l[k]:=by unfold pI;exact Ji _
 have hE1:nU s E i l[k]=(decide (l[k].2.2.2.2≠0) && (decide (pI E i l[k]=0)|| (decide (s=1) && decide (pI E i l[k] < l[k].2.2.2.2)))):=rfl;have hV1:aN s E i l[k]=if l[k].2.2.2.2=0 then 0 else if s=1 then (l[k].2.2.2.2:Int) else pI E i l[k]:=rfl;have hU1:jd l[k]=(l[k].2.2.2.2:Int):=rfl;have hSe:bI (gu jd l[k])=[.sc (.int .i64 l[k].1),.sc (.int .i64 l[k].2.1),.sc (.int .i64 l[k].2.2.1),.sc (.int .i64 l[k].2.2.2.1),.sc (.int .i64 l[k].2.2.2.2)]:=rfl;rw [hSe] at hSk;obtain ⟨⟨c,f,r,g,h⟩,hx⟩:∃ z,l[k]=z:=⟨_,rfl⟩;rw [hx] at hSk hset KF hsame hnx hbad ah1 hE1 hV1 hU1;obtain ⟨LG,hLG⟩:∃ z,pI E i (c,f,r,g,h)=z:=⟨_,rfl⟩;rw [hLG] at KF ah1 hE1 hV1;dsimp only at hE1 hV1 KF hU1 hSk;have hh0:(0:Int)<=(h:Int):=Ji _;obtain ⟨SS,hSS⟩:∃ z,(bJ jd (aN s E i) k l).map bI=z:=⟨_,rfl⟩;rw [hSS] at hSl hSk hset hle ⊢;clear hall hno VX KJ hLC hLk hSe;by_cases h0:h=0
 .have hE2:=hnx (by rw [hE1,h0];simp);have hS2:=hsame (by rw [hV1,if_pos h0,hU1,h0];rfl);clear hset hbad;refine qI ?_;refine WL.ldQ rfl rfl rfl rfl hat zx ?_;refine qI ?_;refine WL.ldQ rfl rfl rfl rfl hat zx ?_;refine arG ?_;refine ⟨k+1,⟨by omega,hE2⟩,by omega,?_⟩;exact (ku (λq=>q) (by repeat (first|exact trivial|refine ⟨⟨?_,?_,?_⟩,?_⟩|rfl|exact congrArg (λq=>some (AO.row _ _ q)) (by rw [hS2,hSS])|exact congrArg (λq=>some (AO.jO _ _ q)) (by rw [hS2,hSS]))) rfl)
 by_cases hz:LG=0
 .rw [hbad (by rw [hE1,hz];simp [h0])];dsimp only;clear hE1 hV1 hU1 hnx hsame hset hbad;by_cases s1:s=1
  .subst s1;exact alq
  .skip;exact alq
 by_cases s1:s=1
 .by_cases hg:LG < (h:Int)
  .rw [hbad (by rw [hE1,bQ s1,bQ hg];simp [h0])];dsimp only;clear hE1 hV1 hU1 hnx hsame hset hbad;subst s1;exact alq
  .have hE2:=hnx (by rw [hE1,bW hz,bW hg];simp);have hS2:=hset (v:=(h:Int)) (by rw [hV1,if_neg h0,if_pos s1]);clear hE1 hV1 hU1 hnx hsame hset hbad;subst s1;exact arZ
 .have hE2:=hnx (by rw [hE1,bW hz,bW s1];simp);have hS2:=hset (v:=LG) (by rw [hV1,if_neg h0,if_neg s1]);clear hE1 hV1 hU1 hnx hsame hset hbad;exact arZ
end Go.Proofs.YthohlofpphjofaaGreatDoor
