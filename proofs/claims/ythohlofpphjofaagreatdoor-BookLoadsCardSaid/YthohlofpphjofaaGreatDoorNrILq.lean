/- The reader of the program: the holds. (RWN.) -/
import Derived.Test.YthohlofpphjofaaGreatDoorNrDLq
set_option maxHeartbeats 8000000
set_option maxRecDepth 100000
set_option linter.unusedVariables false
set_option linter.unusedSimpArgs false
namespace Go.Proofs.YthohlofpphjofaaGreatDoor
open Go.RowKit
theorem arx {p:Prop}(h:p:=by repeat (first|exact trivial|refine ⟨⟨?_,?_,?_⟩,?_⟩|rfl|exact congrArg (λq=>some (AO.row _ _ q)) hS2|exact congrArg (λq=>some (AO.jO _ _ q)) hS2)):p:=h
theorem zx {p:Prop}(h:p:=by show 5 < 6;omega):p:=h
theorem amH {p:Prop}(h:p:=by
 clear hHe hV1 hE1 hnx hsame hset hHp hHm;refine arW ?_;refine DK.vl rfl (WV.Iy (dD _) rfl (aj Tryz.func95 rfl rfl) rfl (.cons (fG.ag (.cons (fG.pu rfl) (.cons (fG.pu rfl) (.cons (fG.rV 1 rfl (fG.row rfl) (ug _) hat zx hle) .nil)))) (.cons (fG.pu rfl) (.cons (fG.pu rfl) .nil))) Aw KF.g) ?_;refine Rz ?_;refine N8 ?_;exact OD):p:=h
theorem amx {p:Prop}(h:p:=by
 have h:=KJ k;rw [hl] at h;rw [Gl,acB,← h];rfl):p:=h
theorem ar4 {p:Prop}(h:p:=by
 clear hHe hV1 hE1 hnx hsame hset hHp hHm hbad;refine arW ?_;refine DK.vl rfl (WV.Iy (dD _) rfl (aj Tryz.func95 rfl rfl) rfl (.cons (fG.ag (.cons (fG.pu rfl) (.cons (fG.pu rfl) (.cons (fG.rV 1 rfl (fG.row rfl) (ug _) hat zx hle) .nil)))) (.cons (fG.pu rfl) (.cons (fG.pu rfl) .nil))) Aw KF.g) ?_;refine Rz ?_;refine aye ?_;refine aV.ldQ rfl aK rfl rfl rfl hat zx ?_;refine aV.st rfl aK rfl ?_;refine akR ?_;refine aV.st rfl aK rfl ?_;refine aV.xq rfl rfl rfl rfl rfl rfl rfl rfl rfl rfl rfl rfl (TM hSk (by show 4+1<=5;omega) rfl) rfl ⟨rfl,rfl,trivial⟩ (λh=>by cases h) ?_;refine aV.nil ?_;refine N8 ?_;refine ⟨k+1,⟨by omega,hE2⟩,by omega,?_⟩;exact (ku (λq=>q) arx rfl)):p:=h
theorem arW {p q:Prop}(k:q)(h:iF q->p:=by
 intro hq;refine arH ?_;refine iY ?_;refine Rz ?_;exact hq.k):p:=h ⟨k⟩
theorem arH {p q:Prop}(k:q)(h:iF q->p:=by
 intro hq;refine N8 ?_;refine WL.idx rfl rfl au Zp ?_;refine N8 ?_;exact hq.k):p:=h ⟨k⟩
theorem aye {p q:Prop}(k:q)(h:iF q->p:=by
 intro hq;refine N8 ?_;refine W.pK aK ?_;refine WA.dt [false,false,false,false,false,false,false,false,false,false,false,false,false,false,true] [0,4] [0,4,1,3] 14 aK aK aK ⟨rfl,rfl,trivial⟩ ⟨rfl,rfl,rfl,rfl,trivial⟩ ?_;refine aV.st rfl aK rfl ?_;refine aV.vl rfl aK (WV.IC rfl rfl) ?_;refine aV.st rfl aK rfl ?_;refine aV.st rfl aK rfl ?_;refine aV.st rfl aK rfl ?_;refine aV.st rfl aK rfl ?_;refine aV.ixs rfl aK rfl ⟨by omega,by omega⟩ ?_;refine aV.st rfl aK rfl ?_;exact hq.k):p:=h ⟨k⟩
theorem Rz {p q:Prop}(k:q)(h:iF q->p:=by
 intro hq;repeat (first|refine DK.vl rfl (WV.IC rfl rfl) ?_|refine DK.st rfl ?_|refine DK.nil ?_)
 exact hq.k):p:=h ⟨k⟩
def wJ (s:Int)(x:NC):List AV:=[.ls 6 (x.l.map (yt s))]
def iH:N5->Int:=λ_=>0
theorem afn {s:Int} {E:List NC} {i k:Nat} {l:List N5} (h:k<l.length) {v:Int} (hv:v=aN s E i l[k]):((bJ iH (aN s E i) k l).map bI).set k (jL 4 [.sc (.int .i64 v)] (bI (gu iH l[k])))=(bJ iH (aN s E i) (k+1) l).map bI:=by
 subst hv;have e:jL 4 [.sc (.int .i64 (aN s E i l[k]))] (bI (gu iH l[k]))=bI (gu (aN s E i) l[k]):=rfl;rw [e,← FI,Dy h]
theorem aoL (s:Int) (hs:1<=s/\s<=4) (cs:List Crs) (st:List Int) (T:List (List AV)) (cl:Bool) (E:List NC) (h1:cs.length<=64) (h2:st.length<=64) (hE:E.length<=420) (h20:∀ x∈E,x.l.length<=20) :OE jJ 0 Tryz.prog 43 [.pt 0 0 0] [(0,iy (.int .u8 s) (bT s) (cs.map bg) (st.map eInt) ((E.length:Int)+2) T cl),(1,.jO 90 6 ((E.map iQ).map fH)),(2,.row 153 1 (E.map (wJ s)))] 3 (match pG s E with
    | some i=>.er (fA ((i:Int)+3) 24)| none=>.ok (.tu []) [(0,iy (.int .u8 s) (bT s) (cs.map bg) (st.map eInt) ((E.length:Int)+2) T cl),(1,.jO 90 6 ((oM s E).map fH)),(2,.row 153 1 (E.map (wJ s)))] 3):=by
 refine OE.intro mG Tryz.func43 rfl Tryz.ntmps43 (bG rfl) rfl λw0 F0 fp pg hB=>?_;unfold iy;refine iU ?_;have hNl:(E.map (wJ s)).length=E.length:=bK _;have atB:∀ i (h:i < E.length),(E.map (wJ s))[((i:Nat):Int).toNat]?=some (wJ s E[i]):=λi h=>by exact RI
 obtain ⟨NN,hNN⟩:∃ z,E.map (wJ s)=z:=⟨_,rfl⟩;rw [hNN] at hNl atB ⊢;refine akM ?_;refine W.loop (λx:Nat×Int=>x.1<=E.length/\(∀ j (h:j < E.length),j < x.1->E[j].l.any (nU s E j)=false)/\(x.1=0->x.2=(E.length:Int)+2)/\(0 < x.1->x.2=(x.1:Int)+2)) (λx=>⟨[(0,.pt 0 0 0),(10,.sl 2),(11,.sc (.int .i64 (E.length:Int))),(12,.sc (.int .i64 (x.1:Int)))],[(0,.box 78 [.sc (.int .u8 s),.sc (bT s),.ls 3 (cs.map bg),.ls 1 (st.map eInt),.sl 1,.sl 2,.sc (.int .i64 x.2),.ls 1 T,.sc (.bool cl)]),(1,.jO 90 6 ((aU iH (aN s E) E x.1 0).map fH)),(2,.row 153 1 NN)],3⟩) (λx=>E.length - x.1) (0,(E.length:Int)+2) ⟨by omega,λj h h2=>absurd h2 (by omega),λ_=>rfl,λh=>absurd h (by omega)⟩ (by rw [hNl];exact (ku (λq=>q) (by repeat (first|exact trivial|refine ⟨⟨?_,?_,?_⟩,?_⟩|rfl|exact congrArg (λq=>some (AO.row _ _ q)) (by rw [LM];rfl)|exact congrArg (λq=>some (AO.jO _ _ q)) (by rw [LM];rfl))) rfl)) λx hx=>?_;obtain ⟨i,lv⟩:=x;obtain ⟨hi,hall,hl0,hl1⟩:=hx;dsimp only at hi hall hl0 hl1 ⊢;by_cases hlt:i < E.length;rotate_left
 .obtain rfl:i=E.length:=by omega
  have hlv:lv=(E.length:Int)+2:=by
   by_cases e:E.length=0;.exact hl0 e
   .exact hl1 au
  rw [Lu λj hj=>hall j hj hj,hlv,Dz];refine akM ?_;exact iD (σ':=⟨[],[(0,.box 78 [.sc (.int .u8 s),.sc (bT s),.ls 3 (cs.map bg),.ls 1 (st.map eInt),.sl 1,.sl 2,.sc (.int .i64 ((E.length:Int)+2)),.ls 1 T,.sc (.bool cl)]),(1,.jO 90 6 ((oM s E).map fH)),(2,.row 153 1 NN)],3⟩) (zqt id) (yC rfl rfl rfl rfl rfl)
 have hrow:=atB i hlt;have hat:((aU iH (aN s E) E i 0).map fH)[i]?=some (fH { dJ E[i] iH with stops:=bJ iH (aN s E i) 0 E[i].l }):=by rw [dw,Qn hlt];rfl
 have hnl:((aU iH (aN s E) E i 0).map fH).length=E.length:=by rw [bK,iR]
 have VX:∀ k,((aU iH (aN s E) E i 0).map fH).set i (fH { dJ E[i] iH with stops:=bJ iH (aN s E i) k E[i].l })=(aU iH (aN s E) E i k).map fH:=λk=>yH hlt fH 0;have KJ:∀ k,((aU iH (aN s E) E i 0).map iO).set i (iO { dJ E[i] iH with stops:=bJ iH (aN s E i) k E[i].l })=(aU iH (aN s E) E i k).map iO:=λk=>yH hlt iO 0;have atS:=h20 _ (gB hlt);have hLC:=λk c=>Xw ⟨cs,st,aU iH (aN s E) E i k⟩ ⟨h1,h2,by show (aU iH (aN s E) E i k).length<=420;rw [iR];exact hE,λj hj=>by
  have hj2:j < E.length:=by rw [← iR (U:=iH) (V:=aN s E) (E:=E) (n:=i) (k:=k)];exact hj
  exact gX (Nat.le_of_eq (EO (U:=iH) (V:=aN s E) (n:=i) (k:=k) hj2)) (h20 _ (gB hj2))⟩ i c;obtain ⟨l,hl⟩:∃ z,E[i].l=z:=⟨_,rfl⟩;rw [hl] at atS;have hev:wJ s E[i]=[.ls 6 (l.map (yt s))]:=by unfold wJ;rw [hl]
 rw [hev] at hrow;have aeS:(l.map (yt s)).length=l.length:=bK _;have Eo:∀ k (h:k < l.length),(l.map (yt s))[((k:Nat):Int).toNat]?=some (yt s l[k]):=λk h=>by exact RI
 obtain ⟨NL,atA⟩:∃ z,l.map (yt s)=z:=⟨_,rfl⟩;rw [atA] at hrow aeS Eo;refine N8 ?_;refine WL.ldr rfl rfl hrow rfl rfl ?_;refine N8 ?_;refine W.tr (Tr.open_ 1 i 5 rfl hat rfl (Ku _) rfl) ?_;dsimp only [St.upd,St.new,Nat.reduceAdd];rw [hl] at hat ⊢;refine W.loop (λk:Nat=>k<=l.length/\∀ j (h:j < l.length),j < k->nU s E i l[j]=false) (λk=>⟨[(0,.pt 0 0 0),(2,.sc (.int .i64 (i:Int))),(10,.sl 2),(11,.sc (.int .i64 (E.length:Int))),(12,.sc (.int .i64 (i:Int))),(22,.ls 6 NL),(23,.sc (.int .i64 (l.length:Int))),(24,.sc (.int .i64 (k:Int)))],[(0,.box 78 [.sc (.int .u8 s),.sc (bT s),.ls 3 (cs.map bg),.ls 1 (st.map eInt),.sl 1,.sl 2,.sc (.int .i64 ((i:Int)+3)),.ls 1 T,.sc (.bool cl)]),(1,.rV 90 6 ((aU iH (aN s E) E i 0).map fH) i 5 (.sl 3)),(2,.row 153 1 NN),(3,.row 69 5 ((bJ iH (aN s E i) k l).map bI))],4⟩) (λk=>l.length - k) 0 ⟨by omega,λj h h2=>absurd h2 (by omega)⟩ (by rw [aeS];exact (zqt id)) λk hk=>?_;obtain ⟨hk,hno⟩:=hk;have hSl:((bJ iH (aN s E i) k l).map bI).length=l.length:=by rw [bK,yG]
 by_cases hkt:k < l.length;rotate_left
 .obtain rfl:k=l.length:=by omega
  have hcl:((aU iH (aN s E) E i 0).map fH).set i ((fH { dJ E[i] iH with stops:=bJ iH (aN s E i) 0 l }).set 5 (.ow 69 5 ((bJ iH (aN s E i) l.length l).map bI)))=(aU iH (aN s E) E (i+1) 0).map fH:=by
   have h:=VX l.length;rw [hl] at h;have h2:=IU (U:=iH) (V:=aN s E) hlt;rw [hl] at h2;rw [← h2,← h];rfl
  have hany:E[i].l.any (nU s E i)=false:=by rw [hl];exact Xc λk hk=>hno k hk hk
  refine akM ?_;refine ⟨(i+1,(i:Int)+3),⟨by show i+1<=_;omega,λj hj hji=>?_,λh=>absurd h (by show ¬ i+1=0;omega),λ_=>by show (i:Int)+3=((i+1:Nat):Int)+2;omega⟩,by show E.length - (i+1) < E.length - i;omega,?_⟩
  .by_cases e:j=i;.subst e;exact hany
   .exact hall j hj (by have:j < i+1:=hji;omega)
  refine Tr.trans (Tr.close_ 1 rfl rfl rfl hat zx hcl) ?_;exact (zqt id)
 have Zp:=Eo k hkt;have hSk:((bJ iH (aN s E i) k l).map bI)[k]?=some (bI (gu iH l[k])):=by rw [dw,Dx hkt];rfl
 have hset:=λ{v:Int} (h:v=aN s E i l[k])=>afn (s:=s) (E:=E) (i:=i) hkt h;have hLk:=hLC k l[k].1;have hle:(((aU iH (aN s E) E i 0).map fH).map λr=>r.map (AV.fz 1)).set i (((fH { dJ E[i] iH with stops:=bJ iH (aN s E i) 0 l }).map (AV.fz 1)).set 5 (.ls 5 ((bJ iH (aN s E i) k l).map bI)))=(aU iH (aN s E) E i k).map iO:=by exact amx
 have KF:bC Tryz.prog 95 [.ag [.ls 3 (cs.map bg),.ls 1 (st.map eInt),.ls 6 ((aU iH (aN s E) E i k).map iO)],.sc (.int .i64 i),.sc (.int .i64 l[k].1)] (.sc (.int .i64 (pI E i l[k]))):=by
  have h:=hLk;rw [show ak (bV.mk cs st (aU iH (aN s E) E i k)).evs i l[k].1=ak (E.map iQ) i l[k].1 from IQ _ _] at h;exact h
 have hsame:=λh=>IL (U:=iH) (V:=aN s E i) (k:=k) (l:=l) hkt h;have hnx:nU s E i l[k]=false->∀ j (h:j < l.length),j < k+1->nU s E i l[j]=false:=λh j hj hjk=>by
  by_cases e:j=k;.subst e;exact h
  .exact hno j hj au
 have hbad:nU s E i l[k]=true->pG s E=some i:=λh=>Xd hlt hall (by rw [hl];exact hkt) (by simpa [hl] using h);have ah1:0<=pI E i l[k]:=by unfold pI;exact Ji _
 have hE1:nU s E i l[k]=(decide (l[k].2.2.2.2≠0) && (decide (pI E i l[k]=0)|| (decide (s=1) && decide (pI E i l[k] < l[k].2.2.2.2)))):=rfl;have hV1:aN s E i l[k]=if l[k].2.2.2.2=0 then 0 else if s=1 then (l[k].2.2.2.2:Int) else pI E i l[k]:=rfl;obtain ⟨⟨c,f,r,g,h⟩,hx⟩:∃ z,l[k]=z:=⟨_,rfl⟩;rw [hx] at Zp hSk hset KF hsame hnx hbad ah1 hE1 hV1;obtain ⟨LG,hLG⟩:∃ z,pI E i (c,f,r,g,h)=z:=⟨_,rfl⟩;rw [hLG] at KF ah1 hE1 hV1;dsimp only at hE1 hV1 KF;obtain ⟨H,hH⟩:∃ z,nH s h=z:=⟨_,rfl⟩;have hHe:H=if h=0 then 0 else if s=1 then (h:Int) else -1:=hH.symm;unfold yt at Zp;dsimp only at Zp;rw [hH] at Zp;obtain ⟨SS,hSS⟩:∃ z,(bJ iH (aN s E i) k l).map bI=z:=⟨_,rfl⟩;rw [hSS] at hSl hSk hset hle ⊢;clear hall hno VX KJ hLC hLk atB Eo hl0 hl1;by_cases h0:h=0
 .have hH0:H=0:=by rw [hHe,if_pos h0]
  have hE2:=hnx (by rw [hE1,h0];simp);have hS2:=hsame (by rw [hV1,if_pos h0];rfl);refine arH ?_;refine ⟨k+1,⟨by omega,hE2⟩,by omega,?_⟩;rw [hS2,hSS];exact (zqt id)
 have hHn:H≠0:=by rw [hHe,if_neg h0];split<;>omega
 have hHp:s=1->H=(h:Int):=λe=>by rw [hHe,if_neg h0,if_pos e]
 have hHm:s≠1->H=-1:=λe=>by rw [hHe,if_neg h0,if_neg e]
 have hh0:(0:Int)<=(h:Int):=Ji _;by_cases hz:LG=0
 .rw [hbad (by rw [hE1,hz];simp [h0])];exact amH
 by_cases hg:LG < H
 .have s1:s=1:=by
   by_cases e:s=1;.exact e
   .have:=hHm e;omega
  have hHh:=hHp s1;rw [hbad (by rw [hE1,bQ s1,bQ (show LG < (h:Int) by omega)];simp [h0])];exact amH
 have hE2:=hnx (by
  rw [hE1,bW hz];by_cases e:s=1;.rw [bW (show ¬ LG < (h:Int) by have:=hHp e;omega)];simp
  .rw [bW e];simp);by_cases hn:H < 0
 .have s1:s≠1:=λe=>by have:=hHp e;omega
  have hS2:=hset (v:=LG) (by rw [hV1,if_neg h0,if_neg s1]);exact ar4
 .have s1:s=1:=by
   by_cases e:s=1;.exact e
   .have:=hHm e;omega
  have hS2:=hset (v:=H) (by rw [hV1,if_neg h0,if_pos s1];exact hHp s1);exact ar4
end Go.Proofs.YthohlofpphjofaaGreatDoor
