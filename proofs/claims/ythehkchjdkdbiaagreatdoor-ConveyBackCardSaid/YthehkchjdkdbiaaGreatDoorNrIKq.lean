/- The reader of the program: the holds. (RWN.) -/
import Derived.Test.YthehkchjdkdbiaaGreatDoorNrDKq
set_option maxHeartbeats 8000000
set_option maxRecDepth 100000
set_option linter.unusedVariables false
set_option linter.unusedSimpArgs false
namespace Go.Proofs.YthehkchjdkdbiaaGreatDoor
open Go.RowKit
theorem alo {p:Prop}(h:p:=by
 clear hHe hV1 hE1 hnx hsame hset hHp hHm
 refine ajM ?_
 refine QD ?_
 refine DK.vl rfl (WV.abJ (dL _) rfl (ak Tryz.func95 rfl rfl) rfl (.cons (gY.ag (.cons (gY.pu rfl) (.cons (gY.pu rfl) (.cons (gY.oW 1 rfl (gY.row rfl) (ni _) hat Dc hle) .nil)))) (.cons (gY.pu rfl) (.cons (gY.pu rfl) .nil))) H7 agO.g) ?_
 refine ajK ?_
 refine MV ?_
 exact Nu):p:=h
theorem aaB {p:Prop}(h:p:=by
 rw [fO,bT,aI h];rfl):p:=h
theorem aqM {p:Prop}(h:p:=by
 clear hHe hV1 hE1 hnx hsame hset hHp hHm hbad
 refine ajM ?_
 refine QD ?_
 refine DK.vl rfl (WV.abJ (dL _) rfl (ak Tryz.func95 rfl rfl) rfl (.cons (gY.ag (.cons (gY.pu rfl) (.cons (gY.pu rfl) (.cons (gY.oW 1 rfl (gY.row rfl) (ni _) hat Dc hle) .nil)))) (.cons (gY.pu rfl) (.cons (gY.pu rfl) .nil))) H7 agO.g) ?_
 refine axa ?_
 refine aZ.ldQ rfl bD rfl rfl rfl hat Dc ?_
 refine Df ?_
 refine TJ ?_
 refine XT ?_
 refine TJ ?_
 refine aZ.yT rfl rfl rfl rfl rfl rfl rfl rfl rfl rfl rfl rfl (Jd hSk XG rfl) rfl ⟨rfl,rfl,trivial⟩ (fun h=>by cases h) ?_
 refine aZ.nil ?_
 refine MV ?_
 refine ⟨k+1,⟨by omega,hE2⟩,by omega,?_⟩
 exact (kL (fun q=>q) (by repeat (first|exact trivial|refine ⟨⟨?_,?_,?_⟩,?_⟩|rfl|exact congrArg (fun q=>some (AO.row _ _ q)) hS2|exact congrArg (fun q=>some (AO.jM _ _ q)) hS2)) rfl)):p:=h
theorem axa {p q:Prop}(k:q)(h:aP q→p:=by
 intro hq
 refine ajK ?_
 refine aw6 ?_
 refine TJ ?_
 refine QA ?_
 refine Df ?_
 refine Df ?_
 refine XT ?_
 refine TJ ?_
 exact hq.k):p:=h ⟨k⟩
theorem ajM {p q:Prop}(k:q)(h:aP q→p:=by
 intro hq
 refine MV ?_
 refine WL.idx rfl rfl au OM ?_
 refine MV ?_
 exact hq.k):p:=h ⟨k⟩
theorem aw6 {p q:Prop}(k:q)(h:aP q→p:=by
 intro hq
 refine MV ?_
 refine W.rD bD ?_
 refine WA.dt [false,false,false,false,false,false,false,false,false,false,false,false,false,false,true] [0,4] [0,4,1,3] 14 bD bD bD ⟨rfl,rfl,trivial⟩ ⟨rfl,rfl,rfl,rfl,trivial⟩ ?_
 exact hq.k):p:=h ⟨k⟩
def vC (s:Int)(x:NC):List AV:=[.ls 6 (x.l.map (xu s))]
def iM:N5→Int:=fun _=>0
theorem aep {s:Int} {E:List NC} {i k:Nat} {l:List N5} (h:k<l.length) {v:Int} (hv:v=dQ s E i l[k]):((dZ iM (dQ s E i) k l).map aC).set k (jQ 4 [.sc (.int .i64 v)] (aC (iI iM l[k])))=(dZ iM (dQ s E i) (k+1) l).map aC:=by
 subst hv
 have e:jQ 4 [.sc (.int .i64 (dQ s E i l[k]))] (aC (iI iM l[k]))=aC (iI (dQ s E i) l[k]):=rfl
 rw [e,← wX,J5 h]
theorem ant (s:Int) (hs:1≤s∧s≤4) (cs:List Crs) (st:List Int) (T:List (List AV)) (cl:Bool) (E:List NC) (h1:cs.length≤64) (h2:st.length≤64) (hE:E.length≤420) (h20:∀ x∈E,x.l.length≤20) :
  Ou jE 0 Tryz.prog 43 [.pt 0 0 0] [(0,iC (.int .u8 s) (bG s) (cs.map aF) (st.map eInt) ((E.length:Int)+2) T cl),(1,.jM 90 6 ((E.map gI).map bM)),(2,.row 153 1 (E.map (vC s)))] 3
   (match qZ s E with
    | some i=>.er (eP ((i:Int)+3) 24)
    | none=>.ok (.tu []) [(0,iC (.int .u8 s) (bG s) (cs.map aF) (st.map eInt) ((E.length:Int)+2) T cl),(1,.jM 90 6 ((pU s E).map bM)),(2,.row 153 1 (E.map (vC s)))] 3):=by
 refine Ou.intro kV Tryz.func43 rfl Tryz.ntmps43 (bU rfl) rfl fun w0 F0 fp pg hB=>?_
 unfold iC
 refine gB ?_
 have hNl:(E.map (vC s)).length=E.length:=aH _
 have asv:∀ i (h:i < E.length),(E.map (vC s))[((i:Nat):Int).toNat]?=some (vC s E[i]):=fun i h=>by
  exact aaB
 obtain ⟨NN,hNN⟩:∃ z,E.map (vC s)=z:=⟨_,rfl⟩
 rw [hNN] at hNl asv ⊢
 refine ajt ?_
 refine W.loop (fun x:Nat×Int=>x.1≤E.length∧(∀ j (h:j < E.length),j < x.1→E[j].l.any (rC s E j)=false)∧(x.1=0→x.2=(E.length:Int)+2)∧(0 < x.1→x.2=(x.1:Int)+2)) (fun x=>⟨[(0,.pt 0 0 0),(10,.sl 2),(11,.sc (.int .i64 (E.length:Int))),(12,.sc (.int .i64 (x.1:Int)))],
  [(0,.box 78 [.sc (.int .u8 s),.sc (bG s),.ls 3 (cs.map aF),.ls 1 (st.map eInt),.sl 1,.sl 2,.sc (.int .i64 x.2),.ls 1 T,.sc (.bool cl)]),(1,.jM 90 6 ((dO iM (dQ s E) E x.1 0).map bM)),(2,.row 153 1 NN)],3⟩) (fun x=>E.length - x.1) (0,(E.length:Int)+2) ⟨by omega,fun j h h2=>absurd h2 (by omega),fun _=>rfl,fun h=>absurd h (by omega)⟩ (by rw [hNl];exact (kL (fun q=>q) (by repeat (first|exact trivial|refine ⟨⟨?_,?_,?_⟩,?_⟩|rfl|exact congrArg (fun q=>some (AO.row _ _ q)) (by rw [VH];rfl)|exact congrArg (fun q=>some (AO.jM _ _ q)) (by rw [VH];rfl))) rfl)) fun x hx=>?_
 obtain ⟨i,lv⟩:=x
 obtain ⟨hi,hall,hl0,hl1⟩:=hx
 dsimp only at hi hall hl0 hl1 ⊢
 by_cases hlt:i < E.length
 rotate_left
 ·obtain rfl:i=E.length:=by omega
  have hlv:lv=(E.length:Int)+2:=by
   by_cases e:E.length=0
   ·exact hl0 e
   ·exact hl1 au
  rw [Y3 fun j hj=>hall j hj hj,hlv,Zb]
  refine ajt ?_
  exact xB (σ':=⟨[],[(0,.box 78 [.sc (.int .u8 s),.sc (bG s),.ls 3 (cs.map aF),.ls 1 (st.map eInt),.sl 1,.sl 2,.sc (.int .i64 ((E.length:Int)+2)),.ls 1 T,.sc (.bool cl)]),(1,.jM 90 6 ((pU s E).map bM)),(2,.row 153 1 NN)],3⟩) (zqt id) (sQ rfl rfl rfl rfl rfl)
 have hrow:=asv i hlt
 have hat:((dO iM (dQ s E) E i 0).map bM)[i]?=some (bM { dN E[i] iM with stops:=dZ iM (dQ s E i) 0 E[i].l }):=by rw [bT,aez hlt];rfl
 have hnl:((dO iM (dQ s E) E i 0).map bM).length=E.length:=by rw [aH,iH]
 have apy:∀ k,((dO iM (dQ s E) E i 0).map bM).set i (bM { dN E[i] iM with stops:=dZ iM (dQ s E i) k E[i].l })=(dO iM (dQ s E) E i k).map bM:=fun k=>J6 hlt bM 0
 have apz:∀ k,((dO iM (dQ s E) E i 0).map dI).set i (dI { dN E[i] iM with stops:=dZ iM (dQ s E i) k E[i].l })=(dO iM (dQ s E) E i k).map dI:=fun k=>J6 hlt dI 0
 have ayE:=h20 _ (dS hlt)
 have hLC:=fun k c=>Wn ⟨cs,st,dO iM (dQ s E) E i k⟩ ⟨h1,h2,by show (dO iM (dQ s E) E i k).length≤420;rw [iH];exact hE,fun j hj=>by
  have hj2:j < E.length:=by rw [← iH (U:=iM) (V:=dQ s E) (E:=E) (n:=i) (k:=k)];exact hj
  exact jV (Nat.le_of_eq (RU (U:=iM) (V:=dQ s E) (n:=i) (k:=k) hj2)) (h20 _ (dS hj2))⟩ i c
 obtain ⟨l,hl⟩:∃ z,E[i].l=z:=⟨_,rfl⟩
 rw [hl] at ayE
 have hev:vC s E[i]=[.ls 6 (l.map (xu s))]:=by unfold vC;rw [hl]
 rw [hev] at hrow
 have adX:(l.map (xu s)).length=l.length:=aH _
 have Dy:∀ k (h:k < l.length),(l.map (xu s))[((k:Nat):Int).toNat]?=some (xu s l[k]):=fun k h=>by
  exact aaB
 obtain ⟨NL,asr⟩:∃ z,l.map (xu s)=z:=⟨_,rfl⟩
 rw [asr] at hrow adX Dy
 refine MV ?_
 refine WL.ldr rfl rfl hrow rfl rfl ?_
 refine MV ?_
 refine W.tr (Tr.open_ 1 i 5 rfl hat rfl (Dw _) rfl) ?_
 dsimp only [St.upd,St.new,Nat.reduceAdd]
 rw [hl] at hat ⊢
 refine W.loop (fun k:Nat=>k≤l.length∧∀ j (h:j < l.length),j < k→rC s E i l[j]=false) (fun k=>⟨[(0,.pt 0 0 0),(2,.sc (.int .i64 (i:Int))),(10,.sl 2),(11,.sc (.int .i64 (E.length:Int))),(12,.sc (.int .i64 (i:Int))),(22,.ls 6 NL),(23,.sc (.int .i64 (l.length:Int))),(24,.sc (.int .i64 (k:Int)))],
  [(0,.box 78 [.sc (.int .u8 s),.sc (bG s),.ls 3 (cs.map aF),.ls 1 (st.map eInt),.sl 1,.sl 2,.sc (.int .i64 ((i:Int)+3)),.ls 1 T,.sc (.bool cl)]),(1,.oW 90 6 ((dO iM (dQ s E) E i 0).map bM) i 5 (.sl 3)),(2,.row 153 1 NN),(3,.row 69 5 ((dZ iM (dQ s E i) k l).map aC))],4⟩) (fun k=>l.length - k) 0 ⟨by omega,fun j h h2=>absurd h2 (by omega)⟩ (by rw [adX];exact (zqt id)) fun k hk=>?_
 obtain ⟨hk,hno⟩:=hk
 have hSl:((dZ iM (dQ s E i) k l).map aC).length=l.length:=by rw [aH,xJ]
 by_cases hkt:k < l.length
 rotate_left
 ·obtain rfl:k=l.length:=by omega
  have hcl:((dO iM (dQ s E) E i 0).map bM).set i ((bM { dN E[i] iM with stops:=dZ iM (dQ s E i) 0 l }).set 5 (.ow 69 5 ((dZ iM (dQ s E i) l.length l).map aC)))=(dO iM (dQ s E) E (i+1) 0).map bM:=by
   have h:=apy l.length
   rw [hl] at h
   have h2:=VJ (U:=iM) (V:=dQ s E) hlt
   rw [hl] at h2
   rw [← h2,← h];rfl
  have hany:E[i].l.any (rC s E i)=false:=by rw [hl];exact ahz fun k hk=>hno k hk hk
  refine ajt ?_
  refine ⟨(i+1,(i:Int)+3),⟨by show i+1≤_;omega,fun j hj hji=>?_,fun h=>absurd h (by show ¬ i+1=0;omega),fun _=>by show (i:Int)+3=((i+1:Nat):Int)+2;omega⟩,by show E.length - (i+1) < E.length - i;omega,?_⟩
  ·by_cases e:j=i
   ·subst e;exact hany
   ·exact hall j hj (by have:j < i+1:=hji;omega)
  refine Tr.trans (Tr.close_ 1 rfl rfl rfl hat Dc hcl) ?_
  exact (zqt id)
 have OM:=Dy k hkt
 have hSk:((dZ iM (dQ s E i) k l).map aC)[k]?=some (aC (iI iM l[k])):=by rw [bT,J4 hkt];rfl
 have hset:=fun {v:Int} (h:v=dQ s E i l[k])=>aep (s:=s) (E:=E) (i:=i) hkt h
 have hLk:=hLC k l[k].1
 have hle:(((dO iM (dQ s E) E i 0).map bM).map fun r=>r.map (AV.fz 1)).set i (((bM { dN E[i] iM with stops:=dZ iM (dQ s E i) 0 l }).map (AV.fz 1)).set 5 (.ls 5 ((dZ iM (dQ s E i) k l).map aC)))=(dO iM (dQ s E) E i k).map dI:=by
  have h:=apz k
  rw [hl] at h
  rw [sG,QZ,← h];rfl
 have agO:aU Tryz.prog 95 [.ag [.ls 3 (cs.map aF),.ls 1 (st.map eInt),.ls 6 ((dO iM (dQ s E) E i k).map dI)],.sc (.int .i64 i),.sc (.int .i64 l[k].1)] (.sc (.int .i64 (yj E i l[k]))):=by
  have h:=hLk
  rw [show ah (aS.mk cs st (dO iM (dQ s E) E i k)).evs i l[k].1=ah (E.map gI) i l[k].1 from VI _ _] at h
  exact h
 have hsame:=fun h=>VG (U:=iM) (V:=dQ s E i) (k:=k) (l:=l) hkt h
 have hnx:rC s E i l[k]=false→∀ j (h:j < l.length),j < k+1→rC s E i l[j]=false:=fun h j hj hjk=>by
  by_cases e:j=k
  ·subst e;exact h
  ·exact hno j hj au
 have hbad:rC s E i l[k]=true→qZ s E=some i:=fun h=>ahE hlt hall (by rw [hl];exact hkt) (by simpa [hl] using h)
 have avM:0≤yj E i l[k]:=by unfold yj;exact Gf _
 have hE1:rC s E i l[k]=(decide (l[k].2.2.2.2≠0) && (decide (yj E i l[k]=0)|| (decide (s=1) && decide (yj E i l[k] < l[k].2.2.2.2)))):=rfl
 have hV1:dQ s E i l[k]=if l[k].2.2.2.2=0 then 0 else if s=1 then (l[k].2.2.2.2:Int) else yj E i l[k]:=rfl
 obtain ⟨⟨c,f,r,g,h⟩,hx⟩:∃ z,l[k]=z:=⟨_,rfl⟩
 rw [hx] at OM hSk hset agO hsame hnx hbad avM hE1 hV1
 obtain ⟨LG,hLG⟩:∃ z,yj E i (c,f,r,g,h)=z:=⟨_,rfl⟩
 rw [hLG] at agO avM hE1 hV1
 dsimp only at hE1 hV1 agO
 obtain ⟨H,hH⟩:∃ z,mQ s h=z:=⟨_,rfl⟩
 have hHe:H=if h=0 then 0 else if s=1 then (h:Int) else -1:=hH.symm
 unfold xu at OM
 dsimp only at OM
 rw [hH] at OM
 obtain ⟨SS,hSS⟩:∃ z,(dZ iM (dQ s E i) k l).map aC=z:=⟨_,rfl⟩
 rw [hSS] at hSl hSk hset hle ⊢
 clear hall hno apy apz hLC hLk asv Dy hl0 hl1
 by_cases h0:h=0
 ·have hH0:H=0:=by rw [hHe,if_pos h0]
  have hE2:=hnx (by rw [hE1,h0];simp)
  have hS2:=hsame (by rw [hV1,if_pos h0];rfl)
  refine ajM ?_
  refine ⟨k+1,⟨by omega,hE2⟩,by omega,?_⟩
  rw [hS2,hSS]
  exact (zqt id)
 have hHn:H≠0:=by rw [hHe,if_neg h0];split<;>omega
 have hHp:s=1→H=(h:Int):=fun e=>by rw [hHe,if_neg h0,if_pos e]
 have hHm:s≠1→H=-1:=fun e=>by rw [hHe,if_neg h0,if_neg e]
 have hh0:(0:Int)≤(h:Int):=Gf _
 by_cases hz:LG=0
 ·rw [hbad (by rw [hE1,hz];simp [h0])]
  exact alo
 by_cases hg:LG < H
 ·have s1:s=1:=by
   by_cases e:s=1
   ·exact e
   ·have:=hHm e;omega
  have hHh:=hHp s1
  rw [hbad (by rw [hE1,dG s1,dG (show LG < (h:Int) by omega)];simp [h0])]
  exact alo
 have hE2:=hnx (by
  rw [hE1,cZ hz]
  by_cases e:s=1
  ·rw [cZ (show ¬ LG < (h:Int) by have:=hHp e;omega)];simp
  ·rw [cZ e];simp)
 by_cases hn:H < 0
 ·have s1:s≠1:=fun e=>by have:=hHp e;omega
  have hS2:=hset (v:=LG) (by rw [hV1,if_neg h0,if_neg s1])
  exact aqM
 ·have s1:s=1:=by
   by_cases e:s=1
   ·exact e
   ·have:=hHm e;omega
  have hS2:=hset (v:=H) (by rw [hV1,if_neg h0,if_pos s1];exact hHp s1)
  exact aqM
end Go.Proofs.YthehkchjdkdbiaaGreatDoor
