/- The reader of the program: a chord. -/
import Derived.Test.YthohlofpphjofaaGreatDoorNrFGq
import Derived.Test.YthohlofpphjofaaGreatDoorNrRGq
set_option maxHeartbeats 8000000
set_option maxRecDepth 100000
set_option linter.unusedVariables false
set_option linter.unusedSimpArgs false
namespace Go.Proofs.YthohlofpphjofaaGreatDoor
theorem aiw {p:Prop}(h:p:=by repeat (first|exact trivial|refine ⟨⟨?_,?_,?_⟩,?_⟩|rfl|exact congrArg (fun q=>some (AO.row _ _ q)) hR2)):p:=h
theorem ML {p:Prop}(h:p:=by
 refine uO ?_
 exact oG):p:=h
theorem aex {p:Prop}(h:p:=by
 clear hHe hV1 hE1 hnx hsame hset hHp hHm
 refine adh ?_
 refine iT ?_
 refine Uz ?_
 refine DK.vl rfl (WV.lendX (truH _) rfl (callF Tryz.func95 rfl rfl) rfl (.cons (Lent.ag (.cons (Lent.pu rfl) (.cons (Lent.pu rfl) (.cons (Lent.rwo 1 rfl (Lent.row rfl) (y8 _) hat (by show 5 < 6;omega) hle) .nil)))) (.cons (Lent.pu rfl) (.cons (Lent.pu rfl) .nil))) truST aaA.g) ?_
 refine Uz ?_
 refine Fp ?_
 exact FV):p:=h
theorem ady {p:Prop}(h:p:=by
 refine WL.ctp hB [0,1,2] rfl rfl (callF Tryz.func163 rfl rfl) hcc rfl rfl rfl ⟨⟨rfl,rfl,rfl⟩,trivial⟩ ?_
 rfl):p:=h
theorem afy {p:Prop}(h:p:=by
 rw [dB,bC,aB h];rfl):p:=h
theorem aiI {p:Prop}(h:p:=by
 clear hHe hV1 hE1 hnx hsame hset hHp hHm hbad
 refine adh ?_
 refine iT ?_
 refine Uz ?_
 refine DK.vl rfl (WV.lendX (truH _) rfl (callF Tryz.func95 rfl rfl) rfl (.cons (Lent.ag (.cons (Lent.pu rfl) (.cons (Lent.pu rfl) (.cons (Lent.rwo 1 rfl (Lent.row rfl) (y8 _) hat (by show 5 < 6;omega) hle) .nil)))) (.cons (Lent.pu rfl) (.cons (Lent.pu rfl) .nil))) truST aaA.g) ?_
 refine Uz ?_
 refine amK ?_
 refine DTK.ldQ rfl aK rfl rfl rfl hat (by show 5 < 6;omega) ?_
 refine DTK.st rfl aK rfl ?_
 refine ade ?_
 refine DTK.st rfl aK rfl ?_
 refine DTK.sto rfl rfl rfl rfl rfl rfl rfl rfl rfl rfl rfl rfl (put_row hSk (by show 4+1≤5;omega) rfl) rfl ⟨rfl,rfl,trivial⟩ (fun h=>by cases h) ?_
 refine DTK.nil ?_
 refine Fp ?_
 refine ⟨k+1,⟨by omega,hE2⟩,by omega,?_⟩
 exact (mP (fun q=>q) (by repeat (first|exact trivial|refine ⟨⟨?_,?_,?_⟩,?_⟩|rfl|exact congrArg (fun q=>some (AO.row _ _ q)) hS2|exact congrArg (fun q=>some (AO.rwn _ _ q)) hS2)) rfl)):p:=h
theorem adh {p q:Prop}(k:q)(h:aS q→p:=by
 intro hq
 refine Fp ?_
 refine WL.idx rfl rfl aj QX ?_
 refine Fp ?_
 exact hq.k):p:=h ⟨k⟩
theorem Ju {p q:Prop}(k:q)(h:aS q→p:=by
 intro hq
 refine qR ?_
 refine WL.idx rfl rfl aj hat ?_
 refine qR ?_
 exact hq.k):p:=h ⟨k⟩
theorem amK {p q:Prop}(k:q)(h:aS q→p:=by
 intro hq
 refine Fp ?_
 refine W.of_wa aK ?_
 refine WA.dt [false,false,false,false,false,false,false,false,false,false,false,false,false,false,true] [0,4] [0,4,1,3] 14 aK aK aK ⟨rfl,rfl,trivial⟩ ⟨rfl,rfl,rfl,rfl,trivial⟩ ?_
 refine DTK.st rfl aK rfl ?_
 refine DTK.vl rfl aK (WV.nch rfl rfl) ?_
 refine DTK.st rfl aK rfl ?_
 refine DTK.st rfl aK rfl ?_
 refine DTK.st rfl aK rfl ?_
 refine DTK.st rfl aK rfl ?_
 refine DTK.ixs rfl aK rfl ⟨by omega,by omega⟩ ?_
 refine DTK.st rfl aK rfl ?_
 exact hq.k):p:=h ⟨k⟩
theorem Uz {p q:Prop}(k:q)(h:aS q→p:=by
 intro hq
 repeat (first|refine DK.vl rfl (WV.nch rfl rfl) ?_|refine DK.st rfl ?_|refine DK.nil ?_)
 exact hq.k):p:=h ⟨k⟩
section
open Go.RowKit
def pK (s:Int)(x:NC):List AV:=[.ls 6 (x.l.map (qX s))]
def eG:N5→Int:=fun _=>0
theorem Yu {s:Int} {E:List NC} {i k:Nat} {l:List N5} (h:k<l.length) {v:Int} (hv:v=bP s E i l[k]):((cO eG (bP s E i) k l).map iI).set k (putL 4 [.sc (.int .i64 v)] (iI (gu eG l[k])))=(cO eG (bP s E i) (k+1) l).map iI:=by
 subst hv
 have e:putL 4 [.sc (.int .i64 (bP s E i l[k]))] (iI (gu eG l[k]))=iI (gu (bP s E i) l[k]):=rfl
 rw [e,← Az,Dv h]
theorem agi (s:Int) (hs:1≤s∧s≤4) (cs:List Crs) (st:List Int) (T:List (List AV)) (cl:Bool) (E:List NC) (h1:cs.length≤64) (h2:st.length≤64) (hE:E.length≤420) (h20:∀ x∈E,x.l.length≤20) :
  Ctu truB 0 Tryz.prog 43 [.pt 0 0 0] [(0,dX (.int .u8 s) (aU s) (cs.map aW) (st.map eInt) ((E.length:Int)+2) T cl),(1,.rwn 90 6 ((E.map dJ).map jA)),(2,.row 153 1 (E.map (pK s)))] 3
   (match mZ s E with
    | some i=>.er (cZ ((i:Int)+3) 24)
    | none=>.ok (.tu []) [(0,dX (.int .u8 s) (aU s) (cs.map aW) (st.map eInt) ((E.length:Int)+2) T cl),(1,.rwn 90 6 ((lN s E).map jA)),(2,.row 153 1 (E.map (pK s)))] 3):=by
 refine Ctu.intro truS Tryz.func43 rfl Tryz.ntmps43 (aP rfl) rfl fun w0 F0 fp pg hB=>?_
 unfold dX
 refine jw ?_
 have hNl:(E.map (pK s)).length=E.length:=dH _
 have ajK:∀ i (h:i < E.length),(E.map (pK s))[((i:Nat):Int).toNat]?=some (pK s E[i]):=fun i h=>by
  exact afy
 obtain ⟨NN,hNN⟩:∃ z,E.map (pK s)=z:=⟨_,rfl⟩
 rw [hNN] at hNl ajK ⊢
 refine ac2 ?_
 refine W.loop (fun x:Nat×Int=>x.1≤E.length∧(∀ j (h:j < E.length),j < x.1→E[j].l.any (nT s E j)=false)∧(x.1=0→x.2=(E.length:Int)+2)∧(0 < x.1→x.2=(x.1:Int)+2)) (fun x=>⟨[(0,.pt 0 0 0),(10,.sl 2),(11,.sc (.int .i64 (E.length:Int))),(12,.sc (.int .i64 (x.1:Int)))],
  [(0,.box 78 [.sc (.int .u8 s),.sc (aU s),.ls 3 (cs.map aW),.ls 1 (st.map eInt),.sl 1,.sl 2,.sc (.int .i64 x.2),.ls 1 T,.sc (.bool cl)]),(1,.rwn 90 6 ((bG eG (bP s E) E x.1 0).map jA)),(2,.row 153 1 NN)],3⟩) (fun x=>E.length - x.1) (0,(E.length:Int)+2) ⟨by omega,fun j h h2=>absurd h2 (by omega),fun _=>rfl,fun h=>absurd h (by omega)⟩ (by rw [hNl];exact (mP (fun q=>q) (by repeat (first|exact trivial|refine ⟨⟨?_,?_,?_⟩,?_⟩|rfl|exact congrArg (fun q=>some (AO.row _ _ q)) (by rw [OD];rfl)|exact congrArg (fun q=>some (AO.rwn _ _ q)) (by rw [OD];rfl))) rfl)) fun x hx=>?_
 obtain ⟨i,lv⟩:=x
 obtain ⟨hi,hall,hl0,hl1⟩:=hx
 dsimp only at hi hall hl0 hl1 ⊢
 by_cases hlt:i < E.length
 rotate_left
 ·obtain rfl:i=E.length:=by omega
  have hlv:lv=(E.length:Int)+2:=by
   by_cases e:E.length=0
   ·exact hl0 e
   ·exact hl1 aj
  rw [Ry fun j hj=>hall j hj hj,hlv,RQ]
  refine ac2 ?_
  exact rF (σ':=⟨[],[(0,.box 78 [.sc (.int .u8 s),.sc (aU s),.ls 3 (cs.map aW),.ls 1 (st.map eInt),.sl 1,.sl 2,.sc (.int .i64 ((E.length:Int)+2)),.ls 1 T,.sc (.bool cl)]),(1,.rwn 90 6 ((lN s E).map jA)),(2,.row 153 1 NN)],3⟩) (zqt id) (rE rfl rfl rfl rfl rfl)
 have hrow:=ajK i hlt
 have hat:((bG eG (bP s E) E i 0).map jA)[i]?=some (jA { bZ E[i] eG with stops:=cO eG (bP s E i) 0 E[i].l }):=by rw [bC,YD hlt];rfl
 have hnl:((bG eG (bP s E) E i 0).map jA).length=E.length:=by rw [dH,jg]
 have ahV:∀ k,((bG eG (bP s E) E i 0).map jA).set i (jA { bZ E[i] eG with stops:=cO eG (bP s E i) k E[i].l })=(bG eG (bP s E) E i k).map jA:=fun k=>Dw hlt jA 0
 have NP:∀ k,((bG eG (bP s E) E i 0).map iq).set i (iq { bZ E[i] eG with stops:=cO eG (bP s E i) k E[i].l })=(bG eG (bP s E) E i k).map iq:=fun k=>Dw hlt iq 0
 have anM:=h20 _ (fA hlt)
 have hLC:=fun k c=>Pn ⟨cs,st,bG eG (bP s E) E i k⟩ ⟨h1,h2,by show (bG eG (bP s E) E i k).length≤420;rw [jg];exact hE,fun j hj=>by
  have hj2:j < E.length:=by rw [← jg (U:=eG) (V:=bP s E) (E:=E) (n:=i) (k:=k)];exact hj
  exact iD (Nat.le_of_eq (Kz (U:=eG) (V:=bP s E) (n:=i) (k:=k) hj2)) (h20 _ (fA hj2))⟩ i c
 obtain ⟨l,hl⟩:∃ z,E[i].l=z:=⟨_,rfl⟩
 rw [hl] at anM
 have hev:pK s E[i]=[.ls 6 (l.map (qX s))]:=by unfold pK;rw [hl]
 rw [hev] at hrow
 have XM:(l.map (qX s)).length=l.length:=dH _
 have xP:∀ k (h:k < l.length),(l.map (qX s))[((k:Nat):Int).toNat]?=some (qX s l[k]):=fun k h=>by
  exact afy
 obtain ⟨NL,ajJ⟩:∃ z,l.map (qX s)=z:=⟨_,rfl⟩
 rw [ajJ] at hrow XM xP
 refine Fp ?_
 refine WL.ldr rfl rfl hrow rfl rfl ?_
 refine Fp ?_
 refine W.tr (Tr.open_ 1 i 5 rfl hat rfl (Nv _) rfl) ?_
 dsimp only [St.upd,St.new,Nat.reduceAdd]
 rw [hl] at hat ⊢
 refine W.loop (fun k:Nat=>k≤l.length∧∀ j (h:j < l.length),j < k→nT s E i l[j]=false) (fun k=>⟨[(0,.pt 0 0 0),(2,.sc (.int .i64 (i:Int))),(10,.sl 2),(11,.sc (.int .i64 (E.length:Int))),(12,.sc (.int .i64 (i:Int))),(22,.ls 6 NL),(23,.sc (.int .i64 (l.length:Int))),(24,.sc (.int .i64 (k:Int)))],
  [(0,.box 78 [.sc (.int .u8 s),.sc (aU s),.ls 3 (cs.map aW),.ls 1 (st.map eInt),.sl 1,.sl 2,.sc (.int .i64 ((i:Int)+3)),.ls 1 T,.sc (.bool cl)]),(1,.rwo 90 6 ((bG eG (bP s E) E i 0).map jA) i 5 (.sl 3)),(2,.row 153 1 NN),(3,.row 69 5 ((cO eG (bP s E i) k l).map iI))],4⟩) (fun k=>l.length - k) 0 ⟨by omega,fun j h h2=>absurd h2 (by omega)⟩ (by rw [XM];exact (zqt id)) fun k hk=>?_
 obtain ⟨hk,hno⟩:=hk
 have hSl:((cO eG (bP s E i) k l).map iI).length=l.length:=by rw [dH,wS]
 by_cases hkt:k < l.length
 rotate_left
 ·obtain rfl:k=l.length:=by omega
  have hcl:((bG eG (bP s E) E i 0).map jA).set i ((jA { bZ E[i] eG with stops:=cO eG (bP s E i) 0 l }).set 5 (.ow 69 5 ((cO eG (bP s E i) l.length l).map iI)))=(bG eG (bP s E) E (i+1) 0).map jA:=by
   have h:=ahV l.length
   rw [hl] at h
   have h2:=OG (U:=eG) (V:=bP s E) hlt
   rw [hl] at h2
   rw [← h2,← h];rfl
  have hany:E[i].l.any (nT s E i)=false:=by rw [hl];exact aa8 fun k hk=>hno k hk hk
  refine ac2 ?_
  refine ⟨(i+1,(i:Int)+3),⟨by show i+1≤_;omega,fun j hj hji=>?_,fun h=>absurd h (by show ¬ i+1=0;omega),fun _=>by show (i:Int)+3=((i+1:Nat):Int)+2;omega⟩,by show E.length - (i+1) < E.length - i;omega,?_⟩
  ·by_cases e:j=i
   ·subst e;exact hany
   ·exact hall j hj (by have:j < i+1:=hji;omega)
  refine Tr.trans (Tr.close_ 1 rfl rfl rfl hat (by show 5 < 6;omega) hcl) ?_
  exact (zqt id)
 have QX:=xP k hkt
 have hSk:((cO eG (bP s E i) k l).map iI)[k]?=some (iI (gu eG l[k])):=by rw [bC,Du hkt];rfl
 have hset:=fun {v:Int} (h:v=bP s E i l[k])=>Yu (s:=s) (E:=E) (i:=i) hkt h
 have hLk:=hLC k l[k].1
 have hle:(((bG eG (bP s E) E i 0).map jA).map fun r=>r.map (AV.fz 1)).set i (((jA { bZ E[i] eG with stops:=cO eG (bP s E i) 0 l }).map (AV.fz 1)).set 5 (.ls 5 ((cO eG (bP s E i) k l).map iI)))=(bG eG (bP s E) E i k).map iq:=by
  have h:=NP k
  rw [hl] at h
  rw [GX,Ve,← h];rfl
 have aaA:Ctr Tryz.prog 95 [.ag [.ls 3 (cs.map aW),.ls 1 (st.map eInt),.ls 6 ((bG eG (bP s E) E i k).map iq)],.sc (.int .i64 i),.sc (.int .i64 l[k].1)] (.sc (.int .i64 (sN E i l[k]))):=by
  have h:=hLk
  rw [show ah (aN.mk cs st (bG eG (bP s E) E i k)).evs i l[k].1=ah (E.map dJ) i l[k].1 from OE _ _] at h
  exact h
 have hsame:=fun h=>OC (U:=eG) (V:=bP s E i) (k:=k) (l:=l) hkt h
 have hnx:nT s E i l[k]=false→∀ j (h:j < l.length),j < k+1→nT s E i l[j]=false:=fun h j hj hjk=>by
  by_cases e:j=k
  ·subst e;exact h
  ·exact hno j hj aj
 have hbad:nT s E i l[k]=true→mZ s E=some i:=fun h=>abf hlt hall (by rw [hl];exact hkt) (by simpa [hl] using h)
 have al0:0≤sN E i l[k]:=by unfold sN;exact EN _
 have hE1:nT s E i l[k]=(decide (l[k].2.2.2.2≠0) && (decide (sN E i l[k]=0)|| (decide (s=1) && decide (sN E i l[k] < l[k].2.2.2.2)))):=rfl
 have hV1:bP s E i l[k]=if l[k].2.2.2.2=0 then 0 else if s=1 then (l[k].2.2.2.2:Int) else sN E i l[k]:=rfl
 obtain ⟨⟨c,f,r,g,h⟩,hx⟩:∃ z,l[k]=z:=⟨_,rfl⟩
 rw [hx] at QX hSk hset aaA hsame hnx hbad al0 hE1 hV1
 obtain ⟨LG,hLG⟩:∃ z,sN E i (c,f,r,g,h)=z:=⟨_,rfl⟩
 rw [hLG] at aaA al0 hE1 hV1
 dsimp only at hE1 hV1 aaA
 obtain ⟨H,hH⟩:∃ z,jV s h=z:=⟨_,rfl⟩
 have hHe:H=if h=0 then 0 else if s=1 then (h:Int) else -1:=hH.symm
 unfold qX at QX
 dsimp only at QX
 rw [hH] at QX
 obtain ⟨SS,hSS⟩:∃ z,(cO eG (bP s E i) k l).map iI=z:=⟨_,rfl⟩
 rw [hSS] at hSl hSk hset hle ⊢
 clear hall hno ahV NP hLC hLk ajK xP hl0 hl1
 by_cases h0:h=0
 ·have hH0:H=0:=by rw [hHe,if_pos h0]
  have hE2:=hnx (by rw [hE1,h0];simp)
  have hS2:=hsame (by rw [hV1,if_pos h0];rfl)
  refine adh ?_
  refine ⟨k+1,⟨by omega,hE2⟩,by omega,?_⟩
  rw [hS2,hSS]
  exact (zqt id)
 have hHn:H≠0:=by rw [hHe,if_neg h0];split<;>omega
 have hHp:s=1→H=(h:Int):=fun e=>by rw [hHe,if_neg h0,if_pos e]
 have hHm:s≠1→H=-1:=fun e=>by rw [hHe,if_neg h0,if_neg e]
 have hh0:(0:Int)≤(h:Int):=EN _
 by_cases hz:LG=0
 ·rw [hbad (by rw [hE1,hz];simp [h0])]
  exact aex
 by_cases hg:LG < H
 ·have s1:s=1:=by
   by_cases e:s=1
   ·exact e
   ·have:=hHm e;omega
  have hHh:=hHp s1
  rw [hbad (by rw [hE1,fQ s1,fQ (show LG < (h:Int) by omega)];simp [h0])]
  exact aex
 have hE2:=hnx (by
  rw [hE1,dW hz]
  by_cases e:s=1
  ·rw [dW (show ¬ LG < (h:Int) by have:=hHp e;omega)];simp
  ·rw [dW e];simp)
 by_cases hn:H < 0
 ·have s1:s≠1:=fun e=>by have:=hHp e;omega
  have hS2:=hset (v:=LG) (by rw [hV1,if_neg h0,if_neg s1])
  exact aiI
 ·have s1:s=1:=by
   by_cases e:s=1
   ·exact e
   ·have:=hHm e;omega
  have hS2:=hset (v:=H) (by rw [hV1,if_neg h0,if_pos s1];exact hHp s1)
  exact aiI
def akn (s n:Int)(M:List (Nat×AO))(nk:Nat):Option (List N5)→UR
 | some l=>.ok (.ls 6 (l.map (qX s))) M nk
 | none=>.er (cZ n 4)
theorem RG (s:Int)(words:List (List UInt8)):(iL s words).length=words.length:=by unfold iL;split<;>simp
theorem RH {s:Int} {words:List (List UInt8)} {w:List UInt8}:w∈iL s words↔w∈words:=by unfold iL;split<;>simp
theorem OH(s:Int)(cs:List Crs):aG s cs≤6∧(s=4→aG s cs=0):=by
 unfold aG
 split
 ·exact⟨by omega,fun _=>rfl⟩
 ·rename_i h;exact⟨by omega,fun e=>absurd e h⟩
theorem ahu {s:Int} (hs:1≤s∧s≤4) {k:Nat} (h:k<6)(h4:s≠4):aC s ((k:Int)+1)=0:=by
 unfold aC
 exact UQ
theorem acG {s:Int} (hs:1≤s∧s≤4):aC s 0=0:=by
 unfold aC
 exact UQ
def Gl (s:Int)(n:Nat)(W:List (List UInt8)):List (List AV):=if s=2 then (W.take n).reverse.map bg else (W.take n).map bg
theorem aa7 {s:Int} {n:Nat} {W:List (List UInt8)} (h:n≤W.length):(Gl s n W).length=n:=by unfold Gl;split<;>simp<;>omega
theorem agK {s:Int} {n:Nat} {W:List (List UInt8)} (hs:1≤s∧s≤4)(h4:s=4→n=0)(hn:n≤W.length) {k:Nat} (h:k<W.length)(hk:k<n):(Gl s n W)[(qp s ((k:Int)+1) n-1).toNat]?=some (bg W[k]):=by
 have h4':s≠4:=fun e=>by have:=h4 e;omega
 unfold Gl qp
 rw [if_neg h4']
 by_cases h2:s=2
 ·rw [if_pos h2,if_pos h2,show ((n:Int)+1-((k:Int)+1)-1).toNat=n-1-k by omega]
  have hl:(W.take n).length=n:=by rw [jR];omega
  rw [bC,List.getElem?_reverse (by omega),hl,show n-1-(n-1-k)=k by omega,EC hk,aB h]
  rfl
 ·rw [if_neg h2,if_neg h2,show ((k:Int)+1-1).toNat=k by omega,bC,EC hk,aB h]
  rfl
theorem Ij {L:List (List UInt8)} {n:Nat}:prt (L.map bg) 0 (n:Int)=(L.take n).map bg:=by
 unfold prt;simp [List.map_take]
theorem Ii {L:List (List UInt8)} {n m:Nat} (h:m=L.length):prt (L.map bg) (n:Int) (m:Int)=(L.drop n).map bg:=by
 subst h
 unfold prt
 rw [dB,dB,lC (by simp),L6]
theorem Di (s:Int) (n:Nat) (W:List (List UInt8)):∀ k,(fJ s n W k).length≤k
 | 0=>by rw [akm];simp
 | k+1=>by
  have:=Di s n W k
  have:=OL (s:=s) (n:=n) (W:=W) k
  rw [rJ,bJ];omega
theorem Kv {s:Int} {n:Nat} {W:List (List UInt8)} {k:Nat} (hk:k≤W.length)(h:¬ gU (fJ s n W k)):lM s n W=none :=
 Yk fun h2=>h (Rt (aa4 s n W hk) h2)
theorem afO (s:Int) (hs:1≤s∧s≤4) (cs:List Crs) (st:List Int) (ln:Int) (T:List (List AV)) (cl:Bool) (words:List (List UInt8)) (hw:words.length≤400000) (hwl:∀ w∈words,w.length≤400000) (hcs:cs.length≤64) :
  Ctu jQ sZ Tryz.prog 93 [.pt 0 0 0,.ls 1 (words.map bg)] [(0,dX (.int .u8 s) (aU s) (cs.map aW) (st.map eInt) ln T cl)] 3
   (akn s ln [(0,dX (.int .u8 s) (aU s) (cs.map aW) (st.map eInt) ln T cl)] 4 (zV s (aG s cs) words)):=by
 obtain ⟨n6,n4⟩:=OH s cs
 have agl:=Iz cs st hcs
 have hmin:s≠4→((min cs.length 6:Nat):Int)=(aG s cs:Int):=fun h=>by unfold aG;rw [if_neg h]
 unfold zV
 obtain ⟨n,hn⟩:∃ z,aG s cs=z:=⟨_,rfl⟩
 rw [hn] at n6 n4 hmin ⊢
 have hWl:=RG s words
 have hml:(words.map bg).length=words.length:=dH _
 refine Ctu.intro iG Tryz.func93 rfl Tryz.ntmps93 (aP rfl) rfl fun w0 F0 fp pg hB=>?_
 unfold dX
 refine jw ?_
 refine uO ?_
 refine W.meet ⟨[(0,.pt 0 0 0),(1,.ls 1 (words.map bg)),(5,.sc (.int .i64 (n:Int)))],[(0,.box 78 [.sc (.int .u8 s),.sc (aU s),.ls 3 (cs.map aW),.ls 1 (st.map eInt),.sl 1,.sl 2,.sc (.int .i64 ln),.ls 1 T,.sc (.bool cl)])],3⟩ ?_ ?_
 ·by_cases s4:s=4
  ·rw [fQ s4]
   have:=n4 s4
   subst this
   exact ML
  ·rw [dW s4]
   refine uO ?_
   refine WL.vl rfl (bU Tryz.func112 agl) ?_
   rw [hmin s4]
   exact ML
 obtain ⟨L,hL⟩:∃ z,words.map bg=z:=⟨_,rfl⟩
 by_cases hsh:words.length < n
 ·rw [Oq (by omega)]
  rw [hL] at hml ⊢
  refine uO ?_
  exact FV
 obtain ⟨W0,hW0⟩:∃ z,iL s words=z:=⟨_,rfl⟩
 have hWm:∀ w∈W0,w.length≤400000:=fun w h=>hwl w (RH.1 (hW0 ▸ h))
 rw [hW0]
 have apu:W0.length=words.length:=hW0 ▸ hWl
 have hlo:prt L 0 (n:Int)=(words.take n).map bg:=by rw [← hL];exact Ij
 have hhi:prt L (n:Int) (words.length:Int)=(words.drop n).map bg:=by rw [← hL];exact Ii rfl
 have hLl:L.length=words.length:=by rw [← hL];exact hml
 have hbe:=y5 s hs
 rw [hL]
 refine uO ?_
 refine iT ?_
 refine yT ?_
 refine DK.part_ rfl rfl ⟨by omega,by omega,by omega⟩ hlo ?_
 refine yT ?_
 refine DK.part_ rfl rfl ⟨by omega,by omega,by omega⟩ (show prt L (n:Int) (L.length:Int)=(words.drop n).map bg by rw [hLl];exact hhi) ?_
 refine yT ?_
 refine uO ?_
 refine WL.vl rfl (WV.sys hs BM rfl rfl (fun vs w=>by kernel_rfl) (fun vs w=>by kernel_rfl) (fun vs w=>by kernel_rfl) (fun vs w=>by kernel_rfl) rfl rfl hbe) ?_
 refine uO ?_
 refine W.meet ⟨[(0,.pt 0 0 0),(5,.sc (.int .i64 (n:Int))),(6,.ls 1 (Gl s n W0)),(7,.ls 1 ((W0.drop n).map bg))],[(0,.box 78 [.sc (.int .u8 s),.sc (aU s),.ls 3 (cs.map aW),.ls 1 (st.map eInt),.sl 1,.sl 2,.sc (.int .i64 ln),.ls 1 T,.sc (.bool cl)])],3⟩ ?_ ?_
 ·by_cases s2:s=2
  ·rw [fQ s2]
   have e:W0=words.reverse:=by rw [← hW0];exact if_pos s2
   have eO:Gl s n W0=(words.drop (words.length - n)).map bg:=by
    rw [e,show Gl s n words.reverse=(words.reverse.take n).reverse.map bg from if_pos s2,List.reverse_take,List.reverse_reverse,L8]
   have eU:((words.take (words.length - n)).reverse).map bg=(W0.drop n).map bg:=by
    rw [e,List.reverse_take,show words.length - (words.length - n)=n by omega]
   have hc1:=Xq (words.take (words.length - n)) ada
   have hr1:=Y4 (words.take (words.length - n)) ada
   rw [eU] at hr1
   have hm:((words.length - n:Nat):Int)=(words.length:Int) - (n:Int):=by omega
   have hlo2:prt L 0 ((L.length:Int) - (n:Int))=(words.take (words.length - n)).map bg:=by rw [hLl,← hm,← hL];exact Ij
   have hhi2:prt L ((L.length:Int) - (n:Int)) (L.length:Int)=Gl s n W0:=by rw [hLl,← hm,← hL,eO];exact Ii rfl
   refine uO ?_
   refine W.of_wa aK ?_
   refine WA.dt [false,false,false,false,false,false,true,false,false,false,false,false,false,true,false] [0] [0] 13 aK aK aK ⟨rfl,trivial⟩ ⟨rfl,trivial⟩ ?_
   refine gQ ?_
   refine DTK.v0 rfl (lenV_of rfl) ?_
   refine kX ?_
   refine DTK.v0 rfl (sideV_of rfl sV) ?_
   refine DTK.v0 rfl (partV_of rfl ⟨by omega,by omega,by omega⟩) ?_
   rw [hlo2]
   refine DTK.ct (truH _) [] rfl rfl (callF Tryz.func161 rfl rfl) hc1 rfl rfl rfl trivial rfl rfl rfl rfl ⟨rfl,trivial⟩ (fun _=>⟨rfl,trivial⟩) ?_
   refine gQ ?_
   refine DTK.v0 rfl (lenV_of rfl) ?_
   refine kX ?_
   refine DTK.v0 rfl (sideV_of rfl sV) ?_
   refine DTK.v0 rfl (partV_of rfl ⟨by omega,by omega,by omega⟩) ?_
   rw [hhi2]
   refine DTK.mv rfl rfl rfl rfl rfl rfl ⟨rfl,trivial⟩ (fun h=>by cases h) ?_
   refine kX ?_
   refine DTK.nil ?_
   refine uO ?_
   refine WL.cto (truH _) [3] rfl rfl (callF Tryz.func162 rfl rfl) hr1 rfl rfl rfl ⟨⟨rfl,rfl,rfl⟩,trivial⟩ rfl rfl rfl rfl ?_
   refine WL.tr (Tr.freeze 3 rfl) ?_
   exact ML
  ·rw [dW s2]
   have e:W0=words:=by rw [← hW0];exact if_neg s2
   have eO:Gl s n W0=(words.take n).map bg:=by rw [e];exact if_neg s2
   rw [eO,e]
   exact ML
 have hnW:n≤W0.length:=by omega
 have hOl:=aa7 (s:=s) hnW
 have XR:=fun {k:Nat} (h:k < W0.length) (hk:k < n)=>agK hs n4 hnW h hk
 obtain ⟨O,hO⟩:∃ z,Gl s n W0=z:=⟨_,rfl⟩
 have alE:((W0.drop n).map bg).length=W0.length - n:=by rw [dH,qK]
 have CQ:∀ j (h:n+j < W0.length),((W0.drop n).map bg)[((j:Nat):Int).toNat]?=some (bg W0[n+j]):=fun j h=>by
  rw [dB,bC,I7,aB h];rfl
 obtain ⟨OU,hOU⟩:∃ z,(W0.drop n).map bg=z:=⟨_,rfl⟩
 rw [hO] at hOl XR ⊢
 rw [hOU] at alE CQ ⊢
 clear hlo hhi hO hOU hL hLl hml hW0 hWl agl hmin hbe
 refine uO ?_
 refine W.tr (Tr.nil (t:=8) 157 6 rfl rfl) ?_
 refine W.loop (fun k:Nat=>k≤n∧∀ i (h:i < W0.length),i < k→(bQ s n i W0[i]).isSome=true) (fun k=>⟨[(0,.pt 0 0 0),(5,.sc (.int .i64 (n:Int))),(6,.ls 1 O),(7,.ls 1 OU),(8,.sl 3),(9,.sc (.int .i64 ((k:Int)+1)))],[(0,.box 78 [.sc (.int .u8 s),.sc (aU s),.ls 3 (cs.map aW),.ls 1 (st.map eInt),.sl 1,.sl 2,.sc (.int .i64 ln),.ls 1 T,.sc (.bool cl)]),(3,.row 157 6 ((fJ s n W0 k).map (qX s)))],4⟩) (fun k=>n - k) 0 ⟨by omega,fun i h h2=>absurd h2 aj⟩ (zqt id) fun k hk=>?_
 obtain ⟨hk,hall⟩:=hk
 have hRl:((fJ s n W0 k).map (qX s)).length≤400000:=by
  have:=Di s n W0 k
  rw [dH];omega
 by_cases hlt:k < n
 ·have hkW:k < W0.length:=by omega
  have h4:s≠4:=fun e=>by have:=n4 e;omega
  have hat:=XR hkW hlt
  have hln:=VA s hs ((k:Int)+1) n ⟨by omega,by omega⟩ ⟨by omega,by omega⟩
  have hlv:1≤qp s ((k:Int)+1) n∧qp s ((k:Int)+1) n≤10:=by
   unfold qp
   rw [if_neg h4]
   split<;>omega
  obtain ⟨LV,hLV⟩:∃ z,qp s ((k:Int)+1) n=z:=⟨_,rfl⟩
  rw [hLV] at hat hln hlv
  have hcell:=U8 s hs (cs.map aW) (st.map eInt) ln T cl ((k:Int)+1) W0[k] (hWm _ (fA hkW)) (ahu hs (by omega) h4)
  have hrs:=rJ s n W0 k
  have hnx:(bQ s n k W0[k]).isSome=true→∀ i (h:i < W0.length),i < k+1→(bQ s n i W0[i]).isSome=true:=fun h i hi hik=>by
   by_cases e:i=k
   ·subst e;exact h
   ·exact hall i hi aj
  by_cases hd:W0[k]=[45]
  ·have hwd:bQ s n k W0[k]=some none:=by unfold bQ;rw [if_pos hlt,if_pos hd]
   rw [Io hkW hwd,mG] at hrs
   have hn2:=hnx (by rw [hwd];rfl)
   have hb:(W0[k] == ([45]:List UInt8))=true:=by rw [hd];rfl
   obtain ⟨wk,hwk⟩:∃ z,W0[k]=z:=⟨_,rfl⟩
   rw [hwk] at hat hb
   obtain ⟨R,hR⟩:∃ z,(fJ s n W0 k).map (qX s)=z:=⟨_,rfl⟩
   have hR2:(fJ s n W0 (k+1)).map (qX s)=R:=by rw [hrs];exact hR
   rw [hR] at hRl ⊢
   clear hall XR CQ hcell
   refine qR ?_
   refine WL.vl rfl (WV.sys hs Oa rfl rfl (fun vs w=>by kernel_rfl) (fun vs w=>by kernel_rfl) (fun vs w=>by kernel_rfl) (fun vs w=>by kernel_rfl) rfl rfl hln) ?_
   refine Ju ?_
   rw [hb]
   refine qR ?_
   refine ⟨k+1,⟨by omega,hn2⟩,by omega,?_⟩
   rw [hR2]
   exact (zqt id)
  ·have hb:(W0[k] == ([45]:List UInt8))=false:=by simpa using hd
   have hwd:bQ s n k W0[k]=(iY s ((k:Int)+1) W0[k]).map some:=by unfold bQ;rw [if_pos hlt,if_neg hd]
   cases hcl:iY s ((k:Int)+1) W0[k] with
   | none =>
    rw [Dn hkW (by rw [hwd,hcl];rfl)]
    have hcc:=hcell.er_ (by rw [hcl];rfl)
    obtain ⟨wk,hwk⟩:∃ z,W0[k]=z:=⟨_,rfl⟩
    rw [hwk] at hat hb hcc
    obtain ⟨R,hR⟩:∃ z,(fJ s n W0 k).map (qX s)=z:=⟨_,rfl⟩
    rw [hR] at hRl ⊢
    clear hall XR CQ hcell
    refine qR ?_
    refine WL.vl rfl (WV.sys hs Oa rfl rfl (fun vs w=>by kernel_rfl) (fun vs w=>by kernel_rfl) (fun vs w=>by kernel_rfl) (fun vs w=>by kernel_rfl) rfl rfl hln) ?_
    refine Ju ?_
    rw [hb]
    refine qR ?_
    exact ady
   | some x =>
    have hws:bQ s n k W0[k]=some (some x):=by rw [hwd,hcl];rfl
    rw [qB hkW hws] at hrs
    have hn2:=hnx (by rw [hws];rfl)
    have hcc:=hcell.ok_ (by rw [hcl];rfl)
    obtain ⟨wk,hwk⟩:∃ z,W0[k]=z:=⟨_,rfl⟩
    rw [hwk] at hat hb hcc
    obtain ⟨R,hR⟩:∃ z,(fJ s n W0 k).map (qX s)=z:=⟨_,rfl⟩
    have hR2:R++[qX s x]=(fJ s n W0 (k+1)).map (qX s):=by rw [hrs,gK,hR];rfl
    rw [hR] at hRl ⊢
    clear hall XR CQ hcell
    refine qR ?_
    refine WL.vl rfl (WV.sys hs Oa rfl rfl (fun vs w=>by kernel_rfl) (fun vs w=>by kernel_rfl) (fun vs w=>by kernel_rfl) (fun vs w=>by kernel_rfl) rfl rfl hln) ?_
    refine Ju ?_
    rw [hb]
    refine qR ?_
    refine WL.cto hB [0,1,2] rfl rfl (callF Tryz.func163 rfl rfl) hcc rfl rfl rfl ⟨⟨rfl,rfl,rfl⟩,trivial⟩ rfl rfl rfl rfl ?_
    refine qR ?_
    refine ⟨k+1,⟨by omega,hn2⟩,by omega,?_⟩
    exact (mP (fun q=>bif Nat.beq q 3 then 9 else q) aiw rfl)
 obtain rfl:k=n:=by omega
 have ahS:gU (fJ s k W0 k):=VK (Nat.le_refl _)
 clear XR hlt hk hRl
 refine qR ?_
 have hl0:rM s k W0 (k+0)=0:=Ig (Nat.le_refl _)
 refine W.loop (fun j:Nat=>k+j≤W0.length∧(∀ i (h:i < W0.length),i < k+j→(bQ s k i W0[i]).isSome=true)∧gU (fJ s k W0 (k+j))) (fun j=>⟨[(0,.pt 0 0 0),(8,.sl 3),(11,.sc (.int .i64 (rM s k W0 (k+j):Nat))),(84,.ls 1 OU),(85,.sc (.int .i64 ((W0.length - k:Nat):Int))),(86,.sc (.int .i64 (j:Int)))],[(0,.box 78 [.sc (.int .u8 s),.sc (aU s),.ls 3 (cs.map aW),.ls 1 (st.map eInt),.sl 1,.sl 2,.sc (.int .i64 ln),.ls 1 T,.sc (.bool cl)]),(3,.row 157 6 ((fJ s k W0 (k+j)).map (qX s)))],4⟩) (fun j=>W0.length - k - j) 0 ⟨by omega,fun i h h2=>hall i h (by omega),ahS⟩ (by rw [hl0,alE];exact (zqt id)) fun j hj=>?_
 obtain ⟨hj,hok,hasc⟩:=hj
 clear hall ahS hl0
 have hRl:((fJ s k W0 (k+j)).map (qX s)).length≤400000:=by
  have:=Di s k W0 (k+j)
  rw [dH];omega
 by_cases hlt:k+j < W0.length
 rotate_left
 ·have e:k+j=W0.length:=by omega
  rw [e] at hok hasc ⊢
  by_cases hnil:fJ s k W0 W0.length=[]
  ·rw [Ia hnil,hnil]
   refine qR ?_
   exact FV
  ·rw [Ib hnW (fun i h=>hok i h h) hasc hnil]
   have hpos:0 < (fJ s k W0 W0.length).length:=List.length_pos_iff.2 hnil
   obtain ⟨LL,hLL⟩:∃ z,fJ s k W0 W0.length=z:=⟨_,rfl⟩
   rw [hLL] at hpos ⊢
   have apC:(LL.map (qX s)).length=LL.length:=dH _
   refine uO ?_
   refine W.tr (Tr.freeze 3 rfl) ?_
   exact W.ret (ahM rfl rfl rfl ⟨rfl,trivial⟩ rfl)
 have hat:=CQ j hlt
 have hcell:=U8 s hs (cs.map aW) (st.map eInt) ln T cl 0 W0[k+j] (hWm _ (fA hlt)) (acG hs)
 have hrs:=rJ s k W0 (k+j)
 have hwd:bQ s k (k+j) W0[k+j]=(iY s 0 W0[k+j]).map some:=by unfold bQ;rw [if_neg (by omega)]
 cases hcl:iY s 0 W0[k+j] with
 | none =>
  rw [Dn hlt (by rw [hwd,hcl];rfl)]
  have hcc:=hcell.er_ (by rw [hcl];rfl)
  obtain ⟨wk,hwk⟩:∃ z,W0[k+j]=z:=⟨_,rfl⟩
  rw [hwk] at hat hcc
  obtain ⟨R,hR⟩:∃ z,(fJ s k W0 (k+j)).map (qX s)=z:=⟨_,rfl⟩
  rw [hR] at hRl ⊢
  clear hok CQ hcell
  refine Ju ?_
  exact ady
 | some x =>
  have hws:bQ s k (k+j) W0[k+j]=some (some x):=by rw [hwd,hcl];rfl
  have hxn:=qB hlt hws
  have hstep:=Yi n6 n4 aj hok aj hasc hxn
  have hlast:=Ih (s:=s) (n:=k) (W:=W0) (k:=k+j) aj hxn
  rw [hxn] at hrs
  have hxb:=OI hws
  have hcc:=hcell.ok_ (by rw [hcl];rfl)
  have hok2:∀ i (h:i < W0.length),i < k+(j+1)→(bQ s k i W0[i]).isSome=true:=fun i hi hik=>by
   by_cases e:i=k+j
   ·subst e;rw [hws];rfl
   ·exact hok i hi aj
  obtain ⟨wk,hwk⟩:∃ z,W0[k+j]=z:=⟨_,rfl⟩
  rw [hwk] at hat hcc
  obtain ⟨R,hR⟩:∃ z,(fJ s k W0 (k+j)).map (qX s)=z:=⟨_,rfl⟩
  have hR2:R++[qX s x]=(fJ s k W0 (k+(j+1))).map (qX s):=by rw [show k+(j+1)=k+j+1 by omega,hrs,gK,hR];rfl
  rw [hR] at hRl ⊢
  obtain ⟨la,hla⟩:∃ z,rM s k W0 (k+j)=z:=⟨_,rfl⟩
  rw [hla] at hstep ⊢
  clear hok CQ hcell
  obtain ⟨xc,xf,xr,xg,xh⟩:=x
  dsimp only at hstep hlast hxb
  unfold qX at hcc
  dsimp only at hcc
  by_cases hle:xc≤la
  ·rw [Kv (k:=k+j+1) (by omega) (fun h=>by have:=hstep.1 h;omega)]
   refine Ju ?_
   refine WL.cto hB [0,1,2] rfl rfl (callF Tryz.func163 rfl rfl) hcc rfl rfl rfl ⟨⟨rfl,rfl,rfl⟩,trivial⟩ rfl rfl rfl rfl ?_
   refine qR ?_
   exact FV
  ·have alP:=hstep.2 aj
   refine Ju ?_
   refine WL.cto hB [0,1,2] rfl rfl (callF Tryz.func163 rfl rfl) hcc rfl rfl rfl ⟨⟨rfl,rfl,rfl⟩,trivial⟩ rfl rfl rfl rfl ?_
   refine qR ?_
   refine ⟨j+1,⟨by omega,hok2,alP⟩,by omega,?_⟩
   rw [show k+(j+1)=k+j+1 by omega] at hR2
   rw [show k+(j+1)=k+j+1 by omega,hlast]
   exact (mP (fun q=>bif Nat.beq q 3 then 10 else q) aiw rfl)
end
end Go.Proofs.YthohlofpphjofaaGreatDoor
