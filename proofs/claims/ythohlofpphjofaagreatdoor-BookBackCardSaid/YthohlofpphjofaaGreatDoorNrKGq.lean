/- The reader of the program: a column. (RWN.) -/
import Derived.Test.YthohlofpphjofaaGreatDoorNrGGq
import Derived.Test.YthohlofpphjofaaGreatDoorGaGq
set_option maxHeartbeats 16000000
set_option maxRecDepth 100000
set_option linter.unusedVariables false
set_option linter.unusedSimpArgs false
namespace Go.Proofs.YthohlofpphjofaaGreatDoor
open Go.RowKit
theorem amJ {p:Prop}(h:p:=by repeat (first|exact trivial|refine ⟨⟨?_,?_,?_⟩,?_⟩|rfl|exact congrArg (fun q=>some (AO.row _ _ q)) rfl|exact congrArg (fun q=>some (AO.rwn _ _ q)) rfl|exact congrArg (fun q=>some (AO.row _ _ q)) rfl|exact congrArg (fun q=>some (AO.rwn _ _ q)) rfl)):p:=h
section
variable {p:Prop}
theorem xH(h:p:=by
 refine eH ?_
 exact oG):p:=h
theorem FU(h:p:=by
 refine eH ?_
 exact FV):p:=h
theorem aeO(h:p:=by
 cases fb with
 | true =>
  refine eH ?_
  exact oG
 | false =>
  refine eH ?_
  exact oG):p:=h
theorem aew(h:p:=by
 by_cases hr:r1=[]
 ·rw [hd2 hr,fQ hr]
  refine aiF ?_
  by_cases e:(w1 == ([37]:List UInt8))=true
  ·rw [e]
   refine eH ?_
   refine WL.vl rfl (WV.sys hs QY rfl rfl (fun vs w=>by kernel_rfl) (fun vs w=>by kernel_rfl) (fun vs w=>by kernel_rfl) (fun vs w=>by kernel_rfl) rfl rfl (zi s hs 8)) ?_
   refine eH ?_
   exact oG
  ·rw [Bool.eq_false_iff.2 e]
   refine eH ?_
   exact oG
 ·rw [hd1 hr,dW hr]
  refine eH ?_
  exact oG):p:=h
theorem ad9(h:p:=by
 cases h;exact⟨rfl,rfl,rfl,fun x hx=>(yN hx).elim,by simp⟩):p:=h
theorem ajf(h:p:=by
 subst e
 clear hB1 hB2 hb1 hb2 hch hX
 refine eH ?_
 refine (?_:Tr _ _ _)
 refine Tr.trans (Tr.nilR (t:=8) 6 rfl) ?_
 exact (zqt id)):p:=h
end
theorem aiF {p q:Prop}(k:q)(h:aS q→p:=by
 intro hq
 refine eH ?_
 refine WL.idx rfl rfl aj ajQ ?_
 refine eH ?_
 exact hq.k):p:=h ⟨k⟩
theorem aiC {p q:Prop}(k:q)(h:aS q→p:=by
 intro hq
 refine eH ?_
 refine W.of_wa aK ?_
 refine WA.dt [false,false,false,false,false,false,false,false,false,false,false,true,true,false] [0] [0] 12 aK aK aK ⟨rfl,trivial⟩ ⟨rfl,trivial⟩ ?_
 exact hq.k):p:=h ⟨k⟩
theorem WL.Hz {P:Program} {C:Cx} {σ:St} {ops:Array Oper} {l:List Oper} {Q1 Q2:Exit→St→Prop} {y:Code} (σm:St)(h:WL P C ops l σ (QThen (fun s=>Tr C s σm) Q1))(k:W P C y σm Q2):WL P C ops l σ (QThen (fun s=>W P C y s Q2) Q1) :=
 WL.mono h (QThen.mono (fun s q=>W.tr q k) fun _ _ q=>q)
theorem abb {s:Int} {n:Nat} {W:List (List UInt8)} {l:List N5} (h:lM s n W=some l):(∀ x∈l,1≤x.1∧x.1≤14∧x.2.1≤18)∧l.length≤14∧l≠[]∧gU l:=by
 unfold lM at h
 split at h
 ·rename_i k
  cases h
  have hb:∀ x∈fJ s n W W.length,1≤x.1∧x.1≤14∧x.2.1≤18:=fun x hx=>by have:=agJ hx;omega
  refine⟨hb,?_,k.2.2.2,k.2.2.1⟩
  rcases wO (a:=0) k.2.2.1 (fun x hx=>by have:=hb x hx;omega) with q|q
  ·omega
  ·exact absurd q k.2.2.2
 ·cases h
theorem zY {cs:List Crs}:∀ {l:List N5} {k:Nat} (hk:k<l.length),(∀ j (h:j<l.length),j<k→dK cs l[j]=0)→dK cs l[k]≠0→iO cs l=dK cs l[k]
 | x::r,0,_,_,h=>by
  unfold iO
  have h:dK cs x≠0:=h
  rw [if_pos h];rfl
 | x::r,k+1,hk,h0,h=>by
  have:=h0 0 (by simp) (by omega)
  simp only [uK] at this
  unfold iO
  rw [if_neg (by rw [this];decide),zY (k:=k) sW (fun j hj hjk=>h0 (j+1) yR (by omega)) h]
  rfl
theorem zZ {cs:List Crs}:∀ {l:List N5},(∀ j (h:j<l.length),dK cs l[j]=0)→iO cs l=0
 | [],_=>rfl
 | x::r,h=>by
  have:=h 0 (by simp)
  simp only [uK]at this
  unfold iO
  rw [if_neg (by rw [this];decide)]
  exact zZ fun j hj=>h (j+1) yR
theorem Dl {s:Int} {n:Nat} {bar:Bool} {v i:Nat} {ws:List (List UInt8)} (h1:¬ (ws=[[126]]∧s≠4))(h2:¬ (ws=[[37]]∧s≠3)):iK s n bar v i ws=(zV s n ws).map fun l=>⟨bar,v,i,false,l⟩:=by
 unfold iK;rw [if_neg h1,if_neg h2]
theorem Dk {s:Int} {n:Nat} {bar:Bool} {v i:Nat} {ws:List (List UInt8)} {X:NC} (h:iK s n bar v i ws=some X):X.bar=bar∧X.v=v∧X.i=i∧(∀ x∈X.l,1≤x.1∧x.1≤14∧x.2.1≤18)∧X.l.length≤14:=by
 unfold iK at h
 split at h
 ·exact ad9
 ·split at h
  ·exact ad9
  ·obtain⟨l,hl,e⟩:=Option.map_eq_some_iff.1 h
   subst e
   have hb:=abb (show lM s n (iL s ws)=some l from hl)
   exact⟨rfl,rfl,rfl,hb.1,hb.2.1⟩
def Kw (s:Int)(cs:List Crs)(st:List Int)(ln:Int)(T:List (List AV))(cl:Bool)(E:List NC):Option NC→UR
 | none=>.er (cZ ln 4)
 | some x=>if kP cs (E.length == 0) x≠0 then .er (cZ ln (kP cs (E.length == 0) x)) else
  .ok (.tu []) [(0,.box 78 [.sc (.int .u8 s),.sc (aU s),.ls 3 (cs.map aW),.ls 1 (st.map eInt),.sl 3,.sl 4,.sc (.int .i64 ln),.ls 1 T,.sc (.bool cl)]),(3,.rwn 90 6 (((E++[x]).map dJ).map jA)),(4,.row 153 1 ((E++[x]).map (pK s)))] 5
theorem aag (s:Int) (hs:1≤s∧s≤4) (cs:List Crs) (st:List Int) (ln:Int) (T:List (List AV)) (cl:Bool) (E:List NC) (t:List UInt8) (ht:t.length≤300000) (hcs:cs.length≤64) (hcb:∀ c∈cs,0≤c.2.1∧c.2.1≤1000) (hE:E.length≤400000) :
  Ctu jQ sZ Tryz.prog 41 [.pt 0 0 0,.sc (.string (bs t))] [(0,dX (.int .u8 s) (aU s) (cs.map aW) (st.map eInt) ln T cl),(1,.rwn 90 6 ((E.map dJ).map jA)),(2,.row 153 1 (E.map (pK s)))] 3
   (Kw s cs st ln T cl E (eY s (aG s cs) t)):=by
 have hW:=yH 32 t aj
 have hwb:=nJ 32 t
 have hwl:(aV 32 t).length≤300001:=by
  exact adP
 have hEl:((E.map dJ).map jA).length=E.length:=by simp
 have hNl:(E.map (pK s)).length=E.length:=dH _
 have hEx:∀ x:NC,((E++[x]).map dJ).map jA=(E.map dJ).map jA++[jA (dJ x)]:=fun x=>by simp
 have hNx:∀ x:NC,(E++[x]).map (pK s)=E.map (pK s)++[pK s x]:=fun x=>by simp
 unfold eY
 obtain ⟨ws,hws⟩:∃ z,aV 32 t=z:=⟨_,rfl⟩
 rw [hws] at hW hwb hwl ⊢
 have hne:ws≠[]:=by rw [← hws];unfold aV;simp
 obtain ⟨w,r,rfl⟩:∃ w r,ws=w::r:=by
  cases ws with
  | nil=>exact absurd rfl hne
  | cons w r=>exact ⟨w,r,rfl⟩
 clear hne hws
 refine Ctu.intro iG Tryz.func41 rfl Tryz.ntmps41 (aP rfl) rfl fun w0 F0 fp pg hB=>?_
 unfold dX
 refine jw ?_
 obtain ⟨EV,hEV⟩:∃ z,(E.map dJ).map jA=z:=⟨_,rfl⟩
 obtain ⟨NT,hNT⟩:∃ z,E.map (pK s)=z:=⟨_,rfl⟩
 rw [hEV] at hEl hEx ⊢
 rw [hNT] at hNl hNx ⊢
 have hrl:r.length≤300000:=by simp at hwl;omega
 have hml:((w::r).map bg).length=r.length+1:=by simp
 refine eH ?_
 refine WL.vl rfl (WV.callG hB rfl (callF Tryz.func38 rfl rfl) rfl rfl hW) ?_
 refine eH ?_
 refine WL.idx rfl rfl aj (show ((w::r).map bg)[Int.toNat 0]?=some (bg w) from rfl) ?_
 refine eH ?_
 obtain ⟨bB,W1,hbW,hform⟩:∃ bB W1,(w=[124]∧bB=true∧W1=r∨w≠[124]∧bB=false∧W1=w::r)∧(if w=[124] then kR s (aG s cs) true r else kR s (aG s cs) false (w::r))=kR s (aG s cs) bB W1:=by
  by_cases e:w=[124]
  ·exact ⟨true,r,.inl ⟨e,rfl,rfl⟩,if_pos e⟩
  ·exact ⟨false,w::r,.inr ⟨e,rfl,rfl⟩,if_neg e⟩
 rw [hform]
 have ajN:∀ x∈W1,x.length≤300000:=fun x hx=>by
  rcases hbW with ⟨_,_,e⟩|⟨_,_,e⟩
  ·have:=hwb x (by rw [e] at hx;simp [hx]);omega
  ·have:=hwb x (by rw [e] at hx;exact hx);omega
 have ajO:W1.length≤300001:=by
  rcases hbW with ⟨_,_,e⟩|⟨_,_,e⟩
  ·rw [e];omega
  ·rw [e];simp;omega
 refine W.meet ⟨[(0,.pt 0 0 0),(4,.ls 1 (W1.map bg)),(5,.pt 3 0 0)],[(0,.box 78 [.sc (.int .u8 s),.sc (aU s),.ls 3 (cs.map aW),.ls 1 (st.map eInt),.sl 1,.sl 2,.sc (.int .i64 ln),.ls 1 T,.sc (.bool cl)]),(1,.rwn 90 6 EV),(2,.row 153 1 NT),(3,.box 90 [.sc (.bool bB),.sc (.int .i64 0),.sc (.bool false),.sc (.bool false),.sc (.bool false),.sc (.slice none 0 0)])],4⟩ ?_ ?_
 ·rcases hbW with ⟨e,rfl,rfl⟩|⟨e,rfl,rfl⟩
  ·have hb:(w == ([124]:List UInt8))=true:=by rw [e];rfl
   have hp:prt ((w::W1).map bg) 1 (((w::W1).map bg).length:Int)=W1.map bg:=by
    unfold prt
    rw [dB,fE];rfl
   rw [hb]
   refine eH ?_
   refine aiA ?_
   refine kX ?_
   refine DTK.v0 rfl (partV_of rfl ⟨by omega,by rw [hml];omega,by omega⟩) ?_
   rw [hp]
   refine kX ?_
   refine DTK.sto rfl rfl rfl rfl rfl rfl rfl rfl rfl rfl rfl rfl rfl rfl trivial (fun h=>by cases h) ?_
   refine DTK.nil ?_
   refine ⟨rfl,?_⟩
   refine (?_:WL _ _ _ _ _ _)
   exact xH
  ·have hb:(w == ([124]:List UInt8))=false:=by simpa using e
   rw [hb]
   exact xH
 clear hbW hwb hwl hml hform hW
 match W1,ajN,ajO with
 | [],_,_ =>
  exact FU
 | [x],_,_ =>
  have hml:(([x]:List (List UInt8)).map bg).length=1:=rfl
  exact FU
 | sg::w1::r1,ajN,ajO =>
 have hml:((sg::w1::r1).map bg).length=r1.length+2:=by simp
 have apH:r1.length≤300000:=by simp at ajO;omega
 have hpt:=akE s hs sg
 have ajP:((sg::w1::r1).map bg)[Int.toNat 0]?=some (bg sg):=rfl
 cases hsc:jm (yV s sg) 0 8 with
 | none =>
  have hnt:kR s (aG s cs) bB (sg::w1::r1)=none:=by show (jm (yV s sg) 0 8).bind _=_;rw [hsc];rfl
  rw [hnt]
  rw [hsc] at hpt
  unfold ptT at hpt
  refine aiC ?_
  refine FM ?_
  refine qW ?_
  refine DTK.v0 rfl (idxV_of rfl aj ajP) ?_
  refine kX ?_
  refine DTK.v0 rfl (bU Tryz.func92 hpt) ?_
  refine qW ?_
  refine DTK.al rfl rfl rfl rfl ⟨rfl,trivial⟩ (fun _=>⟨rfl,trivial⟩) ?_
  refine DTK.sto rfl rfl rfl rfl rfl rfl rfl rfl rfl rfl rfl rfl rfl rfl ⟨rfl,trivial⟩ (fun h=>by cases h) ?_
  refine kX ?_
  refine DTK.nil ?_
  exact FU
 | some vi =>
 obtain ⟨v,i⟩:=vi
 have hnt:kR s (aG s cs) bB (sg::w1::r1)=iK s (aG s cs) bB v i (w1::r1):=by show (jm (yV s sg) 0 8).bind _=_;rw [hsc];rfl
 rw [hnt]
 rw [hsc] at hpt
 unfold ptT at hpt
 dsimp only at hpt
 have hp9:prt ((sg::w1::r1).map bg) 1 (((sg::w1::r1).map bg).length:Int)=(w1::r1).map bg:=by
  unfold prt
  rw [dB,fE];rfl
 obtain ⟨sD,hsD⟩:∃ z,Ar i=z:=⟨_,rfl⟩
 obtain ⟨sT,hsT⟩:∃ z,yG i=z:=⟨_,rfl⟩
 rw [hsD,hsT] at hpt
 refine aiC ?_
 refine FM ?_
 refine qW ?_
 refine DTK.v0 rfl (idxV_of rfl aj ajP) ?_
 refine kX ?_
 refine DTK.v0 rfl (bU Tryz.func92 hpt) ?_
 refine qW ?_
 refine DTK.al rfl rfl rfl rfl ⟨rfl,trivial⟩ (fun _=>⟨rfl,trivial⟩) ?_
 refine DTK.sto rfl rfl rfl rfl rfl rfl rfl rfl rfl rfl rfl rfl rfl rfl ⟨rfl,trivial⟩ (fun h=>by cases h) ?_
 refine kX ?_
 refine DTK.nil ?_
 refine eH ?_
 refine W.drawT 5 aK aK aK ?_
 refine WA.dt [false,false,false,false,true] [4] [4] 4 aK aK aK ⟨rfl,trivial⟩ ⟨rfl,trivial⟩ ?_
 refine gQ ?_
 refine DTK.v0 rfl (partV_of rfl ⟨by omega,by rw [hml];omega,by omega⟩) ?_
 rw [hp9]
 refine kX ?_
 refine DTK.sto rfl rfl rfl rfl rfl rfl rfl rfl rfl rfl rfl rfl rfl rfl ⟨rfl,trivial⟩ (fun h=>by cases h) ?_
 refine DTK.nil ?_
 refine ⟨rfl,?_⟩
 refine (?_:WL _ _ _ _ _ _)
 clear hpt ajP hp9 hsc hnt
 have hch:=afO s hs cs st ln T cl (w1::r1) (by simp;omega) (fun x hx=>by have:=ajN x (EG _ hx);omega) hcs
 obtain ⟨b1,hb1⟩:∃ b,decide (w1::r1=[[126]]∧s≠4)=b:=⟨_,rfl⟩
 obtain ⟨b2,hb2⟩:∃ b,decide (w1::r1=[[37]]∧s≠3)=b:=⟨_,rfl⟩
 have ajQ:((w1::r1).map bg)[Int.toNat 0]?=some (bg w1):=rfl
 have hl1:((w1::r1).map bg).length=r1.length+1:=by simp
 have hd1:r1≠[]→decide ((r1.length:Int)+1=1)=false:=fun h=>by
  have:0 < r1.length:=by cases r1 with
   | nil=>exact absurd rfl h
   | cons=>simp
  exact dW aj
 have hd2:r1=[]→decide ((r1.length:Int)+1=1)=true:=fun h=>by rw [h];rfl
 have hB1:b1=(decide (r1=[]) && (w1 == [126]) && pR s 7):=by
  rw [← hb1]
  have e7:pR s 7=decide (s≠4):=by rcases bI hs with rfl|rfl|rfl|rfl<;>rfl
  rw [e7,Fe];simp [and_assoc,and_comm,and_left_comm]
 have hB2:b2=(decide (r1=[]) && (w1 == [37]) && pR s 8):=by
  rw [← hb2]
  have e8:pR s 8=decide (s≠3):=by rcases bI hs with rfl|rfl|rfl|rfl<;>rfl
  rw [e8,Fe];simp [and_assoc,and_comm,and_left_comm]
 obtain ⟨R1,hR1⟩:∃ z,(w1::r1).map bg=z:=⟨_,rfl⟩
 rw [hR1] at ajQ hl1 hch ⊢
 refine WL.Hz ⟨[(0,.pt 0 0 0),(4,.ls 1 R1),(5,.pt 3 0 0)],[(0,.box 78 [.sc (.int .u8 s),.sc (aU s),.ls 3 (cs.map aW),.ls 1 (st.map eInt),.sl 1,.sl 2,.sc (.int .i64 ln),.ls 1 T,.sc (.bool cl)]),(1,.rwn 90 6 EV),(2,.row 153 1 NT),(3,.box 90 [.sc (.bool bB),.sc (.int .i64 v),.sc (.bool sD),.sc (.bool sT),.sc (.bool false),.sc (.slice none 0 0)])],5⟩ ?_ ?_
 ·exact xH
 refine eH ?_
 refine WL.Hz ⟨[(0,.pt 0 0 0),(4,.ls 1 R1),(5,.pt 3 0 0),(8,.sc (.slice none 0 0)),(48,.sc (.bool b1))],[(0,.box 78 [.sc (.int .u8 s),.sc (aU s),.ls 3 (cs.map aW),.ls 1 (st.map eInt),.sl 1,.sl 2,.sc (.int .i64 ln),.ls 1 T,.sc (.bool cl)]),(1,.rwn 90 6 EV),(2,.row 153 1 NT),(3,.box 90 [.sc (.bool bB),.sc (.int .i64 v),.sc (.bool sD),.sc (.bool sT),.sc (.bool false),.sc (.slice none 0 0)])],5⟩ ?_ ?_
 ·rw [hl1,Jh,L9,hB1]
  clear hB1 hB2 hb1 hb2 hch
  by_cases hr:r1=[]
  ·rw [hd2 hr,fQ hr]
   refine aiF ?_
   by_cases e:(w1 == ([126]:List UInt8))=true
   ·rw [e]
    refine eH ?_
    refine WL.vl rfl (WV.sys hs QY rfl rfl (fun vs w=>by kernel_rfl) (fun vs w=>by kernel_rfl) (fun vs w=>by kernel_rfl) (fun vs w=>by kernel_rfl) rfl rfl (zi s hs 7)) ?_
    exact xH
   ·rw [Bool.eq_false_iff.2 e]
    exact xH
  ·rw [hd1 hr,dW hr]
   exact xH
 cases hX:iK s (aG s cs) bB v i (w1::r1) with
 | none =>
  have n1:b1=false:=by
   rw [← hb1];refine dW fun h=>?_
   unfold iK at hX;rw [if_pos h] at hX;cases hX
  have n2:b2=false:=by
   rw [← hb2];refine dW fun h=>?_
   unfold iK at hX;rw [if_neg (yK (hb1.trans n1)),if_pos h] at hX;cases hX
  have hn:zV s (aG s cs) (w1::r1)=none:=by
   rw [Dl (yK (hb1.trans n1)) (yK (hb2.trans n2))] at hX
   simpa using hX
  rw [hn] at hch
  have hF:Ctp jQ sZ Tryz.prog _ _ _ _ _:=(hch.er_ rfl).frame (X:=[(1,.rwn 90 6 EV),(2,.row 153 1 NT)])
  rw [n1]
  rw [n2] at hB2
  refine eH ?_
  refine WL.Hz ⟨[(0,.pt 0 0 0),(4,.ls 1 R1),(5,.pt 3 0 0),(66,.sc (.bool false))],[(0,.box 78 [.sc (.int .u8 s),.sc (aU s),.ls 3 (cs.map aW),.ls 1 (st.map eInt),.sl 1,.sl 2,.sc (.int .i64 ln),.ls 1 T,.sc (.bool cl)]),(1,.rwn 90 6 EV),(2,.row 153 1 NT),(3,.box 90 [.sc (.bool bB),.sc (.int .i64 v),.sc (.bool sD),.sc (.bool sT),.sc (.bool false),.sc (.slice none 0 0)])],5⟩ ?_ ?_
  ·rw [hl1,Jh,L9,hB2]
   clear hB1 hB2 hb1 hb2 hch hF
   exact aew
  refine eH ?_
  refine WL.ctp hB [0,1,2] rfl rfl (callF Tryz.func93 rfl rfl) hF rfl rfl rfl ⟨⟨rfl,rfl,rfl⟩,⟨rfl,rfl,rfl⟩,⟨rfl,rfl,rfl⟩,trivial⟩ ?_
  rfl
 | some X =>
 have hXb:=Dk hX
 refine W.aa0 ⟨[(0,.pt 0 0 0),(5,.pt 3 0 0),(8,.ls 6 (X.l.map (qX s)))],[(0,.box 78 [.sc (.int .u8 s),.sc (aU s),.ls 3 (cs.map aW),.ls 1 (st.map eInt),.sl 1,.sl 2,.sc (.int .i64 ln),.ls 1 T,.sc (.bool cl)]),(1,.rwn 90 6 EV),(2,.row 153 1 NT),(3,.box 90 [.sc (.bool bB),.sc (.int .i64 v),.sc (.bool sD),.sc (.bool sT),.sc (.bool X.tie),.sc (.slice none 0 0)])],6⟩ ?_ ?_
 ·cases b1 with
  | true =>
   have h1:=nC hb1
   have e:X=⟨bB,v,i,true,[]⟩:=by
    unfold iK at hX;rw [if_pos h1] at hX;exact (Option.some.inj hX).symm
   exact ajf
  | false =>
   have n1:=yK hb1
   refine eH ?_
   refine WL.Hz ⟨[(0,.pt 0 0 0),(4,.ls 1 R1),(5,.pt 3 0 0),(8,.sc (.slice none 0 0)),(66,.sc (.bool b2))],[(0,.box 78 [.sc (.int .u8 s),.sc (aU s),.ls 3 (cs.map aW),.ls 1 (st.map eInt),.sl 1,.sl 2,.sc (.int .i64 ln),.ls 1 T,.sc (.bool cl)]),(1,.rwn 90 6 EV),(2,.row 153 1 NT),(3,.box 90 [.sc (.bool bB),.sc (.int .i64 v),.sc (.bool sD),.sc (.bool sT),.sc (.bool false),.sc (.slice none 0 0)])],5⟩ ?_ ?_
   ·rw [hl1,Jh,L9,hB2]
    clear hB1 hB2 hb1 hb2 hch
    exact aew
   cases b2 with
   | true =>
    have h2:=nC hb2
    have e:X=⟨bB,v,i,false,[]⟩:=by
     unfold iK at hX;rw [if_neg n1,if_pos h2] at hX;exact (Option.some.inj hX).symm
    exact ajf
   | false =>
    have n2:=yK hb2
    rw [Dl n1 n2] at hX
    obtain ⟨l,hl,e⟩:=Option.map_eq_some_iff.1 hX
    subst e
    rw [hl] at hch
    have hF:Cto jQ sZ Tryz.prog _ _ _ _ _ _ _:=(hch.ok_ rfl).fr2 (a:=.rwn 90 6 EV) (b:=.row 153 1 NT)
    clear hB1 hB2 hb1 hb2 hch hX
    refine eH ?_
    refine WL.cto hB [0,1,2] rfl rfl (callF Tryz.func93 rfl rfl) hF rfl rfl rfl ⟨⟨rfl,rfl,rfl⟩,⟨rfl,rfl,rfl⟩,⟨rfl,rfl,rfl⟩,trivial⟩ rfl rfl rfl rfl ?_
    exact xH
 obtain ⟨xb1,xv1,xi1,hXl,hXn⟩:=hXb
 have hev:jA (dJ X)=[.sc (.bool bB),.sc (.int .i64 v),.sc (.bool sD),.sc (.bool sT),.sc (.bool X.tie),.ow 69 5 ((X.l.map (gu eG)).map iI)]:=by
  show ([.sc (.bool X.bar),.sc (.int .i64 X.v),.sc (.bool (Ar X.i)),.sc (.bool (yG X.i)),.sc (.bool X.tie),.ow 69 5 ((X.l.map (gu eG)).map iI)]:List AV)=_
  rw [xb1,xv1,xi1,hsD,hsT]
 have hE1:=hEx X
 have hN1:=hNx X
 have hXv:X.v=v:=xv1
 rw [hev] at hE1
 clear hEx hNx hX hch hB1 hB2 hb1 hb2 xb1 xv1 xi1 hev ajQ hl1 hd1 hd2
 have hcode:Kw s cs st ln T cl E (some X)=if kP cs (E.length == 0) X≠0 then .er (cZ ln (kP cs (E.length == 0) X)) else .ok (.tu []) [(0,.box 78 [.sc (.int .u8 s),.sc (aU s),.ls 3 (cs.map aW),.ls 1 (st.map eInt),.sl 3,.sl 4,.sc (.int .i64 ln),.ls 1 T,.sc (.bool cl)]),(3,.rwn 90 6 (((E++[X]).map dJ).map jA)),(4,.row 153 1 ((E++[X]).map (pK s)))] 5:=rfl
 rw [hcode,hE1,hN1]
 clear hcode hE1 hN1
 have hfb:(E.length == 0)=decide ((EV.length:Int)=0):=by rw [hEl,Fe];simp
 rw [hfb]
 obtain ⟨fb,ajV⟩:∃ z,decide ((EV.length:Int)=0)=z:=⟨_,rfl⟩
 have ajS:fb=true→v=0→kP cs fb X=20:=fun h1 h2=>by unfold kP;rw [if_pos ⟨h1,hXv.trans h2⟩]
 have hc21:¬ (fb=true∧v=0)→(fb && X.tie)=true→kP cs fb X=21:=fun h1 h2=>by unfold kP;rw [if_neg (by rw [hXv];exact h1),if_pos h2]
 have hcn:¬ (fb=true∧v=0)→¬ (fb && X.tie)=true→kP cs fb X=iO cs X.l:=fun h1 h2=>by unfold kP;rw [if_neg (by rw [hXv];exact h1),if_neg h2]
 obtain ⟨tie,htie⟩:∃ z,X.tie=z:=⟨_,rfl⟩
 rw [htie] at hc21 hcn ⊢
 obtain ⟨CK,hCK⟩:∃ z,kP cs (decide ((EV.length:Int)=0)) X=z:=⟨_,rfl⟩
 rw [hCK]
 rw [ajV] at hCK
 rw [hCK] at ajS hc21 hcn
 refine eH ?_
 rw [ajV]
 refine WL.Hz ⟨[(0,.pt 0 0 0),(5,.pt 3 0 0),(8,.ls 6 (X.l.map (qX s))),(9,.sc (.bool fb)),(96,.sc (.bool (fb && decide ((v:Int)=0))))],[(0,.box 78 [.sc (.int .u8 s),.sc (aU s),.ls 3 (cs.map aW),.ls 1 (st.map eInt),.sl 1,.sl 2,.sc (.int .i64 ln),.ls 1 T,.sc (.bool cl)]),(1,.rwn 90 6 EV),(2,.row 153 1 NT),(3,.box 90 [.sc (.bool bB),.sc (.int .i64 v),.sc (.bool sD),.sc (.bool sT),.sc (.bool tie),.sc (.slice none 0 0)])],6⟩ ?_ ?_
 ·exact aeO
 by_cases h20:fb=true∧v=0
 ·have e:(fb && decide ((v:Int)=0))=true:=by rw [h20.1,h20.2];rfl
  rw [e]
  rw [ajS h20.1 h20.2,if_pos (by decide)]
  exact FU
 have e:(fb && decide ((v:Int)=0))=false:=by
  cases fb with
  | false=>rfl
  | true=>simpa using h20
 rw [e]
 refine eH ?_
 refine WL.Hz ⟨[(0,.pt 0 0 0),(5,.pt 3 0 0),(8,.ls 6 (X.l.map (qX s))),(9,.sc (.bool fb)),(103,.sc (.bool (fb && tie)))],[(0,.box 78 [.sc (.int .u8 s),.sc (aU s),.ls 3 (cs.map aW),.ls 1 (st.map eInt),.sl 1,.sl 2,.sc (.int .i64 ln),.ls 1 T,.sc (.bool cl)]),(1,.rwn 90 6 EV),(2,.row 153 1 NT),(3,.box 90 [.sc (.bool bB),.sc (.int .i64 v),.sc (.bool sD),.sc (.bool sT),.sc (.bool tie),.sc (.slice none 0 0)])],6⟩ ?_ ?_
 ·exact aeO
 by_cases h21:(fb && tie)=true
 ·rw [h21]
  rw [hc21 h20 h21,if_pos (by decide)]
  exact FU
 rw [Bool.eq_false_iff.2 h21]
 have hcn:=hcn h20 h21
 clear ajS hc21 h20 h21 e hCK hfb ajV
 have XM:(X.l.map (qX s)).length=X.l.length:=dH _
 have xP:∀ k (h:k < X.l.length),(X.l.map (qX s))[((k:Nat):Int).toNat]?=some (qX s X.l[k]):=fun k h=>by
  exact afy
 obtain ⟨l,hl⟩:∃ z,X.l=z:=⟨_,rfl⟩
 have hNe:pK s X=[.ls 6 (X.l.map (qX s))]:=rfl
 rw [hNe]
 rw [hl] at hcn XM hXl hXn ⊢
 have xP:∀ k (h:k < l.length),(l.map (qX s))[((k:Nat):Int).toNat]?=some (qX s l[k]):=by subst hl;exact xP
 obtain ⟨NL,ajJ⟩:∃ z,l.map (qX s)=z:=⟨_,rfl⟩
 rw [ajJ] at XM xP ⊢
 refine eH ?_
 refine W.tr (Tr.nilBox (k:=3) (j:=5) 69 5 rfl rfl rfl rfl) ?_
 dsimp only [St.upd,St.new,St.put,Nat.reduceAdd]
 refine W.loop (fun k:Nat=>k≤l.length∧∀ j (h:j < l.length),j < k→dK cs l[j]=0) (fun k=>⟨[(0,.pt 0 0 0),(5,.pt 3 0 0),(8,.ls 6 NL),(106,.ls 6 NL),(107,.sc (.int .i64 (l.length:Int))),(108,.sc (.int .i64 (k:Int)))],
  [(0,.box 78 [.sc (.int .u8 s),.sc (aU s),.ls 3 (cs.map aW),.ls 1 (st.map eInt),.sl 1,.sl 2,.sc (.int .i64 ln),.ls 1 T,.sc (.bool cl)]),(1,.rwn 90 6 EV),(2,.row 153 1 NT),(3,.box 90 [.sc (.bool bB),.sc (.int .i64 v),.sc (.bool sD),.sc (.bool sT),.sc (.bool tie),.sl 6]),(6,.row 69 5 (((l.take k).map (gu eG)).map iI))],7⟩) (fun k=>l.length - k) 0 ⟨by omega,fun j hj h=>absurd h (by omega)⟩ (by rw [← XM];exact (zqt id)) fun k hk=>?_
 obtain ⟨hk,hall⟩:=hk
 by_cases hlt:k < l.length
 ·have QX:=xP k hlt
  have hck:=afN s (.int .u8 s) (aU s) cs (st.map eInt) ln T cl l[k] ⟨(hXl _ (fA hlt)).1,by have:=(hXl _ (fA hlt)).2.1;omega⟩ (by have:=(hXl _ (fA hlt)).2.2;omega) (by omega) hcb
  have hbad:=fun h=>zY hlt hall h
  have hnx:dK cs l[k]=0→∀ j (hj:j < l.length),j < k+1→dK cs l[j]=0:=fun h j hj hjk=>by
   exact Xd
  have hrow:((l.take (k+1)).map (gu eG)).map iI=((l.take k).map (gu eG)).map iI++[iI (gu eG l[k])]:=by
   exact afv
  obtain ⟨R,hR⟩:∃ z,((l.take k).map (gu eG)).map iI=z:=⟨_,rfl⟩
  have hRl:R.length≤500000:=by rw [← hR,dH,dH,jR];omega
  rw [hR] at hrow ⊢
  obtain ⟨⟨c,f,r,g,h⟩,hx⟩:∃ z,l[k]=z:=⟨_,rfl⟩
  rw [hx] at QX hck hbad hnx hrow
  unfold dX qX at hck
  unfold qX at QX
  have hrow:((l.take (k+1)).map (gu eG)).map iI=R++[[.sc (.int .i64 c),.sc (.int .i64 f),.sc (.int .i64 r),.sc (.int .i64 g),.sc (.int .i64 0)]]:=hrow
  dsimp only at QX hck
  obtain ⟨H,hH⟩:∃ z,jV s h=z:=⟨_,rfl⟩
  rw [hH] at QX hck
  obtain ⟨NO,hNO⟩:∃ z,dK cs (c,f,r,g,h)=z:=⟨_,rfl⟩
  rw [hNO] at hck hbad hnx
  clear hall
  by_cases h0:NO=0
  rotate_left
  ·rw [if_neg h0] at hck
   have hF:Ctp truB 0 Tryz.prog _ _ _ _ _:=(hck.er_ rfl).frame (X:=[(1,.rwn 90 6 EV),(2,.row 153 1 NT)])
   rw [hcn,hbad h0,if_pos h0]
   refine eH ?_
   refine WL.idx rfl rfl aj QX ?_
   refine eH ?_
   refine WL.ctp (truH _) [0,1,2] rfl rfl (callF Tryz.func94 rfl rfl) hF rfl rfl rfl ⟨⟨rfl,rfl,rfl⟩,⟨rfl,rfl,rfl⟩,⟨rfl,rfl,rfl⟩,trivial⟩ ?_
   rfl
  ·rw [if_pos h0] at hck
   have hF:Cto truB 0 Tryz.prog _ _ _ _ _ _ _:=(hck.ok_ rfl).fr2 (a:=.rwn 90 6 EV) (b:=.row 153 1 NT)
   refine eH ?_
   refine WL.idx rfl rfl aj QX ?_
   refine eH ?_
   refine WL.cto (truH _) [0,1,2] rfl rfl (callF Tryz.func94 rfl rfl) hF rfl rfl rfl ⟨⟨rfl,rfl,rfl⟩,⟨rfl,rfl,rfl⟩,⟨rfl,rfl,rfl⟩,trivial⟩ rfl rfl rfl rfl ?_
   refine eH ?_
   refine ⟨k+1,⟨by omega,hnx h0⟩,by omega,?_⟩
   rw [hrow]
   exact (mP (fun q=>bif Nat.beq q 6 then 9 else q) BK rfl)
 obtain rfl:k=l.length:=by omega
 have hno:=zZ fun j hj=>hall j hj hj
 rw [fE,hcn,hno,if_neg (by decide)]
 obtain ⟨SS,hSS⟩:∃ z,(l.map (gu eG)).map iI=z:=⟨_,rfl⟩
 rw [hSS]
 clear hcn hno hall hk hlt hXl hXn xP
 refine eH ?_
 refine W.drawT 9 aK aK aK ?_
 refine WA.dt [false,false,false,false,false,false,false,true,true] [0,3] [0,3] 8 aK aK aK ⟨rfl,rfl,trivial⟩ ⟨rfl,rfl,trivial⟩ ?_
 refine gQ ?_
 refine wC ?_
 refine gQ ?_
 refine gQ ?_
 refine DTK.bdC (q:=6) (j0:=5) (rows2:=[[.sc (.bool bB),.sc (.int .i64 v),.sc (.bool sD),.sc (.bool sT),.sc (.bool tie),.ow 69 5 SS]]) (M':=[(0,.box 78 [.sc (.int .u8 s),.sc (aU s),.ls 3 (cs.map aW),.ls 1 (st.map eInt),.sl 1,.sl 2,.sc (.int .i64 ln),.ls 1 T,.sc (.bool cl)]),(1,.rwn 90 6 EV),(2,.row 153 1 NT),(3,.box 90 [.sc (.bool bB),.sc (.int .i64 v),.sc (.bool sD),.sc (.bool sT),.sc (.bool tie),.sl 6]),(7,.rwn 90 6 [[.sc (.bool bB),.sc (.int .i64 v),.sc (.bool sD),.sc (.bool sT),.sc (.bool tie),.ow 69 5 SS]])]) rfl rfl rfl rfl rfl rfl rfl rfl rfl rfl rfl rfl rfl rfl rfl rfl rfl rfl rfl ⟨rfl,rfl,rfl,rfl,rfl,trivial⟩ ⟨rfl,rfl,trivial⟩ (fun _=>⟨rfl,rfl,trivial⟩) ?_
 refine DTK.apM (q1:=1) (q2:=7) (M':=[(0,.box 78 [.sc (.int .u8 s),.sc (aU s),.ls 3 (cs.map aW),.ls 1 (st.map eInt),.sl 1,.sl 2,.sc (.int .i64 ln),.ls 1 T,.sc (.bool cl)]),(2,.row 153 1 NT),(3,.box 90 [.sc (.bool bB),.sc (.int .i64 v),.sc (.bool sD),.sc (.bool sT),.sc (.bool tie),.sl 6]),(8,.rwn 90 6 (EV++[[.sc (.bool bB),.sc (.int .i64 v),.sc (.bool sD),.sc (.bool sT),.sc (.bool tie),.ow 69 5 SS]]))]) rfl rfl rfl rfl rfl rfl rfl rfl rfl rfl rfl rfl rfl rfl rfl rfl rfl (by simp;omega) rfl rfl ⟨rfl,rfl,rfl,rfl,trivial⟩ ⟨rfl,rfl,trivial⟩ (fun h=>by cases h) ?_
 refine DTK.nil ?_
 refine ⟨rfl,?_⟩
 refine (?_:WL _ _ _ _ _ _)
 refine eH ?_
 exact rF (σ':=⟨[],[(0,.box 78 [.sc (.int .u8 s),.sc (aU s),.ls 3 (cs.map aW),.ls 1 (st.map eInt),.sl 3,.sl 4,.sc (.int .i64 ln),.ls 1 T,.sc (.bool cl)]),(3,.rwn 90 6 (EV++[[.sc (.bool bB),.sc (.int .i64 v),.sc (.bool sD),.sc (.bool sT),.sc (.bool tie),.ow 69 5 SS]])),(4,.row 153 1 (NT++[[.ls 6 NL]]))],5⟩) (mP (fun q=>bif Nat.beq q 3 then 8 else bif Nat.beq q 4 then 10 else q) amJ rfl) (rE rfl rfl rfl rfl rfl)
end Go.Proofs.YthohlofpphjofaaGreatDoor
