/- The law: translated without losses, and back. -/
import Derived.Test.YthehkchjdkdbiaaGreatDoorLTrnKq
import Derived.Test.YthehkchjdkdbiaaGreatDoorAlkKq
set_option maxHeartbeats 8000000
set_option maxRecDepth 100000
set_option linter.unusedVariables false
set_option linter.unusedSimpArgs false
namespace Go.Proofs.YthehkchjdkdbiaaGreatDoor
open Go.RowKit
theorem QG {p:Prop}(h:p:=by
 refine uy ?_
 refine WL.vl rfl (bZ Tryz.func21 aal) ?_
 refine aay ?_
 exact W.ret vS):p:=h
theorem amJ (a b:Int) (p:aS):kJ aag Tryz.prog 7 [.sc (.int .u8 a),.sc (.int .u8 b),bK p] (.sc (.bool true)):=by
 have hb:=arM p
 by_cases hbig:Uo p=true
 ·rw [hbig] at hb
  refine kJ.intro Bl Tryz.func7 rfl Tryz.ntmps7 (bU rfl) (gG rfl) fun w0 F0 hB=>?_;dsimp only [St.init,number,Nat.reduceAdd]
  refine aay ?_
  refine WL.vl rfl (bZ Tryz.func17 hb) ?_
  exact QG
 have hbf:Uo p=false:=by simpa using hbig
 rw [hbf] at hb
 have hO:=aik hbf
 have hC:=ae3 p hO
 by_cases h0:aV p=0
 rotate_left
 ·obtain ⟨E,hE⟩:∃ z,aV p=z:=⟨_,rfl⟩
  rw [hE] at hC h0
  refine kJ.intro Bl Tryz.func7 rfl Tryz.ntmps7 (bU rfl) (gG rfl) fun w0 F0 hB=>?_;dsimp only [St.init,number,Nat.reduceAdd]
  refine aay ?_
  refine WL.vl rfl (bZ Tryz.func17 hb) ?_
  refine uy ?_
  refine WL.vl rfl (bZ Tryz.func15 hC) ?_
  exact QG
 rw [h0] at hC
 have hCp:=aeY p hO
 have hW:=(Wu a p hO).wB
 by_cases hx:wrX a p=0
 rotate_left
 ·obtain ⟨E,hE⟩:∃ z,wrX a p=z:=⟨_,rfl⟩
  rw [hE] at hW hx
  refine kJ.intro Bl Tryz.func7 rfl Tryz.ntmps7 (bU rfl) (gG rfl) fun w0 F0 hB=>?_;dsimp only [St.init,number,Nat.reduceAdd]
  refine aay ?_
  refine WL.vl rfl (bZ Tryz.func17 hb) ?_
  refine uy ?_
  refine WL.vl rfl (bZ Tryz.func15 hC) ?_
  refine uy ?_
  refine WL.vl rfl (bZ Tryz.func18 hCp) ?_
  refine uy ?_
  refine WL.vl rfl (WV.eH hB rfl (ak Tryz.func14 rfl rfl) rfl rfl hW) ?_
  exact QG
 have hN:=aeO.1 hx
 have hT1:=J8 hN
 rw [hx,(V7 hN).2.2.2] at hW
 have hTr:=Ws (vF a p) hT1 b
 have hcan:=acd b p hO
 by_cases he:(trX (vF a p) b).2.2=0
 rotate_left
 ·unfold eTr at hTr
  obtain ⟨⟨U,L,E⟩,hX⟩:∃ z,trX (vF a p) b=z:=⟨_,rfl⟩
  rw [hX] at hTr he
  dsimp only at hTr he
  obtain ⟨T,hT⟩:∃ z,vF a p=z:=⟨_,rfl⟩
  rw [hT] at hW hTr
  clear hT1 hX hx
  refine kJ.intro Bl Tryz.func7 rfl Tryz.ntmps7 (bU rfl) (gG rfl) fun w0 F0 hB=>?_;dsimp only [St.init,number,Nat.reduceAdd]
  refine aay ?_
  refine WL.vl rfl (bZ Tryz.func17 hb) ?_
  refine uy ?_
  refine WL.vl rfl (bZ Tryz.func15 hC) ?_
  refine uy ?_
  refine WL.vl rfl (bZ Tryz.func18 hCp) ?_
  refine uy ?_
  refine WL.vl rfl (WV.eH hB rfl (ak Tryz.func14 rfl rfl) rfl rfl hW) ?_
  refine uy ?_
  refine WL.vl rfl (WV.eH hB rfl (ak Tryz.func22 rfl rfl) rfl rfl hTr) ?_
  exact QG
 have hb4:1≤b∧b≤4:=by
  by_cases q:1≤b∧b≤4
  ·exact q
  ·unfold trX at he
   rw [if_pos q] at he
   cases he
 have hrx:jJ b p=0:=by
  unfold trX at he
  rw [if_neg (fun q=>q hb4),I8 hN,if_neg (fun q=>q rfl)] at he
  by_cases q:jJ b p=0
  ·exact q
  ·rw [if_pos q] at he
   exact absurd he q
 have hXe:trX (vF a p) b=(wrT b (dX b p),wL b p,0):=by
  unfold trX
  rw [if_neg (fun q=>q hb4),I8 hN,if_neg (fun q=>q rfl)]
  show (if jJ b p≠0 then _ else _)=_
  rw [if_neg (fun q=>q hrx)]
 rw [hXe] at hTr
 unfold eTr at hTr
 dsimp only at hTr
 by_cases hl:wL b p=[]
 rotate_left
 ·have hn0:(qR b p == 0 && ((iT b p).length:Int) == 0)=false:=by
   cases q:(qR b p == 0 && ((iT b p).length:Int) == 0) with
   | false=>rfl
   | true =>
    simp only [aW,qH] at q
    have hL:iT b p=[]:=oN au
    exact absurd (aiV (Kq q.1 hL)) hl
  rw [hn0] at hcan
  have hpos:0 < (wL b p).length:=List.length_pos_iff.2 hl
  have hml:((wL b p).map iR).length=(wL b p).length:=aH _
  obtain ⟨T,hT⟩:∃ z,vF a p=z:=⟨_,rfl⟩
  obtain ⟨U,hU⟩:∃ z,wrT b (dX b p)=z:=⟨_,rfl⟩
  obtain ⟨LM,hLM⟩:∃ z,(wL b p).map iR=z:=⟨_,rfl⟩
  rw [hT] at hW hTr
  rw [hU,hLM] at hTr
  rw [hLM] at hml
  clear hT1 hXe he hx
  refine kJ.intro Bl Tryz.func7 rfl Tryz.ntmps7 (bU rfl) (gG rfl) fun w0 F0 hB=>?_;dsimp only [St.init,number,Nat.reduceAdd]
  refine aay ?_
  refine WL.vl rfl (bZ Tryz.func17 hb) ?_
  refine uy ?_
  refine WL.vl rfl (bZ Tryz.func15 hC) ?_
  refine uy ?_
  refine WL.vl rfl (bZ Tryz.func18 hCp) ?_
  refine uy ?_
  refine WL.vl rfl (WV.eH hB rfl (ak Tryz.func14 rfl rfl) rfl rfl hW) ?_
  refine uy ?_
  refine WL.vl rfl (WV.eH hB rfl (ak Tryz.func22 rfl rfl) rfl rfl hTr) ?_
  refine uy ?_
  refine WL.vl rfl (bZ Tryz.func18 hCp) ?_
  refine uy ?_
  refine WL.vl rfl (bZ Tryz.func19 hcan) ?_
  exact QG
 have hN1:=ahX hrx
 obtain ⟨hN2,hc,hst,hev⟩:=Yb hN hrx hl
 have hO2:=WG (s:=b) hO
 rw [hl,(V7 hN1).2.2.2] at hTr
 have hTb:=Ws (vF b (dX b p)) (J8 hN1) a
 have hXb:trX (vF b (dX b p)) a=(vF a (dX b p),[],0):=by
  unfold trX
  rw [if_neg (fun q=>q hN.y),I8 hN1,if_neg (fun q=>q rfl)]
  show (if jJ a (dX b p)≠0 then _ else (wrT a (dX a (dX b p)),wL a (dX b p),(0:Int)))=_
  rw [if_neg (fun q=>q (acB hN2)),aiV hN2,awF hN2,(V7 hN2).2.2.2]
 rw [hXb] at hTb
 unfold eTr at hTb
 dsimp only at hTb
 have YD:=(aiG (vF a (dX b p)) (J8 hN2)).wN
 rw [I8 hN2] at YD
 unfold rdR at YD
 dsimp only at YD
 have hA:=aeR p (dX b p) hO hO2 h0 hN2.e hc hst hev (aou hrx)
 obtain ⟨q,hq⟩:∃ z,dX b p=z:=⟨_,rfl⟩
 rw [hq] at hTr hTb YD hA
 unfold bK at hA hb hC hCp hW ⊢
 obtain ⟨T,hT⟩:∃ z,vF a p=z:=⟨_,rfl⟩
 obtain ⟨U,hU⟩:∃ z,vF b q=z:=⟨_,rfl⟩
 obtain ⟨V,hV⟩:∃ z,vF a q=z:=⟨_,rfl⟩
 rw [hT] at hW hTr
 rw [hU] at hTr hTb
 rw [hV] at hTb YD
 clear hT1 hXe he hx hXb hN1 hN2 hc hst hev hq hT hU hV hl hrx hb4 hcan
 refine kJ.intro Bl Tryz.func7 rfl Tryz.ntmps7 (bU rfl) (gG rfl) fun w0 F0 hB=>?_;dsimp only [St.init,number,Nat.reduceAdd]
 refine aay ?_
 refine WL.vl rfl (bZ Tryz.func17 hb) ?_
 refine uy ?_
 refine WL.vl rfl (bZ Tryz.func15 hC) ?_
 refine uy ?_
 refine WL.vl rfl (bZ Tryz.func18 hCp) ?_
 refine uy ?_
 refine WL.vl rfl (WV.eH hB rfl (ak Tryz.func14 rfl rfl) rfl rfl hW) ?_
 refine uy ?_
 refine WL.vl rfl (WV.eH hB rfl (ak Tryz.func22 rfl rfl) rfl rfl hTr) ?_
 refine uy ?_
 refine WL.vl rfl (WV.eH hB rfl (ak Tryz.func22 rfl rfl) rfl rfl hTb) ?_
 refine uy ?_
 refine WL.vl rfl (WV.eH hB rfl (ak Tryz.func11 rfl rfl) rfl rfl YD) ?_
 refine uy ?_
 refine WL.vl rfl (bZ Tryz.func25 hA) ?_
 exact QG
end Go.Proofs.YthehkchjdkdbiaaGreatDoor
