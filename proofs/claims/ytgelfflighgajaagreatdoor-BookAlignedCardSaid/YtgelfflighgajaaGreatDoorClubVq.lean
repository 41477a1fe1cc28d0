/- Collate: what it answers; two witnesses written plainly; the program. -/
import Derived.Test.YtgelfflighgajaaGreatDoorRPnVq
import Derived.Test.YtgelfflighgajaaGreatDoorClVq
set_option maxHeartbeats 8000000
set_option maxRecDepth 100000
set_option linter.unusedVariables false
set_option linter.unusedSimpArgs false
namespace Go.Proofs.YtgelfflighgajaaGreatDoor
open Go.RowKit
theorem pCollate_FS (a b:Pce) (hOa:PcOk a) (hOb:PcOk b) (h60a:a.evs.length≤60) (h60b:b.evs.length≤60):Ctr Tryz.prog 25 [ePce a,ePce b] (.tu [.ls 2 ((cllL a b).map ePr),.sc (.int .i64 (cllN a b)),.sc (.int .i64 (cllX a b))]):=by
 have hBo:=both_FS a b hOa hOb
 by_cases hx:cllX a b=0
 rotate_left
 ·have e1:cllL a b=[]:=if_neg hx
  have e2:cllN a b=0:=if_neg hx
  rw [e1,e2]
  obtain ⟨X,hX⟩:∃ z,cllX a b=z:=⟨_,rfl⟩
  obtain ⟨Y,hY⟩:∃ z,cllA a b=z:=⟨_,rfl⟩
  obtain ⟨Z,hZ⟩:∃ z,cllB a b=z:=⟨_,rfl⟩
  rw [hX] at hx
  rw [hX,hY,hZ] at hBo
  rw [hX]
  refine Ctr.intro Tryz.func25 rfl Tryz.ntmps25 (Nat.le_of_ble_eq_true rfl) (bd_all rfl) fun w0 F0=>?_;dsimp only [St.init,number,Nat.reduceAdd]
  repeat refine W.go rfl ?_
  refine (?_:WL _ _ _ _ _ _)
  dsimp only [St.put,Nat.reduceAdd]
  refine WL.vl rfl (WV.call rfl (callF Tryz.func62 rfl rfl) rfl rfl hBo) ?_
  repeat (first|refine W.gob rfl ?_|refine WL.nil ?_|refine WL.nt rfl rfl rfl (by omega) ?_|refine WL.e1 rfl ?_|refine W.condT rfl ?_)
  refine (?_:W _ _ _ _ _)
  dsimp only [St.put,Nat.reduceAdd]
  refine W.tr (Tr.nilR (t:=4) 2 rfl) ?_
  exact W.ret (finN rfl rfl rfl rfl)
 have e1:cllL a b=prsA (plE a) (plE b):=if_pos hx
 have e2:cllN a b=csA (plE a) (plE b) 0 0:=if_pos hx
 have e3:cllA a b=⟨a.cs,a.st,plE a⟩:=if_pos hx
 have e4:cllB a b=⟨b.cs,b.st,plE b⟩:=if_pos hx
 have hAl:=pAlign_FS (plE a) (plE b) (by rw [plE_length];omega) (by rw [plE_length];omega) (plE_20 hOa) (plE_20 hOb)
 rw [e1,e2,hx]
 rw [e3,e4,hx] at hBo
 obtain ⟨PL,hPL⟩:∃ z,prsA (plE a) (plE b)=z:=⟨_,rfl⟩
 obtain ⟨PN,hPN⟩:∃ z,csA (plE a) (plE b) 0 0=z:=⟨_,rfl⟩
 rw [hPL,hPN] at hAl ⊢
 obtain ⟨PA,hPA⟩:∃ z,plE a=z:=⟨_,rfl⟩
 obtain ⟨PB,hPB⟩:∃ z,plE b=z:=⟨_,rfl⟩
 rw [hPA,hPB] at hAl hBo
 refine Ctr.intro Tryz.func25 rfl Tryz.ntmps25 (Nat.le_of_ble_eq_true rfl) (bd_all rfl) fun w0 F0=>?_;dsimp only [St.init,number,Nat.reduceAdd]
 repeat refine W.go rfl ?_
 refine (?_:WL _ _ _ _ _ _)
 dsimp only [St.put,Nat.reduceAdd]
 refine WL.vl rfl (WV.call rfl (callF Tryz.func62 rfl rfl) rfl rfl hBo) ?_
 repeat (first|refine W.gob rfl ?_|refine WL.nil ?_|refine WL.nf rfl rfl rfl (by omega) ?_|refine WL.e1 rfl ?_|refine W.condF rfl ?_)
 refine (?_:WL _ _ _ _ _ _)
 dsimp only [St.put,Nat.reduceAdd]
 refine WL.vl rfl (WV.call rfl (callF Tryz.func63 rfl rfl) rfl rfl hAl) ?_
 repeat (first|refine W.gob rfl ?_|refine WL.nil ?_|refine WL.e1 rfl ?_)
 refine (?_:W _ _ _ _ _)
 dsimp only [St.put,Nat.reduceAdd]
 exact W.ret (finN rfl rfl rfl rfl)
end Go.Proofs.YtgelfflighgajaaGreatDoor
