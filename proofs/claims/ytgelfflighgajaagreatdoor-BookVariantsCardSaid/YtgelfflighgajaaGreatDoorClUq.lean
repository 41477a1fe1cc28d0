/- Collate: what it answers; two witnesses written plainly; the program. -/
import Derived.Test.YtgelfflighgajaaGreatDoorAlUq
import Derived.Test.YtgelfflighgajaaGreatDoorW11Uq
set_option maxHeartbeats 8000000
set_option maxRecDepth 100000
set_option linter.unusedVariables false
set_option linter.unusedSimpArgs false
namespace Go.Proofs.YtgelfflighgajaaGreatDoor
open Go.RowKit
def cllX(a b:Pce):Int:=if pceE a≠0 then pceE a else if pceE b≠0 then pceE b else if sameI a.cs a.st b.cs b.st=true then 0 else 11
def cllA(a b:Pce):Pce:=if cllX a b=0 then⟨a.cs,a.st,plE a⟩else noP
def cllB(a b:Pce):Pce:=if cllX a b=0 then⟨b.cs,b.st,plE b⟩else noP
def cllL (a b:Pce):List (Int×Int):=if cllX a b=0 then prsA (plE a) (plE b)else []
def cllN (a b:Pce):Int:=if cllX a b=0 then csA (plE a) (plE b) 0 0 else 0
theorem cll_1 {a b:Pce} (h:pceE a≠0):cllX a b=pceE a∧cllA a b=noP∧cllB a b=noP∧cllL a b=[]∧cllN a b=0:=by
 have e:cllX a b=pceE a:=if_pos h
 have h2:¬ cllX a b=0:=by rw [e];exact h
 exact⟨e,if_neg h2,if_neg h2,if_neg h2,if_neg h2⟩
theorem cll_2 {a b:Pce} (h1:pceE a=0)(h:pceE b≠0):cllX a b=pceE b∧cllA a b=noP∧cllB a b=noP∧cllL a b=[]∧cllN a b=0:=by
 have e:cllX a b=pceE b:=by unfold cllX;rw [if_neg (fun k=>k h1),if_pos h]
 have h2:¬ cllX a b=0:=by rw [e];exact h
 exact⟨e,if_neg h2,if_neg h2,if_neg h2,if_neg h2⟩
theorem cll_3 {a b:Pce} (h1:pceE a=0)(h:pceE b=0)(h3:sameI a.cs a.st b.cs b.st=false):cllX a b=11∧cllA a b=noP∧cllB a b=noP∧cllL a b=[]∧cllN a b=0:=by
 have e:cllX a b=11:=by unfold cllX;rw [if_neg (fun k=>k h1),if_neg (fun k=>k h),if_neg (by simp [h3])]
 have h2:¬ cllX a b=0:=by rw [e];decide
 exact⟨e,if_neg h2,if_neg h2,if_neg h2,if_neg h2⟩
theorem cll_4 {a b:Pce} (h1:pceE a=0) (h:pceE b=0) (h3:sameI a.cs a.st b.cs b.st=true):cllX a b=0∧cllA a b=⟨a.cs,a.st,plE a⟩∧cllB a b=⟨b.cs,b.st,plE b⟩∧cllL a b=prsA (plE a) (plE b)∧cllN a b=csA (plE a) (plE b) 0 0:=by
 have e:cllX a b=0:=by unfold cllX;rw [if_neg (fun k=>k h1),if_neg (fun k=>k h),if_pos h3]
 exact ⟨e,if_pos e,if_pos e,if_pos e,if_pos e⟩
theorem plE_20 {p:Pce} (hO:PcOk p):∀ e∈plE p,e.stops.length≤20:=fun e he=>by
 obtain⟨f,hf,e2⟩:=plN_stops (Nat.le_refl _) _ he
 obtain⟨q,hq,rfl⟩:=List.getElem_of_mem hf
 rw [e2];exact hO.n4 q hq
theorem both_FS (a b:Pce) (hOa:PcOk a) (hOb:PcOk b):Ctr Tryz.prog 62 [ePce a,ePce b] (.tu [ePce (cllA a b),ePce (cllB a b),.sc (.int .i64 (cllX a b))]):=by
 have hPa:=pPlain_FS a hOa
 have hPb:=pPlain_FS b hOb
 have hS:=pSameI_FS a.cs a.st b.cs b.st hOa.n1 hOa.n2 hOb.n1 hOb.n2
 by_cases ha:pceE a=0
 rotate_left
 ·obtain ⟨e1,e2,e3,_,_⟩:=cll_1 (b:=b) ha
  rw [e1,e2,e3]
  obtain ⟨E,hE⟩:∃ E,pceE a=E:=⟨_,rfl⟩
  rw [hE] at hPa ha ⊢
  obtain ⟨Z,hZ⟩:∃ Z,plP a=Z:=⟨_,rfl⟩
  rw [hZ] at hPa
  refine Ctr.intro Tryz.func62 rfl Tryz.ntmps62 (Nat.le_of_ble_eq_true rfl) (bd_all rfl) fun w0 F0=>?_;dsimp only [St.init,number,Nat.reduceAdd]
  repeat refine W.go rfl ?_
  refine (?_:WL _ _ _ _ _ _)
  dsimp only [St.put,Nat.reduceAdd]
  refine WL.vl rfl (WV.call rfl (callF Tryz.func40 rfl rfl) rfl rfl hPa) ?_
  repeat (first|refine W.gob rfl ?_|refine WL.nil ?_|refine WL.nt rfl rfl rfl (by omega) ?_|refine WL.e1 rfl ?_|refine W.condT rfl ?_)
  refine (?_:W _ _ _ _ _)
  dsimp only [St.put,Nat.reduceAdd]
  refine W.tr (Tr.nilC 2 0 3 rfl rfl rfl) ?_
  refine W.tr (Tr.nilC 2 1 1 rfl rfl rfl) ?_
  refine W.tr (Tr.nilC 2 2 6 rfl rfl rfl) ?_
  refine W.tr (Tr.nilC 3 0 3 rfl rfl rfl) ?_
  refine W.tr (Tr.nilC 3 1 1 rfl rfl rfl) ?_
  refine W.tr (Tr.nilC 3 2 6 rfl rfl rfl) ?_
  exact W.ret (finN rfl rfl rfl rfl)
 have ea:plP a=⟨a.cs,a.st,plE a⟩:=if_pos ha
 rw [ea,ha] at hPa
 by_cases hb:pceE b=0
 rotate_left
 ·obtain ⟨e1,e2,e3,_,_⟩:=cll_2 ha hb
  rw [e1,e2,e3]
  obtain ⟨E,hE⟩:∃ E,pceE b=E:=⟨_,rfl⟩
  rw [hE] at hPb hb ⊢
  obtain ⟨Z,hZ⟩:∃ Z,plP b=Z:=⟨_,rfl⟩
  rw [hZ] at hPb
  refine Ctr.intro Tryz.func62 rfl Tryz.ntmps62 (Nat.le_of_ble_eq_true rfl) (bd_all rfl) fun w0 F0=>?_;dsimp only [St.init,number,Nat.reduceAdd]
  repeat refine W.go rfl ?_
  refine (?_:WL _ _ _ _ _ _)
  dsimp only [St.put,Nat.reduceAdd]
  refine WL.vl rfl (WV.call rfl (callF Tryz.func40 rfl rfl) rfl rfl hPa) ?_
  repeat (first|refine W.gob rfl ?_|refine WL.nil ?_|refine WL.nf rfl rfl rfl (by omega) ?_|refine WL.e1 rfl ?_|refine W.condF rfl ?_)
  refine (?_:WL _ _ _ _ _ _)
  dsimp only [St.put,Nat.reduceAdd]
  refine WL.vl rfl (WV.call rfl (callF Tryz.func40 rfl rfl) rfl rfl hPb) ?_
  repeat (first|refine W.gob rfl ?_|refine WL.nil ?_|refine WL.nt rfl rfl rfl (by omega) ?_|refine WL.e1 rfl ?_|refine W.condT rfl ?_)
  refine (?_:W _ _ _ _ _)
  dsimp only [St.put,Nat.reduceAdd]
  refine W.tr (Tr.nilC 2 0 3 rfl rfl rfl) ?_
  refine W.tr (Tr.nilC 2 1 1 rfl rfl rfl) ?_
  refine W.tr (Tr.nilC 2 2 6 rfl rfl rfl) ?_
  refine W.tr (Tr.nilC 3 0 3 rfl rfl rfl) ?_
  refine W.tr (Tr.nilC 3 1 1 rfl rfl rfl) ?_
  refine W.tr (Tr.nilC 3 2 6 rfl rfl rfl) ?_
  exact W.ret (finN rfl rfl rfl rfl)
 have eb:plP b=⟨b.cs,b.st,plE b⟩:=if_pos hb
 rw [eb,hb] at hPb
 obtain ⟨PA,hPA⟩:∃ z,plE a=z:=⟨_,rfl⟩
 obtain ⟨PB,hPB⟩:∃ z,plE b=z:=⟨_,rfl⟩
 cases hs:sameI a.cs a.st b.cs b.st with
 | false =>
  obtain ⟨e1,e2,e3,_,_⟩:=cll_3 ha hb hs
  rw [e1,e2,e3]
  rw [hs] at hS
  rw [hPA] at hPa
  rw [hPB] at hPb
  refine Ctr.intro Tryz.func62 rfl Tryz.ntmps62 (Nat.le_of_ble_eq_true rfl) (bd_all rfl) fun w0 F0=>?_;dsimp only [St.init,number,Nat.reduceAdd]
  repeat refine W.go rfl ?_
  refine (?_:WL _ _ _ _ _ _)
  dsimp only [St.put,Nat.reduceAdd]
  refine WL.vl rfl (WV.call rfl (callF Tryz.func40 rfl rfl) rfl rfl hPa) ?_
  repeat (first|refine W.gob rfl ?_|refine WL.nil ?_|refine WL.nf rfl rfl rfl (by omega) ?_|refine WL.e1 rfl ?_|refine W.condF rfl ?_)
  refine (?_:WL _ _ _ _ _ _)
  dsimp only [St.put,Nat.reduceAdd]
  refine WL.vl rfl (WV.call rfl (callF Tryz.func40 rfl rfl) rfl rfl hPb) ?_
  repeat (first|refine W.gob rfl ?_|refine WL.nil ?_|refine WL.nf rfl rfl rfl (by omega) ?_|refine WL.e1 rfl ?_|refine W.condF rfl ?_)
  refine (?_:WL _ _ _ _ _ _)
  dsimp only [St.put,Nat.reduceAdd]
  refine WL.vl rfl (WV.call rfl (callF Tryz.func89 rfl rfl) rfl rfl hS) ?_
  repeat (first|refine W.gob rfl ?_|refine WL.nil ?_|refine WL.e1 rfl ?_|refine W.condT rfl ?_)
  refine (?_:W _ _ _ _ _)
  dsimp only [St.put,Nat.reduceAdd]
  refine W.tr (Tr.nilC 2 0 3 rfl rfl rfl) ?_
  refine W.tr (Tr.nilC 2 1 1 rfl rfl rfl) ?_
  refine W.tr (Tr.nilC 2 2 6 rfl rfl rfl) ?_
  refine W.tr (Tr.nilC 3 0 3 rfl rfl rfl) ?_
  refine W.tr (Tr.nilC 3 1 1 rfl rfl rfl) ?_
  refine W.tr (Tr.nilC 3 2 6 rfl rfl rfl) ?_
  exact W.ret (finN rfl rfl rfl rfl)
 | true =>
  obtain ⟨e1,e2,e3,_,_⟩:=cll_4 ha hb hs
  rw [e1,e2,e3]
  rw [hs] at hS
  rw [hPA] at hPa ⊢
  rw [hPB] at hPb ⊢
  refine Ctr.intro Tryz.func62 rfl Tryz.ntmps62 (Nat.le_of_ble_eq_true rfl) (bd_all rfl) fun w0 F0=>?_;dsimp only [St.init,number,Nat.reduceAdd]
  repeat refine W.go rfl ?_
  refine (?_:WL _ _ _ _ _ _)
  dsimp only [St.put,Nat.reduceAdd]
  refine WL.vl rfl (WV.call rfl (callF Tryz.func40 rfl rfl) rfl rfl hPa) ?_
  repeat (first|refine W.gob rfl ?_|refine WL.nil ?_|refine WL.nf rfl rfl rfl (by omega) ?_|refine WL.e1 rfl ?_|refine W.condF rfl ?_)
  refine (?_:WL _ _ _ _ _ _)
  dsimp only [St.put,Nat.reduceAdd]
  refine WL.vl rfl (WV.call rfl (callF Tryz.func40 rfl rfl) rfl rfl hPb) ?_
  repeat (first|refine W.gob rfl ?_|refine WL.nil ?_|refine WL.nf rfl rfl rfl (by omega) ?_|refine WL.e1 rfl ?_|refine W.condF rfl ?_)
  refine (?_:WL _ _ _ _ _ _)
  dsimp only [St.put,Nat.reduceAdd]
  refine WL.vl rfl (WV.call rfl (callF Tryz.func89 rfl rfl) rfl rfl hS) ?_
  repeat (first|refine W.gob rfl ?_|refine WL.nil ?_|refine WL.e1 rfl ?_|refine W.condF rfl ?_)
  refine (?_:W _ _ _ _ _)
  dsimp only [St.put,Nat.reduceAdd]
  refine W.of_wa (by kernel_rfl) ?_
  refine WA.ds [false,false,true,true,false] [4,5] (by kernel_rfl) (by kernel_rfl) ⟨rfl,rfl,trivial⟩ ?_
  repeat (first|refine DSK.st rfl rfl ?_|refine DSK.sto rfl rfl rfl rfl rfl rfl rfl rfl rfl rfl rfl rfl rfl rfl ⟨rfl,rfl,trivial⟩ ?_|refine DSK.nil ?_)
  refine (?_:W _ _ _ _ _)
  refine (?_:W _ _ _ _ _)
  dsimp only [St.put,Nat.reduceAdd]
  exact W.ret (finN rfl rfl rfl rfl)
end Go.Proofs.YtgelfflighgajaaGreatDoor
