/- Variants: the law BookVariants. -/
import Derived.Test.YtgelfflighgajaaGreatDoorRVrUq
import Derived.Test.YtgelfflighgajaaGreatDoorLCoUq
set_option maxHeartbeats 8000000
set_option maxRecDepth 100000
set_option linter.unusedVariables false
set_option linter.unusedSimpArgs false
namespace Go.Proofs.YtgelfflighgajaaGreatDoor
open Go.RowKit
theorem z21l {m n : Nat} (h : m = n := by first | exact List.length_map _ | exact List.length_replicate | rfl) : m = n := h
theorem sameVa_FS (l:List Va) (h:l.length≤100000) (h20:∀ v∈l,v.ev.stops.length≤20):Ctr Tryz.prog 37 [.ls 8 (l.map eVa),.ls 8 (l.map eVa)] (.sc (.bool true)):=by
 refine Ctr.intro Tryz.func37 rfl Tryz.ntmps37 (Nat.le_of_ble_eq_true rfl) (bd_all rfl) fun w0 F0=>?_;dsimp only [St.init,number,Nat.reduceAdd]
 repeat (first|refine W.gob rfl ?_|refine WL.nil ?_|refine WL.nf rfl rfl rfl (by omega) ?_|refine WL.e1 rfl ?_|refine WL.len rfl rfl z21l ?_|refine W.condF rfl ?_)
 refine (?_:W _ _ _ _ _)
 refine W.loop (fun k:Nat=>k≤l.length) (fun k=>⟨[(0,.ls 8 (l.map eVa)),(1,.ls 8 (l.map eVa)),(5,.sc (.int .i64 k))],[],0⟩) (fun k=>l.length - k) 0 (by omega) (Tr.ren id (by repeat (first|exact trivial|refine ⟨⟨?_,?_⟩,?_⟩|rfl)) (by repeat (first|exact trivial|refine ⟨⟨?_,?_,?_⟩,?_⟩|rfl)) rfl) fun k hk=>?_
 by_cases hlt:k < l.length
 ·have hs:=sameEv_FS l[k].ev (by have:=h20 l[k] (List.getElem_mem hlt);omega)
  repeat (first|refine W.gob rfl ?_|refine WL.nil ?_|refine WL.bt rfl rfl rfl (by omega) ?_|refine WL.e1 rfl ?_|refine WL.len rfl rfl z21l ?_|refine W.condT rfl ?_)
  refine (?_:W _ _ _ _ _)
  refine W.drawK (by kernel_rfl) (by kernel_rfl) ?_
  repeat (first|refine DK.ff rfl (by first|(simp;done)|fail) ?_|refine DK.st rfl ?_|refine DK.idx rfl rfl (by omega) (by first|exact map_at (by omega)|exact map_atZ (by omega) (by omega)) ?_)
  refine DK.vl rfl (WV.call rfl (callF Tryz.func55 rfl rfl) rfl rfl hs) ?_
  repeat (first|refine DK.ff rfl (by first|(simp;done)|fail) ?_|refine DK.nil ?_)
  repeat (first|refine W.go rfl ?_|refine WL.ev rfl ?_|refine WL.ar rfl rfl (by unfold I64;omega) ?_|refine W.condF rfl ?_)
  exact ⟨k+1,by omega,by omega,(Tr.ren id (by repeat (first|exact trivial|refine ⟨⟨?_,?_⟩,?_⟩|rfl)) (by repeat (first|exact trivial|refine ⟨⟨?_,?_,?_⟩,?_⟩|rfl)) rfl)⟩
 ·obtain rfl:k=l.length:=by omega
  repeat (first|refine W.gob rfl ?_|refine WL.nil ?_|refine WL.bf rfl rfl rfl (by omega) ?_|refine WL.e1 rfl ?_|refine WL.len rfl rfl z21l ?_|refine W.condF rfl ?_)
  refine (?_:W _ _ _ _ _)
  exact W.ret (fin1 rfl rfl rfl rfl)
theorem variants_G (a b:Pce):Ctg tabB Tryz.prog 8 [ePce a,ePce b] (.sc (.bool true)):=by
 have hLa:=long_FS a
 have hLb:=long_FS b
 cases hla:longB a with
 | true =>
  rw [hla] at hLa
  refine Ctg.intro stabB Tryz.func8 rfl Tryz.ntmps8 (Nat.le_of_ble_eq_true rfl) (bd_all rfl) fun w0 F0 hB=>?_;dsimp only [St.init,number,Nat.reduceAdd]
  repeat refine W.go rfl ?_
  refine (?_:WL _ _ _ _ _ _)
  refine WL.vl rfl (WV.call rfl (callF Tryz.func14 rfl rfl) rfl rfl hLa) ?_
  repeat (first|refine W.gob rfl ?_|refine WL.nil ?_|refine WL.e1 rfl ?_|refine WL.opno rfl rfl rfl rfl rfl rfl rfl ?_|refine W.condT rfl ?_)
  refine (?_:WL _ _ _ _ _ _)
  refine WL.vl rfl (WV.callG hB rfl (callF Tryz.func15 rfl rfl) rfl rfl works11_G) ?_
  repeat refine WL.ev rfl ?_
  refine (?_:W _ _ _ _ _)
  exact W.ret (fin1 rfl rfl rfl rfl)
 | false =>
 rw [hla] at hLa
 cases hlb:longB b with
 | true =>
  rw [hlb] at hLb
  refine Ctg.intro stabB Tryz.func8 rfl Tryz.ntmps8 (Nat.le_of_ble_eq_true rfl) (bd_all rfl) fun w0 F0 hB=>?_;dsimp only [St.init,number,Nat.reduceAdd]
  repeat refine W.go rfl ?_
  refine (?_:WL _ _ _ _ _ _)
  refine WL.vl rfl (WV.call rfl (callF Tryz.func14 rfl rfl) rfl rfl hLa) ?_
  repeat (first|refine WL.e1 rfl ?_|refine WL.gyes rfl rfl rfl rfl ?_)
  refine (?_:WL _ _ _ _ _ _)
  refine WL.vl rfl (WV.call rfl (callF Tryz.func14 rfl rfl) rfl rfl hLb) ?_
  repeat (first|refine W.gob rfl ?_|refine WL.nil ?_|refine WL.e1 rfl ?_|refine W.condT rfl ?_)
  refine (?_:WL _ _ _ _ _ _)
  refine WL.vl rfl (WV.callG hB rfl (callF Tryz.func15 rfl rfl) rfl rfl works11_G) ?_
  repeat refine WL.ev rfl ?_
  refine (?_:W _ _ _ _ _)
  exact W.ret (fin1 rfl rfl rfl rfl)
 | false =>
 rw [hlb] at hLb
 have hOa:=pcOk_of3 hla
 have hOb:=pcOk_of3 hlb
 have h60a:=long60' hla
 have h60b:=long60' hlb
 have hP:=pVariants_FS a b hOa hOb h60a h60b
 have hR:=rVariants_FS a b hOa hOb h60a h60b
 have hlen:(vrsL a b).length≤1000∧∀ v∈vrsL a b,v.ev.stops.length≤20:=by
  unfold vrsL
  split
  ·have h1:=vrS_len (x:=plE a) (y:=plE b) (prsA (plE a) (plE b)) 0
   have h2:=prs_len (a:=plE a) (b:=plE b) ((plE a).length+(plE b).length) 0 0
   have e1:=plE_length a
   have e2:=plE_length b
   unfold prsA at h1 ⊢
   exact ⟨by omega,vrS_20 (plE_20 hOb) _ _⟩
  ·exact ⟨by simp,fun v hv=>by cases hv⟩
 have hS:=sameVa_FS (vrsL a b) (by omega) hlen.2
 obtain ⟨X,hX⟩:∃ z,cllX a b=z:=⟨_,rfl⟩
 obtain ⟨L,hL⟩:∃ z,vrsL a b=z:=⟨_,rfl⟩
 rw [hX,hL] at hP hR
 rw [hL] at hS
 refine Ctg.intro stabB Tryz.func8 rfl Tryz.ntmps8 (Nat.le_of_ble_eq_true rfl) (bd_all rfl) fun w0 F0 hB=>?_;dsimp only [St.init,number,Nat.reduceAdd]
 repeat refine W.go rfl ?_
 refine (?_:WL _ _ _ _ _ _)
 refine WL.vl rfl (WV.call rfl (callF Tryz.func14 rfl rfl) rfl rfl hLa) ?_
 repeat (first|refine WL.e1 rfl ?_|refine WL.gyes rfl rfl rfl rfl ?_)
 refine (?_:WL _ _ _ _ _ _)
 refine WL.vl rfl (WV.call rfl (callF Tryz.func14 rfl rfl) rfl rfl hLb) ?_
 repeat (first|refine W.gob rfl ?_|refine WL.nil ?_|refine WL.e1 rfl ?_|refine W.condF rfl ?_)
 refine (?_:W _ _ _ _ _)
 refine W.drawK (by kernel_rfl) (by kernel_rfl) ?_
 repeat refine DK.st rfl ?_
 refine DK.vl rfl (WV.call rfl (callF Tryz.func17 rfl rfl) rfl rfl (pcCopy_FS a hOa)) ?_
 repeat refine DK.st rfl ?_
 refine DK.vl rfl (WV.call rfl (callF Tryz.func17 rfl rfl) rfl rfl (pcCopy_FS b hOb)) ?_
 refine DK.vl rfl (WV.call rfl (callF Tryz.func35 rfl rfl) rfl rfl hP) ?_
 repeat (first|refine DK.st rfl ?_|refine DK.nil ?_)
 repeat refine W.go rfl ?_
 refine (?_:WL _ _ _ _ _ _)
 refine WL.vl rfl (WV.call rfl (callF Tryz.func36 rfl rfl) rfl rfl hR) ?_
 repeat (first|refine W.go rfl ?_|refine WL.ev rfl ?_)
 refine (?_:WL _ _ _ _ _ _)
 refine WL.vl rfl (WV.call rfl (callF Tryz.func37 rfl rfl) rfl rfl hS) ?_
 repeat (first|refine WL.ev rfl ?_|refine WL.gyes rfl rfl rfl rfl ?_)
 refine (?_:WL _ _ _ _ _ _)
 refine WL.partG rfl rfl rfl rfl (fun hp=>?_) (fun hp=>absurd hp (by simp))
 refine WL.gyes rfl rfl rfl rfl ?_
 refine WL.vl rfl (WV.callG hB rfl (callF Tryz.func15 rfl rfl) rfl rfl works11_G) ?_
 repeat refine WL.ev rfl ?_
 refine (?_:W _ _ _ _ _)
 exact W.ret (fin1 rfl rfl rfl rfl)
end Go.Proofs.YtgelfflighgajaaGreatDoor
