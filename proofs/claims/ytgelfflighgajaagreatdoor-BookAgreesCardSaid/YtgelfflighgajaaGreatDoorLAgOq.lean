/- The law BookAgrees. -/
import Derived.Test.YtgelfflighgajaaGreatDoorRCnOq
import Derived.Test.YtgelfflighgajaaGreatDoorCnDOq
set_option maxHeartbeats 8000000
set_option maxRecDepth 100000
set_option linter.unusedVariables false
set_option linter.unusedSimpArgs false
namespace Go.Proofs.YtgelfflighgajaaGreatDoor
open Go.RowKit
theorem longA60 {p:Pce} (h:longB p=false):p.evs.length≤60:=by
 unfold longB at h
 simp only [Bool.or_eq_false_iff,decide_eq_false_iff_not]at h
 omega
theorem noP_okA:PcOk noP:=⟨by decide,by decide,by decide,fun k hk=>by cases hk⟩
theorem cnP_ok {b:Pce} {os:List Pce} (hOb:PcOk b) (h60:b.evs.length≤60) (ho:∀ o∈os,PcOk o∧o.evs.length≤60):PcOk (cnP b os):=by
 unfold cnP
 split
 ·have hla:=plE_length b
  have hv:=vtB_ok (os:=os) (plE_20 hOb) zqo ho os.length (Nat.le_refl _)
  rw [vtB_all] at hv
  have hk:∀ e∈cnK (vtA (plE b) os) os.length b.evs.length,e.stops.length≤20:=cnK_20 (m:=os.length) hv _ zqo
  have hl:=cnK_len (s:=vtA (plE b) os) (m:=os.length) b.evs.length
  refine ⟨hOb.n1,hOb.n2,?_,fun k h=>stl_20 hk _ (List.getElem_mem h)⟩
  show (stl _).length≤420
  rw [stl_len];omega
 ·exact noP_okA
theorem agrees_G (b:Pce) (os:List Pce):Ctg tabB Tryz.prog 9 [ePce b,.ls 3 (os.map eP3)] (.sc (.bool true)):=by
 have hLb:=long_FS b
 have hOl:(os.map eP3).length=os.length:=List.length_map _
 have hOa:∀ k (h:k < os.length),(os.map eP3)[((k:Nat):Int).toNat]?=some (eP3 os[k]):=fun k h=>map_at h
 cases hlb:longB b with
 | true =>
  rw [hlb] at hLb
  refine Ctg.intro stabB Tryz.func9 rfl Tryz.ntmps9 (Nat.le_of_ble_eq_true rfl) (bd_all rfl) fun w0 F0 hB=>?_;dsimp only [St.init,number,Nat.reduceAdd]
  repeat refine W.go rfl ?_
  refine (?_:WL _ _ _ _ _ _)
  refine WL.vl rfl (zqc Tryz.func14 hLb) ?_
  repeat (first|refine W.gob rfl ?_|refine WL.nil ?_|refine WL.e1 rfl ?_|refine WL.opno rfl rfl rfl rfl rfl rfl rfl ?_|refine W.condT rfl ?_)
  refine (?_:WL _ _ _ _ _ _)
  refine WL.vl rfl (WV.callG hB rfl (callF Tryz.func15 rfl rfl) rfl rfl works11_G) ?_
  repeat refine WL.ev rfl ?_
  refine (?_:W _ _ _ _ _)
  exact W.ret zqr
 | false =>
 rw [hlb] at hLb
 have hOb:=pcOk_of3 hlb
 have h60:=longA60 hlb
 clear hlb
 by_cases h70:70 < os.length
 ·refine Ctg.intro stabB Tryz.func9 rfl Tryz.ntmps9 (Nat.le_of_ble_eq_true rfl) (bd_all rfl) fun w0 F0 hB=>?_;dsimp only [St.init,number,Nat.reduceAdd]
  repeat refine W.go rfl ?_
  refine (?_:WL _ _ _ _ _ _)
  refine WL.vl rfl (zqc Tryz.func14 hLb) ?_
  repeat (first|refine W.gob rfl ?_|refine WL.nil ?_|refine WL.bt rfl rfl rfl zqo ?_|refine WL.e1 rfl ?_|refine WL.gyes rfl rfl rfl rfl ?_|refine WL.len rfl rfl zql ?_|refine W.condT rfl ?_)
  refine (?_:WL _ _ _ _ _ _)
  refine WL.vl rfl (WV.callG hB rfl (callF Tryz.func15 rfl rfl) rfl rfl works11_G) ?_
  repeat refine WL.ev rfl ?_
  refine (?_:W _ _ _ _ _)
  exact W.ret zqr
 have hK1:=fun ho:∀ o∈os,PcOk o∧o.evs.length≤60=>pConsensus_FS b os hOb h60 ho zqo
 have hK2:=fun ho:∀ o∈os,PcOk o∧o.evs.length≤60=>rConsensus_FS b os hOb h60 ho zqo
 obtain ⟨OS,hOS⟩:∃ z,os.map eP3=z:=⟨_,rfl⟩
 rw [hOS] at hOl hOa hK1 hK2 ⊢
 have htk:∀ k,k≤os.length→(OS.take k).length=k:=fun k h=>by rw [List.length_take];omega
 have hts:∀ k (h:k < os.length),OS.take k++[eP3 os[k]]=OS.take (k+1):=fun k h=>by
  subst hOS
  rw [List.take_succ_eq_append_getElem (by omega),List.getElem_map]
 refine Ctg.intro stabB Tryz.func9 rfl Tryz.ntmps9 (Nat.le_of_ble_eq_true rfl) (bd_all rfl) fun w0 F0 hB=>?_;dsimp only [St.init,number,Nat.reduceAdd]
 repeat refine W.go rfl ?_
 refine (?_:WL _ _ _ _ _ _)
 refine WL.vl rfl (zqc Tryz.func14 hLb) ?_
 repeat (first|refine W.gob rfl ?_|refine WL.nil ?_|refine WL.bf rfl rfl rfl zqo ?_|refine WL.e1 rfl ?_|refine WL.gyes rfl rfl rfl rfl ?_|refine WL.len rfl rfl zql ?_|refine W.condF rfl ?_)
 refine (?_:W _ _ _ _ _)
 first|refine W.tr (Tr.nil (t:=6) 28 3 rfl rfl) ?_|refine WL.tr (Tr.nil (t:=6) 28 3 rfl rfl) ?_
 dsimp only [St.put,St.new,St.upd,Nat.reduceAdd]
 refine (?_:W _ _ _ _ _)
 refine W.loop (fun s:Nat×Int=>s.1≤os.length∧0≤s.2∧s.2≤200∧∀ i (h:i < os.length),i < s.1→longB os[i]=false) (fun s=>⟨[(1,.ls 3 OS),(2,.pt 0 0 0),(5,.sc (.int .i64 s.2)),(6,.sl 1),(7,.sc (.int .i64 s.1))],[(0,.box 28 [.ls 3 (b.cs.map eCrs),.ls 1 (b.st.map eInt),.ls 6 (b.evs.map eEv)]),(1,.row 28 3 (OS.take s.1))],2⟩) (fun s=>os.length - s.1) (0,0) ⟨by simp,by simp,by simp,fun i _ h=>absurd h (Nat.not_lt_zero i)⟩ (zqu (fun q=>q) (by repeat (first|exact trivial|refine ⟨⟨?_,?_,?_⟩,?_⟩|rfl|exact congrArg (fun q=>some (AO.row _ _ q)) rfl)) rfl) fun s hs=>?_
 obtain ⟨k,n⟩:=s
 obtain ⟨hk,hn0,hn2,hlg⟩:=hs
 dsimp only at hk hn0 hn2 hlg ⊢
 by_cases hlt:k < os.length
 ·have hOk1:=hOa k hlt
  have hLo:=long_FS os[k]
  have htl:=htk k hk
  have hts1:=hts k hlt
  cases hlo:longB os[k] with
  | true =>
   rw [hlo] at hLo
   obtain ⟨O,hO⟩:∃ z,os[k]=z:=⟨_,rfl⟩
   rw [hO] at hLo hOk1
   clear hlg hK1 hK2 hOa hts hts1 htk hlo
   repeat (first|refine W.gob rfl ?_|refine WL.nil ?_|refine WL.bt rfl rfl rfl zqo ?_|refine WL.e1 rfl ?_|refine WL.len rfl rfl zql ?_|refine W.condT rfl ?_)
   refine (?_:WL _ _ _ _ _ _)
   refine WL.idx rfl rfl zqo hOk1 ?_
   repeat (first|refine WL.e1 rfl ?_|refine WL.len rfl rfl zql ?_)
   refine (?_:WL _ _ _ _ _ _)
   refine WL.arW rfl rfl fun y=>?_
   repeat (first|refine W.gob rfl ?_|refine WL.nil ?_|refine WL.e1 rfl ?_)
   refine (?_:WL _ _ _ _ _ _)
   refine WL.idx rfl rfl zqo hOk1 ?_
   repeat refine WL.e1 rfl ?_
   refine (?_:WL _ _ _ _ _ _)
   refine WL.vl rfl (zqc Tryz.func14 hLo) ?_
   repeat (first|refine W.gob rfl ?_|refine WL.nil ?_|refine WL.e1 rfl ?_|refine WL.opno rfl rfl rfl rfl rfl rfl rfl ?_|refine W.condT rfl ?_)
   refine (?_:WL _ _ _ _ _ _)
   refine WL.vl rfl (WV.callG hB rfl (callF Tryz.func15 rfl rfl) rfl rfl works11_G) ?_
   repeat refine WL.ev rfl ?_
   refine (?_:W _ _ _ _ _)
   exact W.ret zqr
  | false =>
   rw [hlo] at hLo
   have hOo:=pcOk_of3 hlo
   have h60o:=longA60 hlo
   have hlg':∀ i (h:i < os.length),i < k+1→longB os[i]=false:=fun i h hi=>by
    by_cases e:i=k
    ·subst e;exact hlo
    ·exact hlg i h zqo
   obtain ⟨O,hO⟩:∃ z,os[k]=z:=⟨_,rfl⟩
   rw [hO] at hLo hOk1 hOo h60o hts1
   clear hlg hK1 hK2 hOa hts htk hlo
   by_cases hn:200 < n+(O.evs.length:Int)
   ·repeat (first|refine W.gob rfl ?_|refine WL.nil ?_|refine WL.bt rfl rfl rfl zqo ?_|refine WL.e1 rfl ?_|refine WL.len rfl rfl zql ?_|refine W.condT rfl ?_)
    refine (?_:WL _ _ _ _ _ _)
    refine WL.idx rfl rfl zqo hOk1 ?_
    repeat (first|refine W.gob rfl ?_|refine WL.nil ?_|refine WL.e1 rfl ?_|refine WL.ar rfl rfl (by unfold I64;omega) ?_|refine WL.len rfl rfl zql ?_)
    refine (?_:WL _ _ _ _ _ _)
    refine WL.idx rfl rfl zqo hOk1 ?_
    repeat refine WL.e1 rfl ?_
    refine (?_:WL _ _ _ _ _ _)
    refine WL.vl rfl (zqc Tryz.func14 hLo) ?_
    repeat (first|refine W.gob rfl ?_|refine WL.nil ?_|refine WL.bt rfl rfl rfl zqo ?_|refine WL.e1 rfl ?_|refine WL.gyes rfl rfl rfl rfl ?_|refine W.condT rfl ?_)
    refine (?_:WL _ _ _ _ _ _)
    refine WL.vl rfl (WV.callG hB rfl (callF Tryz.func15 rfl rfl) rfl rfl works11_G) ?_
    repeat refine WL.ev rfl ?_
    refine (?_:W _ _ _ _ _)
    exact W.ret zqr
   ·repeat (first|refine W.gob rfl ?_|refine WL.nil ?_|refine WL.bt rfl rfl rfl zqo ?_|refine WL.e1 rfl ?_|refine WL.len rfl rfl zql ?_|refine W.condT rfl ?_)
    refine (?_:WL _ _ _ _ _ _)
    refine WL.idx rfl rfl zqo hOk1 ?_
    repeat (first|refine W.gob rfl ?_|refine WL.nil ?_|refine WL.e1 rfl ?_|refine WL.ar rfl rfl (by unfold I64;omega) ?_|refine WL.len rfl rfl zql ?_)
    refine (?_:WL _ _ _ _ _ _)
    refine WL.idx rfl rfl zqo hOk1 ?_
    repeat refine WL.e1 rfl ?_
    refine (?_:WL _ _ _ _ _ _)
    refine WL.vl rfl (zqc Tryz.func14 hLo) ?_
    repeat (first|refine W.gob rfl ?_|refine WL.nil ?_|refine WL.bf rfl rfl rfl zqo ?_|refine WL.e1 rfl ?_|refine WL.gyes rfl rfl rfl rfl ?_|refine W.condF rfl ?_)
    refine (?_:WL _ _ _ _ _ _)
    refine WL.idx rfl rfl zqo hOk1 ?_
    repeat refine WL.e1 rfl ?_
    refine (?_:WL _ _ _ _ _ _)
    refine WL.vl rfl (WV.call rfl (callF Tryz.func17 rfl rfl) rfl rfl (pcCopy_FS O hOo)) ?_
    repeat (first|refine W.gob rfl ?_|refine WL.nil ?_|refine WL.e1 rfl ?_|refine WL.ar rfl rfl (by unfold I64;omega) ?_|refine WL.app rfl rfl rfl zqs ?_)
    refine ⟨(k+1,n+(O.evs.length:Int)),⟨by show k+1≤_;omega,by show 0≤n+(O.evs.length:Int);omega,by show n+(O.evs.length:Int)≤200;omega,hlg'⟩,by show os.length - (k+1) < os.length - k;omega,?_⟩
    exact (zqu (fun q=>bif Nat.beq q 1 then 3 else q) (by repeat (first|exact trivial|refine ⟨⟨?_,?_,?_⟩,?_⟩|rfl|exact congrArg (fun q=>some (AO.row _ _ q)) hts1)) rfl)
 obtain rfl:k=os.length:=by omega
 have hoA:∀ o∈os,PcOk o∧o.evs.length≤60:=fun o ho=>by
  obtain ⟨i,hi,rfl⟩:=List.getElem_of_mem ho
  have:=hlg i hi hi
  exact ⟨pcOk_of3 this,longA60 this⟩
 have hP:=hK1 hoA
 have hR:=hK2 hoA
 have hS:=same_FS (cnP b os) (cnP_ok hOb h60 hoA)
 rw [show OS.take os.length=OS by rw [← hOl,List.take_length]]
 obtain ⟨X,hX⟩:∃ z,cnX b os=z:=⟨_,rfl⟩
 obtain ⟨Y,hY⟩:∃ z,cnP b os=z:=⟨_,rfl⟩
 rw [hX,hY] at hP hR
 rw [hY] at hS
 clear hlg hK1 hK2 hOa hts htk hoA
 repeat (first|refine W.gob rfl ?_|refine WL.nil ?_|refine WL.bf rfl rfl rfl zqo ?_|refine WL.e1 rfl ?_|refine WL.len rfl rfl zql ?_|refine W.condF rfl ?_)
 refine (?_:WL _ _ _ _ _ _)
 refine WL.vl rfl (WV.call rfl (callF Tryz.func17 rfl rfl) rfl rfl (pcCopy_FS b hOb)) ?_
 repeat refine WL.e1 rfl ?_
 refine (?_:WL _ _ _ _ _ _)
 refine WL.tr (Tr.freeze 1 rfl) ?_
 dsimp only [St.freeze]
 refine (?_:WL _ _ _ _ _ _)
 refine WL.vl rfl (zqc Tryz.func38 hP) ?_
 repeat (first|refine W.gob rfl ?_|refine WL.nil ?_|refine WL.e1 rfl ?_)
 refine (?_:WL _ _ _ _ _ _)
 refine WL.vl rfl (zqc Tryz.func39 hR) ?_
 repeat (first|refine W.gob rfl ?_|refine WL.nil ?_|refine WL.e1 rfl ?_)
 refine (?_:WL _ _ _ _ _ _)
 refine WL.vl rfl (zqc Tryz.func20 hS) ?_
 repeat (first|refine WL.bt rfl rfl rfl zqo ?_|refine WL.e1 rfl ?_|refine WL.gyes rfl rfl rfl rfl ?_)
 refine (?_:WL _ _ _ _ _ _)
 refine WL.vl rfl (WV.callG hB rfl (callF Tryz.func15 rfl rfl) rfl rfl works11_G) ?_
 repeat refine WL.ev rfl ?_
 refine (?_:W _ _ _ _ _)
 exact W.ret zqr
end Go.Proofs.YtgelfflighgajaaGreatDoor
