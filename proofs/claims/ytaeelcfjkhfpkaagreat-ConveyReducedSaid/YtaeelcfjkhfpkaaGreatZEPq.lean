/- The reference's Times in a seat without RTi's chain (out of XRTi, with XZD's own sgF_tkz). -/
import Derived.Test.YtaeelcfjkhfpkaaGreatZDPq
set_option maxHeartbeats 8000000
set_option maxRecDepth 100000
set_option linter.unusedVariables false
set_option linter.unusedSimpArgs false
namespace Go.Proofs.YtaeelcfjkhfpkaaGreat
open Go.RowKit
theorem z61i {z:Int} (h:I64 z:=by unfold I64;omega):I64 z:=h
theorem half_finz:((List.range 7).all fun k=>decide (((384:Int)/2 ^ k)/2=384/2 ^ (k+1)) && decide (6≤(384:Int)/2 ^ k∧(384:Int)/2 ^ k≤384))=true:=by decide +kernel
theorem half_atz {k:Nat} (h:k<7):((384:Int)/2 ^ k)/2=384/2 ^ (k+1)∧6≤(384:Int)/2 ^ k∧(384:Int)/2 ^ k≤384:=by
 have h1:=List.all_eq_true.1 half_finz k (List.mem_range.2 h)
 simp only [Bool.and_eq_true,decide_eq_true_eq]at h1
 exact h1
theorem rTicks_FS (v:Int) (d t:Bool):Ctr Tryz.prog 80 [.ag [.sc (.int .i64 v),.sc (.bool d),.sc (.bool t)]] (.sc (.int .i64 (tkV v d t))):=by
 have hR:=rRight2_FS v d t
 by_cases hok:sgOk v d t=true
 rotate_left
 ·have hok:sgOk v d t=false:=by simpa using hok
  have hz:tkV v d t=0:=by
   refine if_pos ?_
   by_cases h1:v < 1
   ·exact .inl h1
   ·by_cases h2:7 < v
    ·exact .inr (.inl h2)
    ·refine .inr (.inr ?_)
     cases hdt:(d && t) with
     | true=>rfl
     | false =>
      exfalso
      unfold sgOk at hok
      rw [hdt,decide_eq_true (show 1≤v by omega),decide_eq_true (show v≤7 by omega)] at hok
      simp at hok
  rw [hok] at hR
  rw [hz]
  refine zqe Tryz.func80 Tryz.ntmps80 fun w0 F0=>?_;dsimp only [St.init,number,Nat.reduceAdd]
  repeat (first|refine W.gob rfl ?_|refine WL.nil ?_|refine WL.bt rfl rfl rfl zqo ?_|refine WL.bf rfl rfl rfl zqo ?_|refine WL.e1 rfl ?_|refine WL.gyes rfl rfl rfl rfl ?_|refine WL.opno rfl rfl rfl rfl rfl rfl rfl ?_|refine WL.ar rfl rfl z61i ?_|refine WL.div rfl rfl zqo ?_|refine W.condT rfl ?_|refine W.condF rfl ?_)
  (first|refine (?_:W _ _ _ _ _)|refine (?_:WL _ _ _ _ _ _)|skip)
  try dsimp only [St.put,Nat.reduceAdd]
  refine WL.vl rfl (zqc Tryz.func116 hR) ?_
  repeat (first|refine W.gob rfl ?_|refine WL.nil ?_|refine WL.bt rfl rfl rfl zqo ?_|refine WL.bf rfl rfl rfl zqo ?_|refine WL.e1 rfl ?_|refine WL.gyes rfl rfl rfl rfl ?_|refine WL.opno rfl rfl rfl rfl rfl rfl rfl ?_|refine WL.ar rfl rfl z61i ?_|refine WL.div rfl rfl zqo ?_|refine W.condT rfl ?_|refine W.condF rfl ?_)
  (first|refine (?_:W _ _ _ _ _)|refine (?_:WL _ _ _ _ _ _)|skip)
  try dsimp only [St.put,Nat.reduceAdd]
  exact W.ret zqr
 rw [hok] at hR
 by_cases hv:v=0
 ·have hz:tkV v d t=0:=if_pos (.inl zqo)
  rw [hz]
  refine zqe Tryz.func80 Tryz.ntmps80 fun w0 F0=>?_;dsimp only [St.init,number,Nat.reduceAdd]
  repeat (first|refine W.gob rfl ?_|refine WL.nil ?_|refine WL.bt rfl rfl rfl zqo ?_|refine WL.bf rfl rfl rfl zqo ?_|refine WL.e1 rfl ?_|refine WL.gyes rfl rfl rfl rfl ?_|refine WL.opno rfl rfl rfl rfl rfl rfl rfl ?_|refine WL.ar rfl rfl z61i ?_|refine WL.div rfl rfl zqo ?_|refine W.condT rfl ?_|refine W.condF rfl ?_)
  (first|refine (?_:W _ _ _ _ _)|refine (?_:WL _ _ _ _ _ _)|skip)
  try dsimp only [St.put,Nat.reduceAdd]
  refine WL.vl rfl (zqc Tryz.func116 hR) ?_
  repeat (first|refine W.gob rfl ?_|refine WL.nil ?_|refine WL.bt rfl rfl rfl zqo ?_|refine WL.bf rfl rfl rfl zqo ?_|refine WL.e1 rfl ?_|refine WL.gyes rfl rfl rfl rfl ?_|refine WL.opno rfl rfl rfl rfl rfl rfl rfl ?_|refine WL.ar rfl rfl z61i ?_|refine WL.div rfl rfl zqo ?_|refine W.condT rfl ?_|refine W.condF rfl ?_)
  (first|refine (?_:W _ _ _ _ _)|refine (?_:WL _ _ _ _ _ _)|skip)
  try dsimp only [St.put,Nat.reduceAdd]
  exact W.ret zqr
 have hv7:1≤v∧v≤7∧(d && t)=false:=by
  unfold sgOk at hok
  simp only [Bool.or_eq_true,Bool.and_eq_true,beq_iff_eq,decide_eq_true_eq,Bool.not_eq_true'] at hok
  rcases hok with h|h
  ·exact absurd h.1.1 hv
  ·exact ⟨h.1.1,h.1.2,h.2⟩
 obtain ⟨hv1,hv2,hdt⟩:=hv7
 have htk:tkV v d t=if d then 384/2 ^ (v - 1).toNat/2*3 else if t then 384/2 ^ (v - 1).toNat/3*2 else 384/2 ^ (v - 1).toNat:=by
  refine if_neg ?_
  rw [hdt]
  rintro (h|h|h)
  ·omega
  ·omega
  ·cases h
 rw [htk]
 refine zqe Tryz.func80 Tryz.ntmps80 fun w0 F0=>?_;dsimp only [St.init,number,Nat.reduceAdd]
 repeat (first|refine W.gob rfl ?_|refine WL.nil ?_|refine WL.bt rfl rfl rfl zqo ?_|refine WL.bf rfl rfl rfl zqo ?_|refine WL.e1 rfl ?_|refine WL.gyes rfl rfl rfl rfl ?_|refine WL.opno rfl rfl rfl rfl rfl rfl rfl ?_|refine WL.ar rfl rfl z61i ?_|refine WL.div rfl rfl zqo ?_|refine W.condT rfl ?_|refine W.condF rfl ?_)
 (first|refine (?_:W _ _ _ _ _)|refine (?_:WL _ _ _ _ _ _)|skip)
 try dsimp only [St.put,Nat.reduceAdd]
 refine WL.vl rfl (zqc Tryz.func116 hR) ?_
 repeat (first|refine W.gob rfl ?_|refine WL.nil ?_|refine WL.bt rfl rfl rfl zqo ?_|refine WL.bf rfl rfl rfl zqo ?_|refine WL.e1 rfl ?_|refine WL.gyes rfl rfl rfl rfl ?_|refine WL.opno rfl rfl rfl rfl rfl rfl rfl ?_|refine WL.ar rfl rfl z61i ?_|refine WL.div rfl rfl zqo ?_|refine W.condT rfl ?_|refine W.condF rfl ?_)
 (first|refine (?_:W _ _ _ _ _)|refine (?_:WL _ _ _ _ _ _)|skip)
 try dsimp only [St.put,Nat.reduceAdd]
 refine W.loop (fun k:Nat=>k≤(v - 1).toNat) (fun k=>⟨[(1,.pt 0 0 0),(3,.sc (.int .i64 (384/2 ^ k))),(4,.sc (.int .i64 ((k+1:Nat):Int)))],[(0,.box 42 [.sc (.int .i64 v),.sc (.bool d),.sc (.bool t)])],1⟩) (fun k=>(v - 1).toNat - k) 0 zqo (zqt id) fun k hk=>?_
 have h7:=half_atz (k:=k) zqo
 by_cases hlt:k < (v - 1).toNat
 ·obtain ⟨hh,hh1,hh2⟩:=h7
  obtain ⟨n,hn⟩:∃ n,(384:Int)/2 ^ k=n:=⟨_,rfl⟩
  rw [hn] at hh hh1 hh2 ⊢
  repeat (first|refine W.gob rfl ?_|refine WL.nil ?_|refine WL.bt rfl rfl rfl zqo ?_|refine WL.bf rfl rfl rfl zqo ?_|refine WL.e1 rfl ?_|refine WL.gyes rfl rfl rfl rfl ?_|refine WL.opno rfl rfl rfl rfl rfl rfl rfl ?_|refine WL.ar rfl rfl z61i ?_|refine WL.div rfl rfl zqo ?_|refine W.condT rfl ?_|refine W.condF rfl ?_)
  (first|refine (?_:W _ _ _ _ _)|refine (?_:WL _ _ _ _ _ _)|skip)
  try dsimp only [St.put,Nat.reduceAdd]
  refine ⟨k+1,by omega,by omega,?_⟩
  rw [← hh]
  exact (zqt id)
 obtain rfl:k=(v - 1).toNat:=by omega
 obtain ⟨_,hh1,hh2⟩:=h7
 obtain ⟨n,hn⟩:∃ n,(384:Int)/2 ^ (v - 1).toNat=n:=⟨_,rfl⟩
 rw [hn] at hh1 hh2 ⊢
 repeat (first|refine W.gob rfl ?_|refine WL.nil ?_|refine WL.bt rfl rfl rfl zqo ?_|refine WL.bf rfl rfl rfl zqo ?_|refine WL.e1 rfl ?_|refine WL.gyes rfl rfl rfl rfl ?_|refine WL.opno rfl rfl rfl rfl rfl rfl rfl ?_|refine WL.ar rfl rfl z61i ?_|refine WL.div rfl rfl zqo ?_|refine W.condT rfl ?_|refine W.condF rfl ?_)
 (first|refine (?_:W _ _ _ _ _)|refine (?_:WL _ _ _ _ _ _)|skip)
 try dsimp only [St.put,Nat.reduceAdd]
 (refine W.cond rfl (fun hif=>?_) (fun hif=>?_)<;>(try simp only [decide_eq_true_eq,decide_eq_false_iff_not,Int.not_lt,Int.not_le,Bool.not_eq_true',Bool.not_eq_false'] at hif))
 ·rw [hif,if_pos rfl]
  repeat (first|refine W.gob rfl ?_|refine WL.nil ?_|refine WL.bt rfl rfl rfl zqo ?_|refine WL.bf rfl rfl rfl zqo ?_|refine WL.e1 rfl ?_|refine WL.gyes rfl rfl rfl rfl ?_|refine WL.opno rfl rfl rfl rfl rfl rfl rfl ?_|refine WL.ar rfl rfl z61i ?_|refine WL.div rfl rfl zqo ?_|refine W.condT rfl ?_|refine W.condF rfl ?_)
  (first|refine (?_:W _ _ _ _ _)|refine (?_:WL _ _ _ _ _ _)|skip)
  try dsimp only [St.put,Nat.reduceAdd]
  exact W.ret zqr
 rw [hif,if_neg (by decide)]
 repeat (first|refine W.gob rfl ?_|refine WL.nil ?_|refine WL.bt rfl rfl rfl zqo ?_|refine WL.bf rfl rfl rfl zqo ?_|refine WL.e1 rfl ?_|refine WL.gyes rfl rfl rfl rfl ?_|refine WL.opno rfl rfl rfl rfl rfl rfl rfl ?_|refine WL.ar rfl rfl z61i ?_|refine WL.div rfl rfl zqo ?_|refine W.condT rfl ?_|refine W.condF rfl ?_)
 (first|refine (?_:W _ _ _ _ _)|refine (?_:WL _ _ _ _ _ _)|skip)
 try dsimp only [St.put,Nat.reduceAdd]
 (refine W.cond rfl (fun hif=>?_) (fun hif=>?_)<;>(try simp only [decide_eq_true_eq,decide_eq_false_iff_not,Int.not_lt,Int.not_le,Bool.not_eq_true',Bool.not_eq_false'] at hif))
 ·rw [hif,if_pos rfl]
  repeat (first|refine W.gob rfl ?_|refine WL.nil ?_|refine WL.bt rfl rfl rfl zqo ?_|refine WL.bf rfl rfl rfl zqo ?_|refine WL.e1 rfl ?_|refine WL.gyes rfl rfl rfl rfl ?_|refine WL.opno rfl rfl rfl rfl rfl rfl rfl ?_|refine WL.ar rfl rfl z61i ?_|refine WL.div rfl rfl zqo ?_|refine W.condT rfl ?_|refine W.condF rfl ?_)
  (first|refine (?_:W _ _ _ _ _)|refine (?_:WL _ _ _ _ _ _)|skip)
  try dsimp only [St.put,Nat.reduceAdd]
  exact W.ret zqr
 rw [hif,if_neg (by decide)]
 repeat (first|refine W.gob rfl ?_|refine WL.nil ?_|refine WL.bt rfl rfl rfl zqo ?_|refine WL.bf rfl rfl rfl zqo ?_|refine WL.e1 rfl ?_|refine WL.gyes rfl rfl rfl rfl ?_|refine WL.opno rfl rfl rfl rfl rfl rfl rfl ?_|refine WL.ar rfl rfl z61i ?_|refine WL.div rfl rfl zqo ?_|refine W.condT rfl ?_|refine W.condF rfl ?_)
 (first|refine (?_:W _ _ _ _ _)|refine (?_:WL _ _ _ _ _ _)|skip)
 try dsimp only [St.put,Nat.reduceAdd]
 exact W.ret zqr
theorem onsL_getz {evs:List Ev} {n i:Nat} (h:i≤n)(h2:i<(onsL evs n).length):(onsL evs n)[i]=onsAt evs i:=by
 simp [onsL]
theorem rTimes_FS (p:Pce) (hO:PcOk p) (h0:pceE p=0):Ctr Tryz.prog 32 [ePce p] (.ls 1 ((onsL p.evs p.evs.length).map eInt)):=by
 have hn3:=hO.n3
 have hF:=rForces_FS p hO
 have hsl:=sgL_length p.evs p.evs.length
 refine zqe Tryz.func32 Tryz.ntmps32 fun w0 F0=>?_;dsimp only [St.init,number,Nat.reduceAdd]
 repeat (first|refine W.go rfl ?_|refine WL.nil ?_|refine WL.ev rfl ?_|refine WL.ar rfl rfl z61i ?_|refine WL.len rfl rfl zql ?_|refine WL.app rfl rfl rfl zqs ?_|refine W.condT rfl ?_|refine W.condF rfl ?_)
 (first|refine (?_:W _ _ _ _ _)|refine (?_:WL _ _ _ _ _ _)|skip)
 try dsimp only [St.put,Nat.reduceAdd]
 refine WL.vl rfl (zqc Tryz.func79 hF) ?_
 repeat (first|refine W.go rfl ?_|refine WL.nil ?_|refine WL.ev rfl ?_|refine WL.ar rfl rfl z61i ?_|refine WL.len rfl rfl zql ?_|refine WL.app rfl rfl rfl zqs ?_|refine W.condT rfl ?_|refine W.condF rfl ?_)
 (first|refine (?_:W _ _ _ _ _)|refine (?_:WL _ _ _ _ _ _)|skip)
 try dsimp only [St.put,Nat.reduceAdd]
 refine W.loop (fun k:Nat=>k≤p.evs.length) (fun k=>⟨[(3,.sl 1),(4,.ls 3 ((sgL p.evs p.evs.length).map eSig)),(5,.sc (.int .i64 k))],[(1,.row 3 1 ((onsL p.evs k).map eInt))],2⟩) (fun k=>p.evs.length - k) 0 zqo (zqu (fun q=>q) (by repeat (first|exact trivial|refine ⟨⟨?_,?_,?_⟩,?_⟩|rfl|exact congrArg (fun q=>some (AO.row _ _ q)) rfl)) rfl) fun k hk=>?_
 have hol:=onsL_length p.evs k
 by_cases hlt:k < p.evs.length
 rotate_left
 ·obtain rfl:k=p.evs.length:=by omega
  repeat (first|refine W.gob rfl ?_|refine WL.nil ?_|refine WL.bt rfl rfl rfl zqo ?_|refine WL.bf rfl rfl rfl zqo ?_|refine WL.e1 rfl ?_|refine WL.ar rfl rfl z61i ?_|refine WL.len rfl rfl zql ?_|refine WL.app rfl rfl rfl zqs ?_|refine W.condT rfl ?_|refine W.condF rfl ?_)
  (first|refine (?_:W _ _ _ _ _)|refine (?_:WL _ _ _ _ _ _)|skip)
  try dsimp only [St.put,Nat.reduceAdd]
  refine W.tr (Tr.freeze 1 rfl) ?_
  exact W.ret zqr
 have hat:((onsL p.evs k).map eInt)[((k:Nat):Int).toNat]?=some (eInt (onsAt p.evs k)):=by
  rw [Int.toNat_natCast,List.getElem?_map,List.getElem?_eq_getElem (by omega)]
  rw [onsL_getz (by omega) _];rfl
 have hg:(sgL p.evs p.evs.length)[k]'(by omega)=sgF p.evs (k+1):=by simp [sgL]
 have htk:=sgF_tkz h0 (k+1) zqo
 have hT:=rTicks_FS (sgF p.evs (k+1)).1 (sgF p.evs (k+1)).2.1 (sgF p.evs (k+1)).2.2
 rw [htk] at hT
 have hb1:=onsAt_le p.evs k
 have hb2:=frc_le 0 (p.evs.take (k+1)) ⟨by decide,by decide⟩
 have hon:onsAt p.evs (k+1)=onsAt p.evs k+frc 0 (p.evs.take (k+1)):=rfl
 have hls:=onsL_succ p.evs k
 rw [hon] at hls
 repeat (first|refine W.gob rfl ?_|refine WL.nil ?_|refine WL.bt rfl rfl rfl zqo ?_|refine WL.bf rfl rfl rfl zqo ?_|refine WL.e1 rfl ?_|refine WL.ar rfl rfl z61i ?_|refine WL.len rfl rfl zql ?_|refine WL.app rfl rfl rfl zqs ?_|refine W.condT rfl ?_|refine W.condF rfl ?_)
 (first|refine (?_:W _ _ _ _ _)|refine (?_:WL _ _ _ _ _ _)|skip)
 try dsimp only [St.put,Nat.reduceAdd]
 refine W.dmT 12 [1] zqk zqk zqk zqk zqk (by repeat constructor) ?_
 repeat (first|refine DMK.st rfl rfl ?_|refine DMK.ar rfl rfl z61i ?_|refine DMK.idx rfl rfl zqo zqm ?_|refine DMK.bd rfl rfl rfl (by repeat constructor) ?_|refine DMK.nil ?_)
 refine DMK.ixs rfl rfl ⟨by omega,by rw [List.length_map];omega⟩ ?_
 repeat (first|refine DMK.st rfl rfl ?_|refine DMK.ar rfl rfl z61i ?_|refine DMK.idx rfl rfl zqo zqm ?_|refine DMK.bd rfl rfl rfl (by repeat constructor) ?_|refine DMK.nil ?_)
 refine DMK.ldr rfl rfl hat rfl rfl ?_
 repeat (first|refine DMK.st rfl rfl ?_|refine DMK.ar rfl rfl z61i ?_|refine DMK.idx rfl rfl zqo zqm ?_|refine DMK.bd rfl rfl rfl (by repeat constructor) ?_|refine DMK.nil ?_)
 rw [hg]
 refine DMK.vl rfl (zqc Tryz.func80 hT) ?_
 repeat (first|refine DMK.st rfl rfl ?_|refine DMK.ar rfl rfl z61i ?_|refine DMK.idx rfl rfl zqo zqm ?_|refine DMK.bd rfl rfl rfl (by repeat constructor) ?_|refine DMK.nil ?_)
 refine ⟨rfl,?_⟩
 repeat (first|refine W.go rfl ?_|refine WL.nil ?_|refine WL.ev rfl ?_|refine WL.ar rfl rfl z61i ?_|refine WL.len rfl rfl zql ?_|refine WL.app rfl rfl rfl zqs ?_|refine W.condT rfl ?_|refine W.condF rfl ?_)
 (first|refine (?_:W _ _ _ _ _)|refine (?_:WL _ _ _ _ _ _)|skip)
 try dsimp only [St.put,Nat.reduceAdd]
 refine ⟨k+1,by omega,by omega,?_⟩
 rw [hls]
 exact (zqu (fun q=>bif Nat.beq q 1 then 3 else q) (by repeat (first|exact trivial|refine ⟨⟨?_,?_,?_⟩,?_⟩|rfl|exact congrArg (fun q=>some (AO.row _ _ q)) (by rw [List.map_append];rfl))) rfl)
end Go.Proofs.YtaeelcfjkhfpkaaGreat
