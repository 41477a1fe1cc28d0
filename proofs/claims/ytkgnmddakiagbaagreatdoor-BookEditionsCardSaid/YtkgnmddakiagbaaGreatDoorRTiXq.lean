/- The reference's times: Ticks, Forces, Times, Onsets, Measures, Starts. -/
import Derived.Test.YtkgnmddakiagbaaGreatDoorLinXq
import Derived.Test.YtkgnmddakiagbaaGreatDoorMcPXq
set_option linter.unusedVariables false
set_option linter.unusedSimpArgs false
namespace Go.Proofs.YtkgnmddakiagbaaGreatDoor
open Go.RowKit
set_option maxHeartbeats 8000000
set_option maxRecDepth 100000
theorem half_fin:((List.range 7).all fun k=>decide (((384:Int)/2 ^ k)/2=384/2 ^ (k+1)) && decide (6≤(384:Int)/2 ^ k∧(384:Int)/2 ^ k≤384))=true:=by decide +kernel
theorem half_at {k:Nat} (h:k<7):((384:Int)/2 ^ k)/2=384/2 ^ (k+1)∧6≤(384:Int)/2 ^ k∧(384:Int)/2 ^ k≤384:=by
 have h1:=List.all_eq_true.1 half_fin k (List.mem_range.2 h)
 simp only [Bool.and_eq_true,decide_eq_true_eq]at h1
 exact h1
theorem rTicks_FS (v:Int) (d t:Bool):Ctr Tryz.prog 148 [.ag [.sc (.int .i64 v),.sc (.bool d),.sc (.bool t)]] (.sc (.int .i64 (tkV v d t))):=by
 have hR:=rRight2_FS v d t
 by_cases hok:sgOk v d t=true
 rotate_left
 ·have hok:sgOk v d t=false:=by simpa using hok
  have hz:tkV v d t=0:=by
   refine if_pos ?_
   by_cases h1:v < 1
   ·exact .inl h1
   ·by_cases h2:7 < v
    ·exact .inr (.inl h2)
    ·refine .inr (.inr ?_)
     cases hdt:(d && t) with
     | true=>rfl
     | false =>
      exfalso
      unfold sgOk at hok
      rw [hdt,decide_eq_true (show 1≤v by omega),decide_eq_true (show v≤7 by omega)] at hok
      simp at hok
  rw [hok] at hR
  rw [hz]
  refine Ctr.intro Tryz.func148 rfl Tryz.ntmps148 (Nat.le_of_ble_eq_true rfl) (bd_all rfl) fun w0 F0=>?_;dsimp only [St.init,number,Nat.reduceAdd]
  repeat (first|refine W.gob rfl ?_|refine WL.nil ?_|refine WL.e1 rfl ?_)
  refine (?_:WL _ _ _ _ _ _)
  dsimp only [St.put,Nat.reduceAdd]
  refine WL.vl rfl (WV.call rfl (callF Tryz.func153 rfl rfl) rfl rfl hR) ?_
  repeat (first|refine W.gob rfl ?_|refine WL.nil ?_|refine WL.e1 rfl ?_|refine WL.opno rfl rfl rfl rfl rfl rfl rfl ?_|refine W.condT rfl ?_)
  refine (?_:W _ _ _ _ _)
  dsimp only [St.put,Nat.reduceAdd]
  exact W.ret (fin1 rfl rfl rfl rfl)
 rw [hok] at hR
 by_cases hv:v=0
 ·have hz:tkV v d t=0:=if_pos (.inl (by omega))
  rw [hz]
  refine Ctr.intro Tryz.func148 rfl Tryz.ntmps148 (Nat.le_of_ble_eq_true rfl) (bd_all rfl) fun w0 F0=>?_;dsimp only [St.init,number,Nat.reduceAdd]
  repeat (first|refine W.gob rfl ?_|refine WL.nil ?_|refine WL.e1 rfl ?_)
  refine (?_:WL _ _ _ _ _ _)
  dsimp only [St.put,Nat.reduceAdd]
  refine WL.vl rfl (WV.call rfl (callF Tryz.func153 rfl rfl) rfl rfl hR) ?_
  repeat (first|refine W.gob rfl ?_|refine WL.nil ?_|refine WL.bt rfl rfl rfl (by omega) ?_|refine WL.e1 rfl ?_|refine WL.gyes rfl rfl rfl rfl ?_|refine W.condT rfl ?_)
  refine (?_:W _ _ _ _ _)
  dsimp only [St.put,Nat.reduceAdd]
  exact W.ret (fin1 rfl rfl rfl rfl)
 have hv7:1≤v∧v≤7∧(d && t)=false:=by
  unfold sgOk at hok
  simp only [Bool.or_eq_true,Bool.and_eq_true,beq_iff_eq,decide_eq_true_eq,Bool.not_eq_true'] at hok
  rcases hok with h|h
  ·exact absurd h.1.1 hv
  ·exact ⟨h.1.1,h.1.2,h.2⟩
 obtain ⟨hv1,hv2,hdt⟩:=hv7
 have htk:tkV v d t=if d then 384/2 ^ (v - 1).toNat/2*3 else if t then 384/2 ^ (v - 1).toNat/3*2 else 384/2 ^ (v - 1).toNat:=by
  refine if_neg ?_
  rw [hdt]
  rintro (h|h|h)
  ·omega
  ·omega
  ·cases h
 rw [htk]
 refine Ctr.intro Tryz.func148 rfl Tryz.ntmps148 (Nat.le_of_ble_eq_true rfl) (bd_all rfl) fun w0 F0=>?_;dsimp only [St.init,number,Nat.reduceAdd]
 repeat (first|refine W.gob rfl ?_|refine WL.nil ?_|refine WL.e1 rfl ?_)
 refine (?_:WL _ _ _ _ _ _)
 dsimp only [St.put,Nat.reduceAdd]
 refine WL.vl rfl (WV.call rfl (callF Tryz.func153 rfl rfl) rfl rfl hR) ?_
 repeat (first|refine W.gob rfl ?_|refine WL.nil ?_|refine WL.bf rfl rfl rfl (by omega) ?_|refine WL.e1 rfl ?_|refine WL.gyes rfl rfl rfl rfl ?_|refine W.condF rfl ?_)
 refine (?_:W _ _ _ _ _)
 dsimp only [St.put,Nat.reduceAdd]
 refine W.loop (fun k:Nat=>k≤(v - 1).toNat) (fun k=>⟨[(1,.pt 0 0 0),(3,.sc (.int .i64 (384/2 ^ k))),(4,.sc (.int .i64 ((k+1:Nat):Int)))],[(0,.box 75 [.sc (.int .i64 v),.sc (.bool d),.sc (.bool t)])],1⟩) (fun k=>(v - 1).toNat - k) 0 (by omega) (Tr.ren id (by repeat (first|exact trivial|refine ⟨⟨?_,?_⟩,?_⟩|rfl)) (by repeat (first|exact trivial|refine ⟨⟨?_,?_,?_⟩,?_⟩|rfl)) rfl) fun k hk=>?_
 have h7:=half_at (k:=k) (by omega)
 by_cases hlt:k < (v - 1).toNat
 ·obtain ⟨hh,hh1,hh2⟩:=h7
  obtain ⟨n,hn⟩:∃ n,(384:Int)/2 ^ k=n:=⟨_,rfl⟩
  rw [hn] at hh hh1 hh2 ⊢
  repeat (first|refine W.gob rfl ?_|refine WL.nil ?_|refine WL.bt rfl rfl rfl (by omega) ?_|refine WL.e1 rfl ?_|refine WL.ar rfl rfl (by unfold I64;omega) ?_|refine WL.div rfl rfl (by omega) ?_|refine W.condT rfl ?_)
  dsimp only [St.put,Nat.reduceAdd]
  refine ⟨k+1,by omega,by omega,?_⟩
  rw [← hh]
  exact (Tr.ren id (by repeat (first|exact trivial|refine ⟨⟨?_,?_⟩,?_⟩|rfl)) (by repeat (first|exact trivial|refine ⟨⟨?_,?_,?_⟩,?_⟩|rfl)) rfl)
 obtain rfl:k=(v - 1).toNat:=by omega
 obtain ⟨_,hh1,hh2⟩:=h7
 obtain ⟨n,hn⟩:∃ n,(384:Int)/2 ^ (v - 1).toNat=n:=⟨_,rfl⟩
 rw [hn] at hh1 hh2 ⊢
 repeat (first|refine W.gob rfl ?_|refine WL.nil ?_|refine WL.bf rfl rfl rfl (by omega) ?_|refine WL.e1 rfl ?_|refine W.condF rfl ?_)
 refine (?_:W _ _ _ _ _)
 dsimp only [St.put,Nat.reduceAdd]
 (refine W.cond rfl (fun hif=>?_) (fun hif=>?_)<;>(try simp only [decide_eq_true_eq,decide_eq_false_iff_not,Int.not_lt,Int.not_le,Bool.not_eq_true',Bool.not_eq_false'] at hif))
 ·rw [hif,if_pos rfl]
  repeat (first|refine W.gob rfl ?_|refine WL.nil ?_|refine WL.e1 rfl ?_|refine WL.ar rfl rfl (by unfold I64;omega) ?_|refine WL.div rfl rfl (by omega) ?_)
  refine (?_:W _ _ _ _ _)
  dsimp only [St.put,Nat.reduceAdd]
  exact W.ret (fin1 rfl rfl rfl rfl)
 rw [hif,if_neg (by decide)]
 repeat (first|refine W.gob rfl ?_|refine WL.nil ?_|refine WL.e1 rfl ?_)
 refine (?_:W _ _ _ _ _)
 dsimp only [St.put,Nat.reduceAdd]
 (refine W.cond rfl (fun hif=>?_) (fun hif=>?_)<;>(try simp only [decide_eq_true_eq,decide_eq_false_iff_not,Int.not_lt,Int.not_le,Bool.not_eq_true',Bool.not_eq_false'] at hif))
 ·rw [hif,if_pos rfl]
  repeat (first|refine W.gob rfl ?_|refine WL.nil ?_|refine WL.e1 rfl ?_|refine WL.ar rfl rfl (by unfold I64;omega) ?_|refine WL.div rfl rfl (by omega) ?_)
  refine (?_:W _ _ _ _ _)
  dsimp only [St.put,Nat.reduceAdd]
  exact W.ret (fin1 rfl rfl rfl rfl)
 rw [hif,if_neg (by decide)]
 repeat (first|refine W.gob rfl ?_|refine WL.nil ?_|refine WL.e1 rfl ?_)
 refine (?_:W _ _ _ _ _)
 dsimp only [St.put,Nat.reduceAdd]
 exact W.ret (fin1 rfl rfl rfl rfl)
def sgF(evs:List Ev):Nat→Int×Bool×Bool
 | 0=>(0,false,false)
 | k+1=>match evs[k]? with
  | some e=>if e.val=0 then sgF evs k else(e.val,e.dot,e.three)
  | none=>sgF evs k
def eSig (x:Int×Bool×Bool):List AV:=[.sc (.int .i64 x.1),.sc (.bool x.2.1),.sc (.bool x.2.2)]
def sgL (evs:List Ev)(k:Nat):List (Int×Bool×Bool):=(List.range k).map fun i=>sgF evs (i+1)
theorem sgL_succ (evs:List Ev)(k:Nat):sgL evs (k+1)=sgL evs k++[sgF evs (k+1)]:=by simp [sgL,List.range_succ]
theorem sgL_length(evs:List Ev)(k:Nat):(sgL evs k).length=k:=by simp [sgL]
theorem sgF_tk {p:Pce} (h0:pceE p=0):∀ k,k≤p.evs.length→tkV (sgF p.evs k).1 (sgF p.evs k).2.1 (sgF p.evs k).2.2=frc 0 (p.evs.take k)
 | 0,_=>by simp [sgF,frc,tkV]
 | k+1,h=>by
  have hk:k<p.evs.length:=by omega
  have ih:=sgF_tk h0 k (by omega)
  have hok:=(evOk_of h0 hk).sg
  have e1:sgF p.evs (k+1)=if p.evs[k].val=0 then sgF p.evs k else (p.evs[k].val,p.evs[k].dot,p.evs[k].three):=by
   show (match p.evs[k]? with|some e=>_|none=>_)=_
   rw [List.getElem?_eq_getElem hk]
  rw [frc_take hk,e1]
  by_cases hv:p.evs[k].val=0
  ·have hz:tkV p.evs[k].val p.evs[k].dot p.evs[k].three=0:=if_pos (.inl (by omega))
   rw [if_pos hv,hz,if_neg (by omega)]
   exact ih
  ·rw [if_neg hv]
   have hpos:0<tkV p.evs[k].val p.evs[k].dot p.evs[k].three:=by
    unfold sgOk at hok
    simp only [Bool.or_eq_true,Bool.and_eq_true,beq_iff_eq,decide_eq_true_eq,Bool.not_eq_true']at hok
    rcases hok with h|h
    ·exact absurd h.1.1 hv
    ·exact tkV_pos _ _ _ h.1 h.2
   rw [if_pos hpos]
theorem rForces_FS (p:Pce) (hO:PcOk p):Ctr Tryz.prog 147 [ePce p] (.ls 3 ((sgL p.evs p.evs.length).map eSig)):=by
 have hn3:=hO.n3
 refine Ctr.intro Tryz.func147 rfl Tryz.ntmps147 (Nat.le_of_ble_eq_true rfl) (bd_all rfl) fun w0 F0=>?_;dsimp only [St.init,number,Nat.reduceAdd]
 repeat refine W.go rfl ?_
 refine (?_:W _ _ _ _ _)
 dsimp only [St.put,Nat.reduceAdd]
 refine W.tr (Tr.nil (t:=3) 75 3 rfl rfl) ?_
 dsimp only [St.put,St.new,St.upd,Nat.reduceAdd]
 refine W.loop (fun k:Nat=>k≤p.evs.length) (fun k=>⟨[(1,.pt 0 0 0),(3,.sl 2),(4,.pt 1 0 0),(5,.sc (.int .i64 k))],[(0,.box 29 (ePce p).cells),(1,.box 75 (eSig (sgF p.evs k))),(2,.row 75 3 ((sgL p.evs k).map eSig))],3⟩) (fun k=>p.evs.length - k) 0 (by omega) (Tr.ren (fun q=>q) (by repeat (first|exact trivial|refine ⟨⟨?_,?_⟩,?_⟩|rfl)) (by repeat (first|exact trivial|refine ⟨⟨?_,?_,?_⟩,?_⟩|rfl|exact congrArg (fun q=>some (AO.row _ _ q)) (by first|rfl|(simp;done)|(simp [eInt];done)|(simp [eLk];done)))) rfl) fun k hk=>?_
 have hsl:=sgL_length p.evs k
 by_cases hlt:k < p.evs.length
 rotate_left
 ·obtain rfl:k=p.evs.length:=by omega
  repeat (first|refine W.gob rfl ?_|refine WL.nil ?_|refine WL.bf rfl rfl rfl (by omega) ?_|refine WL.e1 rfl ?_|refine WL.len rfl rfl (by first|exact List.length_map _|exact List.length_replicate|rfl) ?_|refine W.condF rfl ?_)
  refine (?_:W _ _ _ _ _)
  dsimp only [St.put,Nat.reduceAdd]
  refine W.tr (Tr.freeze 2 rfl) ?_
  exact W.ret (fin1 rfl rfl rfl rfl)
 have e1:sgF p.evs (k+1)=if p.evs[k].val=0 then sgF p.evs k else (p.evs[k].val,p.evs[k].dot,p.evs[k].three):=by
  show (match p.evs[k]? with|some e=>_|none=>_)=_
  rw [List.getElem?_eq_getElem hlt]
 have e2:=sgL_succ p.evs k
 by_cases hv:p.evs[k].val=0
 ·rw [if_pos hv] at e1
  rw [e1] at e2
  repeat (first|refine W.gob rfl ?_|refine WL.nil ?_|refine WL.bt rfl rfl rfl (by omega) ?_|refine WL.nf rfl rfl rfl (by omega) ?_|refine WL.e1 rfl ?_|refine WL.ar rfl rfl (by unfold I64;omega) ?_|refine WL.len rfl rfl (by first|exact List.length_map _|exact List.length_replicate|rfl) ?_|refine WL.idx rfl rfl (by omega) (by first|exact map_at (by omega)|exact map_atZ (by omega) (by omega)) ?_|refine WL.app rfl rfl rfl (by first|omega|(simp;done)|(simp;omega)) ?_|refine W.condT rfl ?_|refine W.condF rfl ?_)
  dsimp only [St.put,Nat.reduceAdd]
  refine ⟨k+1,by omega,by omega,?_⟩
  rw [e2,e1]
  exact (Tr.ren (fun q=>bif Nat.beq q 2 then 4 else q) (by repeat (first|exact trivial|refine ⟨⟨?_,?_⟩,?_⟩|rfl)) (by repeat (first|exact trivial|refine ⟨⟨?_,?_,?_⟩,?_⟩|rfl|exact congrArg (fun q=>some (AO.row _ _ q)) (by rw [List.map_append];rfl))) rfl)
 ·rw [if_neg hv] at e1
  rw [e1] at e2
  repeat (first|refine W.gob rfl ?_|refine WL.nil ?_|refine WL.bt rfl rfl rfl (by omega) ?_|refine WL.nt rfl rfl rfl (by omega) ?_|refine WL.e1 rfl ?_|refine WL.ar rfl rfl (by unfold I64;omega) ?_|refine WL.len rfl rfl (by first|exact List.length_map _|exact List.length_replicate|rfl) ?_|refine WL.idx rfl rfl (by omega) (by first|exact map_at (by omega)|exact map_atZ (by omega) (by omega)) ?_|refine WL.app rfl rfl rfl (by first|omega|(simp;done)|(simp;omega)) ?_|refine W.condT rfl ?_)
  dsimp only [St.put,Nat.reduceAdd]
  refine ⟨k+1,by omega,by omega,?_⟩
  rw [e2,e1]
  exact (Tr.ren (fun q=>bif Nat.beq q 2 then 4 else q) (by repeat (first|exact trivial|refine ⟨⟨?_,?_⟩,?_⟩|rfl)) (by repeat (first|exact trivial|refine ⟨⟨?_,?_,?_⟩,?_⟩|rfl|exact congrArg (fun q=>some (AO.row _ _ q)) (by rw [List.map_append];rfl))) rfl)
theorem rTimes_FS (p:Pce) (hO:PcOk p) (h0:pceE p=0):Ctr Tryz.prog 79 [ePce p] (.ls 1 ((onsL p.evs p.evs.length).map eInt)):=by
 have hn3:=hO.n3
 have hF:=rForces_FS p hO
 have hsl:=sgL_length p.evs p.evs.length
 refine Ctr.intro Tryz.func79 rfl Tryz.ntmps79 (Nat.le_of_ble_eq_true rfl) (bd_all rfl) fun w0 F0=>?_;dsimp only [St.init,number,Nat.reduceAdd]
 repeat refine W.go rfl ?_
 refine (?_:WL _ _ _ _ _ _)
 dsimp only [St.put,Nat.reduceAdd]
 refine WL.vl rfl (WV.call rfl (callF Tryz.func147 rfl rfl) rfl rfl hF) ?_
 repeat (first|refine W.go rfl ?_|refine WL.ev rfl ?_)
 refine (?_:W _ _ _ _ _)
 dsimp only [St.put,Nat.reduceAdd]
 refine W.loop (fun k:Nat=>k≤p.evs.length) (fun k=>⟨[(3,.sl 1),(4,.ls 3 ((sgL p.evs p.evs.length).map eSig)),(5,.sc (.int .i64 k))],[(1,.row 3 1 ((onsL p.evs k).map eInt))],2⟩) (fun k=>p.evs.length - k) 0 (by omega) (Tr.ren (fun q=>q) (by repeat (first|exact trivial|refine ⟨⟨?_,?_⟩,?_⟩|rfl)) (by repeat (first|exact trivial|refine ⟨⟨?_,?_,?_⟩,?_⟩|rfl|exact congrArg (fun q=>some (AO.row _ _ q)) rfl)) rfl) fun k hk=>?_
 have hol:=onsL_length p.evs k
 by_cases hlt:k < p.evs.length
 rotate_left
 ·obtain rfl:k=p.evs.length:=by omega
  repeat (first|refine W.gob rfl ?_|refine WL.nil ?_|refine WL.bf rfl rfl rfl (by omega) ?_|refine WL.e1 rfl ?_|refine WL.len rfl rfl (by first|exact List.length_map _|exact List.length_replicate|rfl) ?_|refine W.condF rfl ?_)
  refine (?_:W _ _ _ _ _)
  dsimp only [St.put,Nat.reduceAdd]
  refine W.tr (Tr.freeze 1 rfl) ?_
  exact W.ret (fin1 rfl rfl rfl rfl)
 have hat:((onsL p.evs k).map eInt)[((k:Nat):Int).toNat]?=some (eInt (onsAt p.evs k)):=by
  rw [Int.toNat_natCast,List.getElem?_map,List.getElem?_eq_getElem (by omega)]
  rw [onsL_get (by omega) _];rfl
 have hg:(sgL p.evs p.evs.length)[k]'(by omega)=sgF p.evs (k+1):=by simp [sgL]
 have htk:=sgF_tk h0 (k+1) (by omega)
 have hT:=rTicks_FS (sgF p.evs (k+1)).1 (sgF p.evs (k+1)).2.1 (sgF p.evs (k+1)).2.2
 rw [htk] at hT
 have hb1:=onsAt_le p.evs k
 have hb2:=frc_le 0 (p.evs.take (k+1)) ⟨by decide,by decide⟩
 have hon:onsAt p.evs (k+1)=onsAt p.evs k+frc 0 (p.evs.take (k+1)):=rfl
 have hls:=onsL_succ p.evs k
 rw [hon] at hls
 repeat (first|refine W.gob rfl ?_|refine WL.nil ?_|refine WL.bt rfl rfl rfl (by omega) ?_|refine WL.e1 rfl ?_|refine WL.len rfl rfl (by first|exact List.length_map _|exact List.length_replicate|rfl) ?_|refine W.condT rfl ?_)
 refine (?_:W _ _ _ _ _)
 dsimp only [St.put,Nat.reduceAdd]
 refine W.dmT 12 [1] (by kernel_rfl) (by kernel_rfl) (by kernel_rfl) (by kernel_rfl) (by kernel_rfl) (by repeat constructor) ?_
 repeat refine DMK.st rfl rfl ?_
 refine DMK.ixs rfl rfl ⟨by omega,by rw [List.length_map];omega⟩ ?_
 refine DMK.ldr rfl rfl hat rfl rfl ?_
 repeat (first|refine DMK.st rfl rfl ?_|refine DMK.idx rfl rfl (by omega) (by first|exact map_at (by omega)|exact map_atZ (by omega) (by omega)) ?_)
 rw [hg]
 refine DMK.vl rfl (WV.call rfl (callF Tryz.func148 rfl rfl) rfl rfl hT) ?_
 repeat (first|refine DMK.ar rfl rfl (by unfold I64;omega) ?_|refine DMK.bd rfl rfl rfl (by repeat constructor) ?_|refine DMK.nil ?_)
 refine ⟨rfl,?_⟩
 repeat (first|refine W.go rfl ?_|refine WL.ev rfl ?_|refine WL.ar rfl rfl (by unfold I64;omega) ?_|refine WL.app rfl rfl rfl (by first|omega|(simp;done)|(simp;omega)) ?_)
 dsimp only [St.put,Nat.reduceAdd]
 refine ⟨k+1,by omega,by omega,?_⟩
 rw [hls]
 exact (Tr.ren (fun q=>bif Nat.beq q 1 then 3 else q) (by repeat (first|exact trivial|refine ⟨⟨?_,?_⟩,?_⟩|rfl)) (by repeat (first|exact trivial|refine ⟨⟨?_,?_,?_⟩,?_⟩|rfl|exact congrArg (fun q=>some (AO.row _ _ q)) (by rw [List.map_append];rfl))) rfl)
theorem rOnsets_FS (p:Pce) (hO:PcOk p):Ctr Tryz.prog 138 [ePce p] (.tu [.ls 1 (if pceE p=0 then (onsL p.evs p.evs.length).map eInt else []),.sc (.int .i64 (pceE p))]):=by
 have hC:=rCheck_FS p hO
 by_cases h0:pceE p=0
 rotate_left
 ·rw [if_neg h0]
  obtain ⟨E,hE⟩:∃ E,pceE p=E:=⟨_,rfl⟩
  rw [hE] at hC h0 ⊢
  refine Ctr.intro Tryz.func138 rfl Tryz.ntmps138 (Nat.le_of_ble_eq_true rfl) (bd_all rfl) fun w0 F0=>?_;dsimp only [St.init,number,Nat.reduceAdd]
  repeat refine W.go rfl ?_
  refine (?_:WL _ _ _ _ _ _)
  dsimp only [St.put,Nat.reduceAdd]
  refine WL.vl rfl (WV.call rfl (callF Tryz.func35 rfl rfl) rfl rfl hC) ?_
  repeat (first|refine W.gob rfl ?_|refine WL.nil ?_|refine WL.nt rfl rfl rfl (by omega) ?_|refine WL.e1 rfl ?_|refine W.condT rfl ?_)
  refine (?_:W _ _ _ _ _)
  dsimp only [St.put,Nat.reduceAdd]
  refine W.tr (Tr.nilR (t:=2) 1 rfl) ?_
  exact W.ret (finN rfl rfl rfl rfl)
 rw [if_pos h0,h0]
 rw [h0] at hC
 refine Ctr.intro Tryz.func138 rfl Tryz.ntmps138 (Nat.le_of_ble_eq_true rfl) (bd_all rfl) fun w0 F0=>?_;dsimp only [St.init,number,Nat.reduceAdd]
 repeat refine W.go rfl ?_
 refine (?_:WL _ _ _ _ _ _)
 dsimp only [St.put,Nat.reduceAdd]
 refine WL.vl rfl (WV.call rfl (callF Tryz.func35 rfl rfl) rfl rfl hC) ?_
 repeat (first|refine W.gob rfl ?_|refine WL.nil ?_|refine WL.nf rfl rfl rfl (by omega) ?_|refine WL.e1 rfl ?_|refine W.condF rfl ?_)
 refine (?_:WL _ _ _ _ _ _)
 dsimp only [St.put,Nat.reduceAdd]
 refine WL.vl rfl (WV.call rfl (callF Tryz.func79 rfl rfl) rfl rfl (rTimes_FS p hO h0)) ?_
 repeat (first|refine WL.nil ?_|refine WL.e1 rfl ?_)
 refine (?_:W _ _ _ _ _)
 dsimp only [St.put,Nat.reduceAdd]
 exact W.ret (finN rfl rfl rfl rfl)
theorem rMeasures_FS (p:Pce) (hO:PcOk p):Ctr Tryz.prog 141 [ePce p] (.tu [.ls 3 ((meaR p).map eMea),.sc (.int .i64 (pceE p))]):=by
 have hn3:=hO.n3
 have hC:=rCheck_FS p hO
 by_cases h0:pceE p=0
 rotate_left
 ·have e1:meaR p=[]:=if_neg h0
  rw [e1]
  obtain ⟨E,hE⟩:∃ E,pceE p=E:=⟨_,rfl⟩
  rw [hE] at hC h0 ⊢
  refine Ctr.intro Tryz.func141 rfl Tryz.ntmps141 (Nat.le_of_ble_eq_true rfl) (bd_all rfl) fun w0 F0=>?_;dsimp only [St.init,number,Nat.reduceAdd]
  repeat refine W.go rfl ?_
  refine (?_:WL _ _ _ _ _ _)
  dsimp only [St.put,Nat.reduceAdd]
  refine WL.vl rfl (WV.call rfl (callF Tryz.func35 rfl rfl) rfl rfl hC) ?_
  repeat (first|refine W.gob rfl ?_|refine WL.nil ?_|refine WL.nt rfl rfl rfl (by omega) ?_|refine WL.e1 rfl ?_|refine W.condT rfl ?_)
  refine (?_:W _ _ _ _ _)
  dsimp only [St.put,Nat.reduceAdd]
  refine W.tr (Tr.nilR (t:=2) 3 rfl) ?_
  exact W.ret (finN rfl rfl rfl rfl)
 have e1:meaR p=mea p.evs p.evs.length:=if_pos h0
 rw [e1,h0]
 rw [h0] at hC
 have hol:=onsL_length p.evs p.evs.length
 refine Ctr.intro Tryz.func141 rfl Tryz.ntmps141 (Nat.le_of_ble_eq_true rfl) (bd_all rfl) fun w0 F0=>?_;dsimp only [St.init,number,Nat.reduceAdd]
 repeat refine W.go rfl ?_
 refine (?_:WL _ _ _ _ _ _)
 dsimp only [St.put,Nat.reduceAdd]
 refine WL.vl rfl (WV.call rfl (callF Tryz.func35 rfl rfl) rfl rfl hC) ?_
 repeat (first|refine W.gob rfl ?_|refine WL.nil ?_|refine WL.nf rfl rfl rfl (by omega) ?_|refine WL.e1 rfl ?_|refine W.condF rfl ?_)
 refine (?_:WL _ _ _ _ _ _)
 dsimp only [St.put,Nat.reduceAdd]
 refine WL.vl rfl (WV.call rfl (callF Tryz.func79 rfl rfl) rfl rfl (rTimes_FS p hO h0)) ?_
 repeat (first|refine W.go rfl ?_|refine WL.ev rfl ?_)
 refine (?_:W _ _ _ _ _)
 dsimp only [St.put,Nat.reduceAdd]
 refine W.tr (Tr.nil (t:=6) 222 3 rfl rfl) ?_
 dsimp only [St.put,St.new,St.upd,Nat.reduceAdd]
 refine W.loop (fun k:Nat=>k≤p.evs.length) (fun k=>⟨[(1,.pt 0 0 0),(5,.ls 1 ((onsL p.evs p.evs.length).map eInt)),(6,.sl 1),(7,.sc (.int .i64 k))],[(0,.box 29 (ePce p).cells),(1,.row 222 3 ((mea p.evs k).map eMea))],2⟩) (fun k=>p.evs.length - k) 0 (by omega) (Tr.ren id (by repeat (first|exact trivial|refine ⟨⟨?_,?_⟩,?_⟩|rfl)) (by repeat (first|exact trivial|refine ⟨⟨?_,?_,?_⟩,?_⟩|rfl)) rfl) fun k hk=>?_
 have hml:=mea_length p.evs k
 by_cases hlt:k < p.evs.length
 rotate_left
 ·obtain rfl:k=p.evs.length:=by omega
  repeat (first|refine W.gob rfl ?_|refine WL.nil ?_|refine WL.bf rfl rfl rfl (by omega) ?_|refine WL.e1 rfl ?_|refine WL.len rfl rfl (by first|exact List.length_map _|exact List.length_replicate|rfl) ?_|refine W.condF rfl ?_)
  refine (?_:W _ _ _ _ _)
  dsimp only [St.put,Nat.reduceAdd]
  refine W.tr (Tr.freeze 1 rfl) ?_
  exact W.ret (finN rfl rfl rfl rfl)
 have hone:=mea_ne p.evs k
 have hnx:mea p.evs (k+1)=bumpM (frc 0 (p.evs.take (k+1))) (if newM p.evs k then mea p.evs k++[((k:Int),0,0)] else mea p.evs k):=rfl
 have hnew:newM p.evs k=(k == 0 || p.evs[k].bar):=by unfold newM;rw [List.getElem?_eq_getElem hlt];rfl
 have hbd0:=mea_bd p.evs k
 obtain ⟨R,hR⟩:∃ R,(if newM p.evs k then mea p.evs k++[((k:Int),0,0)] else mea p.evs k)=R:=⟨_,rfl⟩
 rw [hR] at hone hnx
 have hRl:R.length≤k+1:=by
  rw [← hR]
  split
  ·rw [List.length_append,List.length_singleton];omega
  ·omega
 have hRb:∀ y,y∈R→(0≤y.1∧y.1≤k)∧(0≤y.2.1∧y.2.1≤k)∧(0≤y.2.2∧y.2.2≤1000*k):=fun y hy=>by
  rw [← hR] at hy
  split at hy
  ·rcases List.mem_append.1 hy with hy|hy
   ·exact hbd0 y hy
   ·rw [List.mem_singleton] at hy;subst hy;simp;omega
  ·exact hbd0 y hy
 repeat (first|refine W.gob rfl ?_|refine WL.nil ?_|refine WL.bt rfl rfl rfl (by omega) ?_|refine WL.e1 rfl ?_|refine WL.len rfl rfl (by first|exact List.length_map _|exact List.length_replicate|rfl) ?_|refine W.condT rfl ?_)
 refine (?_:WL _ _ _ _ _ _)
 dsimp only [St.put,Nat.reduceAdd]
 refine WL.meet2 ⟨[(1,.pt 0 0 0),(5,.ls 1 ((onsL p.evs p.evs.length).map eInt)),(6,.sl 1),(7,.sc (.int .i64 k))],[(0,.box 29 (ePce p).cells),(1,.row 222 3 (R.map eMea))],2⟩ ?_ ?_
 ·refine WL.partG rfl rfl rfl rfl (fun hp=>?_) (fun hp=>?_)
  ·have hp:(k:Int)=0:=of_decide_eq_true hp
   have hRe:R=mea p.evs k++[((k:Int),0,0)]:=by
    rw [← hR,if_pos (by rw [hnew,Bool.or_eq_true];exact .inl (by simp;omega))]
   rw [hRe]
   repeat (first|refine W.go rfl ?_|refine WL.ev rfl ?_|refine WL.opno rfl rfl rfl rfl rfl rfl rfl ?_|refine WL.app rfl rfl rfl (by first|omega|(simp;done)|(simp;omega)) ?_|refine W.condT rfl ?_)
   dsimp only [St.put,Nat.reduceAdd]
   refine (?_:Tr _ _ _)
   exact (Tr.ren (fun q=>bif Nat.beq q 1 then 3 else q) (by repeat (first|exact trivial|refine ⟨⟨?_,?_⟩,?_⟩|rfl)) (by repeat (first|exact trivial|refine ⟨⟨?_,?_,?_⟩,?_⟩|rfl|exact congrArg (fun q=>some (AO.row _ _ q)) (by rw [List.map_append];rfl))) rfl)
  ·have hp:¬ (k:Int)=0:=of_decide_eq_false hp
   have hk0:(k == 0)=false:=by simp;omega
   repeat (first|refine WL.ev rfl ?_|refine WL.gyes rfl rfl rfl rfl ?_|refine WL.idx rfl rfl (by omega) (by first|exact map_at (by omega)|exact map_atZ (by omega) (by omega)) ?_)
   refine (?_:W _ _ _ _ _)
   dsimp only [St.put,Nat.reduceAdd]
   (refine W.cond rfl (fun hif=>?_) (fun hif=>?_)<;>(try simp only [decide_eq_true_eq,decide_eq_false_iff_not,Int.not_lt,Int.not_le,Bool.not_eq_true',Bool.not_eq_false'] at hif))
   ·have hRe:R=mea p.evs k++[((k:Int),0,0)]:=by
     rw [← hR,if_pos (by rw [hnew,hk0,hif];rfl)]
    rw [hRe]
    repeat (first|refine W.go rfl ?_|refine WL.ev rfl ?_|refine WL.app rfl rfl rfl (by first|omega|(simp;done)|(simp;omega)) ?_)
    dsimp only [St.put,Nat.reduceAdd]
    refine (?_:Tr _ _ _)
    exact (Tr.ren (fun q=>bif Nat.beq q 1 then 3 else q) (by repeat (first|exact trivial|refine ⟨⟨?_,?_⟩,?_⟩|rfl)) (by repeat (first|exact trivial|refine ⟨⟨?_,?_,?_⟩,?_⟩|rfl|exact congrArg (fun q=>some (AO.row _ _ q)) (by rw [List.map_append];rfl))) rfl)
   ·have hRe:R=mea p.evs k:=by
     rw [← hR,if_neg (by rw [hnew,hk0,hif];decide)]
    rw [hRe]
    repeat refine W.go rfl ?_
    refine (?_:Tr _ _ _)
    exact (Tr.ren id (by repeat (first|exact trivial|refine ⟨⟨?_,?_⟩,?_⟩|rfl)) (by repeat (first|exact trivial|refine ⟨⟨?_,?_,?_⟩,?_⟩|rfl)) rfl)
 obtain ⟨D,x,rfl⟩:∃ D x,R=D++[x]:=⟨R.dropLast,R.getLast hone,(List.dropLast_concat_getLast hone).symm⟩
 have hx:=hRb x (by simp)
 rw [bumpM_snoc] at hnx
 rw [List.length_append,List.length_singleton] at hRl
 have hDl:(D++[x]).length=D.length+1:=by simp
 have ez:(((D++[x]).length:Nat):Int) - 1=(D.length:Int):=by omega
 have hat:((D++[x]).map eMea)[((D.length:Nat):Int).toNat]?=some (eMea x):=by
  rw [Int.toNat_natCast,List.map_append,List.getElem?_append_right (by simp)];simp
 have hat2:((D++[(x.1,x.2.1+1,x.2.2)]).map eMea)[((D.length:Nat):Int).toNat]?=some (eMea (x.1,x.2.1+1,x.2.2)):=by
  rw [Int.toNat_natCast,List.map_append,List.getElem?_append_right (by simp)];simp
 have hl2:(D++[(x.1,x.2.1+1,x.2.2)]).length=D.length+1:=by simp
 have ez2:(((D++[(x.1,x.2.1+1,x.2.2)]).length:Nat):Int) - 1=(D.length:Int):=by omega
 have hs1:((D++[x]).map eMea).set ((D.length:Nat):Int).toNat (putL 1 [.sc (.int .i64 (x.2.1+1))] (eMea x))=(D++[(x.1,x.2.1+1,x.2.2)]).map eMea:=by
  rw [Int.toNat_natCast,List.map_append,List.set_append_right _ _ (by simp)]
  simp [eMea,putL]
 have hon:onsAt p.evs (k+1)=onsAt p.evs k+frc 0 (p.evs.take (k+1)):=rfl
 have hb1:=onsAt_le p.evs k
 have hb2:=frc_le 0 (p.evs.take (k+1)) ⟨by decide,by decide⟩
 have hg0:(onsL p.evs p.evs.length)[k]'(by omega)=onsAt p.evs k:=onsL_get (by omega) _
 have hg1:(onsL p.evs p.evs.length)[k+1]'(by omega)=onsAt p.evs (k+1):=onsL_get (by omega) _
 obtain ⟨T,hT⟩:∃ T,frc 0 (p.evs.take (k+1))=T:=⟨_,rfl⟩
 obtain ⟨a0,ha0⟩:∃ a,onsAt p.evs k=a:=⟨_,rfl⟩
 rw [hT] at hnx hon hb2
 rw [ha0] at hon hb1 hg0
 rw [hon] at hg1
 have hq0:∀ h,(onsL p.evs p.evs.length)[((k:Nat):Int).toNat]'h=a0:=fun h=>by simp only [Int.toNat_natCast];exact hg0
 have hq1:∀ h,(onsL p.evs p.evs.length)[((k:Nat)+1:Int).toNat]'h=a0+T:=fun h=>by
  have:((k:Nat)+1:Int).toNat=k+1:=by omega
  simp only [this];exact hg1
 have hs2:((D++[(x.1,x.2.1+1,x.2.2)]).map eMea).set ((D.length:Nat):Int).toNat (putL 2 [.sc (.int .i64 (x.2.2+(a0+T) - a0))] (eMea (x.1,x.2.1+1,x.2.2)))=(mea p.evs (k+1)).map eMea:=by
  rw [hnx,show x.2.2+(a0+T) - a0=x.2.2+T by omega,Int.toNat_natCast,List.map_append,List.set_append_right _ _ (by simp)]
  simp [eMea,putL]
 repeat (first|refine W.gob rfl ?_|refine WL.e1 rfl ?_|refine WL.ar rfl rfl (by unfold I64;omega) ?_|refine WL.len rfl rfl (by first|exact List.length_map _|exact List.length_replicate|rfl) ?_|refine WL.ixs rfl rfl (by first|omega|(simp;done)|(simp;omega)) ?_)
 refine (?_:WL _ _ _ _ _ _)
 dsimp only [St.put,Nat.reduceAdd]
 rw [ez]
 refine WL.ldr rfl rfl hat rfl rfl ?_
 repeat (first|refine WL.e1 rfl ?_|refine WL.ar rfl rfl (by unfold I64;omega) ?_|refine WL.ixs rfl rfl (by first|omega|(simp;done)|(simp;omega)) ?_)
 refine (?_:WL _ _ _ _ _ _)
 dsimp only [St.put,Nat.reduceAdd]
 refine WL.sto rfl rfl rfl rfl hat (by show 1+1≤3;omega) ?_
 repeat refine WL.nil ?_
 refine (?_:W _ _ _ _ _)
 dsimp only [St.put,Nat.reduceAdd]
 refine W.tr (σ':=⟨[(1,.pt 0 0 0),(5,.ls 1 ((onsL p.evs p.evs.length).map eInt)),(6,.sl 1),(7,.sc (.int .i64 k))],[(0,.box 29 (ePce p).cells),(1,.row 222 3 ((D++[(x.1,x.2.1+1,x.2.2)]).map eMea))],2⟩) (Tr.ren (fun q=>q) (by repeat (first|exact trivial|refine ⟨⟨?_,?_⟩,?_⟩|rfl)) (by repeat (first|exact trivial|refine ⟨⟨?_,?_,?_⟩,?_⟩|rfl|exact congrArg (fun q=>some (AO.row _ _ q)) hs1)) rfl) ?_
 refine W.dkT 24 (by kernel_rfl) (by kernel_rfl) (by kernel_rfl) (by kernel_rfl) ?_
 repeat (first|refine DK.st rfl ?_|refine DK.ar rfl rfl (by unfold I64;omega) ?_|refine DK.len rfl rfl (by first|exact List.length_map _|exact List.length_replicate|rfl) ?_|refine DK.ixs rfl rfl (by first|omega|(simp;done)|(simp;omega)) ?_)
 rw [ez2]
 refine DK.ldr rfl rfl hat2 rfl rfl ?_
 repeat (first|refine DK.st rfl ?_|refine DK.ar rfl rfl (by unfold I64;omega) ?_|refine DK.idx rfl rfl (by omega) (by first|exact map_at (by omega)|exact map_atZ (by omega) (by omega)) ?_)
 simp only [hq1]
 repeat (first|refine DK.st rfl ?_|refine DK.ar rfl rfl (by unfold I64;omega) ?_|refine DK.idx rfl rfl (by omega) (by first|exact map_at (by omega)|exact map_atZ (by omega) (by omega)) ?_|refine DK.ixs rfl rfl (by first|omega|(simp;done)|(simp;omega)) ?_|refine DK.nil ?_)
 simp only [hg0]
 refine ⟨by first|exact trivial|rfl,?_⟩
 refine WL.sto rfl rfl rfl rfl hat2 (by show 2+1≤3;omega) ?_
 repeat (first|refine W.go rfl ?_|refine WL.nil ?_|refine WL.ev rfl ?_|refine WL.ar rfl rfl (by unfold I64;omega) ?_)
 dsimp only [St.put,Nat.reduceAdd]
 refine ⟨k+1,by omega,by omega,?_⟩
 exact (Tr.ren (fun q=>q) (by repeat (first|exact trivial|refine ⟨⟨?_,?_⟩,?_⟩|rfl)) (by repeat (first|exact trivial|refine ⟨⟨?_,?_,?_⟩,?_⟩|rfl|exact congrArg (fun q=>some (AO.row _ _ q)) hs2)) rfl)
theorem rStarts_FS (p:Pce) (hO:PcOk p) (h0:pceE p=0):Ctr Tryz.prog 68 [ePce p] (.ls 1 ((fstL (mea p.evs p.evs.length)).map eInt)):=by
 have hn3:=hO.n3
 have hM:=rMeasures_FS p hO
 have e1:meaR p=mea p.evs p.evs.length:=if_pos h0
 rw [e1,h0] at hM
 have hml:=mea_length p.evs p.evs.length
 obtain ⟨R,hR⟩:∃ R,mea p.evs p.evs.length=R:=⟨_,rfl⟩
 rw [hR] at hM hml ⊢
 refine Ctr.intro Tryz.func68 rfl Tryz.ntmps68 (Nat.le_of_ble_eq_true rfl) (bd_all rfl) fun w0 F0=>?_;dsimp only [St.init,number,Nat.reduceAdd]
 repeat refine W.go rfl ?_
 refine (?_:WL _ _ _ _ _ _)
 dsimp only [St.put,Nat.reduceAdd]
 refine WL.vl rfl (WV.call rfl (callF Tryz.func141 rfl rfl) rfl rfl hM) ?_
 repeat (first|refine W.go rfl ?_|refine WL.ev rfl ?_)
 refine (?_:W _ _ _ _ _)
 dsimp only [St.put,Nat.reduceAdd]
 refine W.tr (Tr.nil (t:=5) 3 1 rfl rfl) ?_
 dsimp only [St.put,St.new,St.upd,Nat.reduceAdd]
 refine W.loop (fun k:Nat=>k≤R.length) (fun k=>⟨[(3,.ls 3 (R.map eMea)),(5,.sl 1),(6,.sc (.int .i64 k))],[(1,.row 3 1 (((fstL R).take k).map eInt))],2⟩) (fun k=>R.length - k) 0 (by omega) (Tr.ren id (by repeat (first|exact trivial|refine ⟨⟨?_,?_⟩,?_⟩|rfl)) (by repeat (first|exact trivial|refine ⟨⟨?_,?_,?_⟩,?_⟩|rfl)) rfl) fun k hk=>?_
 have hfl:(fstL R).length=R.length:=by simp [fstL]
 by_cases hlt:k < R.length
 rotate_left
 ·obtain rfl:k=R.length:=by omega
  rw [List.take_of_length_le (by omega)]
  repeat (first|refine W.gob rfl ?_|refine WL.nil ?_|refine WL.bf rfl rfl rfl (by omega) ?_|refine WL.e1 rfl ?_|refine WL.len rfl rfl (by first|exact List.length_map _|exact List.length_replicate|rfl) ?_|refine W.condF rfl ?_)
  refine (?_:W _ _ _ _ _)
  dsimp only [St.put,Nat.reduceAdd]
  refine W.tr (Tr.freeze 1 rfl) ?_
  exact W.ret (fin1 rfl rfl rfl rfl)
 have htk:(fstL R).take (k+1)=(fstL R).take k++[R[k].1]:=by
  rw [List.take_succ_eq_append_getElem (by omega)];simp [fstL]
 repeat (first|refine W.gob rfl ?_|refine WL.nil ?_|refine WL.bt rfl rfl rfl (by omega) ?_|refine WL.e1 rfl ?_|refine WL.ar rfl rfl (by unfold I64;omega) ?_|refine WL.len rfl rfl (by first|exact List.length_map _|exact List.length_replicate|rfl) ?_|refine WL.idx rfl rfl (by omega) (by first|exact map_at (by omega)|exact map_atZ (by omega) (by omega)) ?_|refine WL.app rfl rfl rfl (by first|omega|(simp;done)|(simp;omega)) ?_|refine W.condT rfl ?_)
 dsimp only [St.put,Nat.reduceAdd]
 refine ⟨k+1,by omega,by omega,?_⟩
 rw [htk]
 exact (Tr.ren (fun q=>bif Nat.beq q 1 then 3 else q) (by repeat (first|exact trivial|refine ⟨⟨?_,?_⟩,?_⟩|rfl)) (by repeat (first|exact trivial|refine ⟨⟨?_,?_,?_⟩,?_⟩|rfl|exact congrArg (fun q=>some (AO.row _ _ q)) (by rw [List.map_append];rfl))) rfl)
end Go.Proofs.YtkgnmddakiagbaaGreatDoor
