/- What a system lacks of a piece, and whether it can say it: the reference, over trees. -/
import Derived.Test.YtgelfflighgajaaGreatDoorNtQSq
import Derived.Test.YtgelfflighgajaaGreatDoorCoBSq
import Derived.Test.YtgelfflighgajaaGreatDoorEHSq
set_option linter.unusedVariables false
set_option linter.unusedSimpArgs false
namespace Go.Proofs.YtgelfflighgajaaGreatDoor
open Go.RowKit
set_option maxHeartbeats 4000000
set_option maxRecDepth 100000
def eNt (x:Nt):List AV:=[.sc (.int .i64 x.1),.sc (.int .i64 x.2.1),.sc (.int .i64 x.2.2.1),.sc (.int .i64 x.2.2.2.1),.sc (.int .i64 x.2.2.2.2)]
def eRing (r:List Int):List AV:=(List.range 15).map fun c=>.sc (.int .i64 (r.getD c 0))
theorem eRing_at {r:List Int} {c:Nat} (h:c<15):(eRing r)[c]?=some (.sc (.int .i64 (r.getD c 0))):=by
 unfold eRing
 rw [List.getElem?_map,List.getElem?_range h];rfl
theorem eRing_len (r:List Int):(eRing r).length=15:=by unfold eRing;simp
theorem eRing_set {r:List Int} {c:Nat} {v:Int} (hc:c<r.length):(eRing r).set c (.sc (.int .i64 v))=eRing (r.set c v):=by
 unfold eRing
 apply List.ext_getElem (by simp)
 intro i h1 h2
 have hi:i<15:=by simpa using h2
 rw [List.getElem_set]
 simp only [List.getElem_map,List.getElem_range,List.getD_eq_getElem?_getD,List.getElem?_set]
 by_cases e:c=i
 ·subst e;simp [hc]
 ·simp [e]
theorem eNt_set {l:List Nt} {k:Nat} {n:Nt} (t:Int) (h:l[k]?=some n):(l.map eNt).set k (putL 4 [.sc (.int .i64 t)] (eNt n))=(setTo l k t).map eNt:=by
 unfold setTo
 rw [h]
 simp only [List.map_set]
 rfl
structure NsOk (s:NS):Prop where
 len:s.ring.length=15
 rng:∀ c,0≤s.ring.getD c 0∧s.ring.getD c 0≤s.out.length
 big:s.out.length≤10000
theorem setTo_len (l:List Nt) (k:Nat) (t:Int):(setTo l k t).length=l.length:=by unfold setTo;split<;>simp
theorem stopN_ok {s:NS} (h:NsOk s) (c:Nat) (t:Int):NsOk (stopN c t s)∧(stopN c t s).out.length=s.out.length:=by
 unfold stopN
 split
 ·refine ⟨⟨by simpa using h.len,fun q=>?_,by rw [setTo_len];exact h.big⟩,setTo_len _ _ _⟩
  have:=h.rng q
  simp only [setTo_len,List.getD_eq_getElem?_getD] at this ⊢
  by_cases e:c=q
  ·subst e
   by_cases hq:c<s.ring.length
   ·rw [List.getElem?_set_self hq];simp
   ·rw [List.getElem?_eq_none (by simpa using hq)];simp
  ·rw [List.getElem?_set_ne e];exact this
 ·exact ⟨h,rfl⟩
theorem finMn {P:Program} {C:Cx} {σ:St} {fn:Func} {avs:List AV} {res:AV} {M':List (Nat×AO)} {nk':Nat} (h:resL P σ fn.results.toList=some avs) (hp:avs.all (fun av=>!ownB av)=true) (e:resT avs=res) (hM:σ.M=M') (hk:σ.nk=nk'):QFinM P fn C res M' nk' .normal σ :=
 ⟨.inl rfl,(finM h hp e hM hk).2⟩
theorem stop_FS (c:Nat) (t:Int) (s:NS) (hc:c < 15) (h:NsOk s) :
  Cto truB 0 Tryz.prog 230 [.sc (.int .i64 c),.sc (.int .i64 t),.pt 0 0 0,.pt 1 0 0]
   [(0,.box 328 (eRing s.ring)),(1,.box 227 [.sl 2]),(2,.row 233 5 (s.out.map eNt))] 3 (.tu [])
   [(0,.box 328 (eRing (stopN c t s).ring)),(1,.box 227 [.sl 2]),(2,.row 233 5 ((stopN c t s).out.map eNt))] 3:=by
 have hl:=eRing_len s.ring
 have hrg:=h.rng c
 have hlen:=h.len
 have hbig:=h.big
 have hat:=eRing_at (r:=s.ring) hc
 have hs0:stopN c t s=if 0 < s.ring.getD c 0 then ⟨setTo s.out (s.ring.getD c 0 - 1).toNat t,s.ring.set c 0⟩ else s:=rfl
 obtain ⟨r,hr⟩:∃ r,s.ring.getD c 0=r:=⟨_,rfl⟩
 rw [hr] at hat hrg hs0
 refine Cto.intro truS Tryz.func230 rfl Tryz.ntmps230 (Nat.le_of_ble_eq_true rfl) rfl fun w0 F0 fp pg hB=>?_
 dsimp only [number,Nat.reduceAdd]
 repeat refine W.go rfl ?_
 refine (?_:WL _ _ _ _ _ _)
 dsimp only [St.put,Nat.reduceAdd]
 refine WL.idp rfl rfl ⟨by omega,by omega⟩ (show 0+((c:Nat):Int).toNat*1=c by simp) ?_
 refine WL.ldx rfl rfl hat rfl ?_
 repeat (first|refine W.go rfl ?_|refine WL.ev rfl ?_)
 refine (?_:W _ _ _ _ _)
 dsimp only [St.put,Nat.reduceAdd]
 (refine W.cond rfl (fun hif=>?_) (fun hif=>?_)<;>(try simp only [decide_eq_true_eq,decide_eq_false_iff_not,Int.not_lt,Int.not_le,Bool.not_eq_true',Bool.not_eq_false'] at hif))
 ·rw [if_pos hif] at hs0
  rw [hs0]
  have hk:(r - 1).toNat < s.out.length:=by omega
  have hn:=List.getElem?_eq_getElem hk
  have hrr:(s.out.map eNt)[(r - 1).toNat]?=some (eNt s.out[(r - 1).toNat]):=by rw [List.getElem?_map,hn];rfl
  repeat (first|refine W.gob rfl ?_|refine WL.e1 rfl ?_|refine WL.ar rfl rfl (by unfold I64;omega) ?_|refine WL.ixs rfl rfl (by first|omega|(simp;done)|(simp;omega)) ?_)
  refine (?_:WL _ _ _ _ _ _)
  dsimp only [St.put,Nat.reduceAdd]
  refine WL.sto rfl rfl rfl rfl hrr (by show 4+1≤5;omega) ?_
  repeat (first|refine W.gob rfl ?_|refine WL.nil ?_|refine WL.e1 rfl ?_)
  refine (?_:WL _ _ _ _ _ _)
  dsimp only [St.put,Nat.reduceAdd]
  refine WL.idp rfl rfl ⟨by omega,by omega⟩ (show 0+((c:Nat):Int).toNat*1=c by simp) ?_
  refine WL.stx rfl rfl rfl rfl (by rw [hl];exact hc) ?_
  rw [eRing_set (by omega)]
  dsimp only
  refine WL.tr (σ':=⟨[],[(0,.box 328 (eRing (s.ring.set c 0))),(1,.box 227 [.sl 2]),(2,.row 233 5 ((setTo s.out (r - 1).toNat t).map eNt))],3⟩) (Tr.ren (fun q=>q) (by repeat (first|exact trivial|refine ⟨⟨?_,?_⟩,?_⟩|rfl)) (by repeat (first|exact trivial|refine ⟨⟨?_,?_,?_⟩,?_⟩|rfl|exact congrArg (fun q=>some (AO.row _ _ q)) (eNt_set t hn))) rfl) ?_
  repeat refine WL.nil ?_
  exact finMn rfl rfl rfl rfl rfl
 ·rw [if_neg (by omega)] at hs0
  rw [hs0]
  repeat refine W.go rfl ?_
  exact finMn rfl rfl rfl rfl rfl
end Go.Proofs.YtgelfflighgajaaGreatDoor
namespace Go.Proofs.YtgelfflighgajaaGreatDoor
open Go.RowKit
set_option maxRecDepth 100000
set_option maxHeartbeats 4000000
theorem rLacks_FS (s:Int) (p:Pce) (hO:PcOk p):Ctr Tryz.prog 128 [.sc (.int .u8 s),ePce p] (.tu [.ls 3 ((lksR s p).map eLk),.sc (.int .i64 (lksE s p))]):=by
 refine Ctr.intro Tryz.func128 rfl Tryz.ntmps128 (Nat.le_of_ble_eq_true rfl) (bd_all rfl) fun w0 F0=>?_;dsimp only [St.init,number,Nat.reduceAdd]
 have hn3:=hO.n3
 repeat refine W.go rfl ?_
 refine (?_:WL _ _ _ _ _ _)
 dsimp only [St.put,Nat.reduceAdd]
 refine WL.vl rfl (WV.call rfl (callF Tryz.func75 rfl rfl) rfl rfl (known_FS s)) ?_
 repeat refine WL.ev rfl ?_
 refine (?_:W _ _ _ _ _)
 dsimp only [St.put,Nat.reduceAdd]
 (refine W.cond rfl (fun hif=>?_) (fun hif=>?_)<;>(try simp only [decide_eq_true_eq,decide_eq_false_iff_not,Int.not_lt,Int.not_le,Bool.not_eq_true',Bool.not_eq_false'] at hif))
 ·have hs:¬ (1≤s∧s≤4):=by simpa using hif
  rw [(lks_bad hs).1,(lks_bad hs).2]
  repeat refine W.go rfl ?_
  refine (?_:W _ _ _ _ _)
  refine W.tr (Tr.nilLs (t:=4) 3 rfl) ?_
  exact W.ret (fin2 rfl rfl rfl rfl rfl rfl rfl)
 have hs:1≤s∧s≤4:=by simpa using hif
 repeat refine W.go rfl ?_
 refine (?_:WL _ _ _ _ _ _)
 refine WL.vl rfl (WV.call rfl (callF Tryz.func28 rfl rfl) rfl rfl (rCheck_FS p hO)) ?_
 repeat (first|refine W.go rfl ?_|refine WL.ev rfl ?_)
 refine (?_:W _ _ _ _ _)
 dsimp only [St.put,Nat.reduceAdd]
 (refine W.cond rfl (fun hif=>?_) (fun hif=>?_)<;>(try simp only [decide_eq_true_eq,decide_eq_false_iff_not,Int.not_lt,Int.not_le,Bool.not_eq_true',Bool.not_eq_false'] at hif))
 ·have h0:pceE p≠0:=by simpa using hif
  rw [(lks_err hs h0).1,(lks_err hs h0).2]
  repeat refine W.go rfl ?_
  refine (?_:W _ _ _ _ _)
  dsimp only [St.put,Nat.reduceAdd]
  refine W.tr (Tr.nilLs (t:=4) 3 rfl) ?_
  exact W.ret (fin2 rfl rfl rfl rfl rfl rfl rfl)
 have h0:pceE p=0:=by simpa using hif
 rw [(lks_ok hs h0).1,(lks_ok hs h0).2]
 repeat refine W.go rfl ?_
 refine (?_:W _ _ _ _ _)
 refine W.tr (Tr.nil (t:=7) 308 3 rfl rfl) ?_
 refine W.loop (fun k:Nat=>k≤p.evs.length) (fun k=>⟨[(0,.sc (.int .u8 s)),(3,.pt 0 0 0),(7,.sl 1),(8,.sc (.int .i64 k))],[(0,.box 28 (ePce p).cells),(1,.row 308 3 ((lksTo s p k).map eLk))],2⟩) (fun k=>p.evs.length - k) 0 (by omega) (Tr.ren id (by repeat (first|exact trivial|refine ⟨⟨?_,?_⟩,?_⟩|rfl)) (by repeat (first|exact trivial|refine ⟨⟨?_,?_,?_⟩,?_⟩|rfl)) rfl) fun k hk=>?_
 repeat (first|refine W.go rfl ?_|refine WL.ev rfl ?_|refine WL.len rfl rfl (by first|exact List.length_map _|exact List.length_replicate|rfl) ?_)
 refine (?_:W _ _ _ _ _)
 dsimp only [St.put,Nat.reduceAdd]
 (refine W.cond rfl (fun hif=>?_) (fun hif=>?_)<;>(try simp only [decide_eq_true_eq,decide_eq_false_iff_not,Int.not_lt,Int.not_le,Bool.not_eq_true',Bool.not_eq_false'] at hif))
 ·have hk2:k < p.evs.length:=by omega
  have hl1:=lksTo_len s hO k hk
  have hl2:=lackE_len s p k p.evs[k] (hO.n4 k hk2)
  have hrow:(lksTo s p k).map eLk++(lackE s p k p.evs[k]).map eLk=(lksTo s p (k+1)).map eLk:=by rw [lksTo_at s p hk2,List.map_append]
  repeat refine W.go rfl ?_
  refine (?_:WL _ _ _ _ _ _)
  dsimp only [St.put,Nat.reduceAdd]
  refine WL.vl rfl (WV.call rfl (callF Tryz.func185 rfl rfl) rfl rfl (rlack_FS s hs p k hk2 hO h0)) ?_
  repeat (first|refine W.go rfl ?_|refine WL.ev rfl ?_|refine WL.ar rfl rfl (by unfold I64;omega) ?_|refine WL.app rfl rfl rfl (by first|omega|(simp;done)|(simp;omega)) ?_)
  dsimp only [St.put,Nat.reduceAdd]
  exact ⟨k+1,by omega,by omega,Tr.ren (fun q=>bif Nat.beq q 1 then 2 else q) (by repeat (first|exact trivial|refine ⟨⟨?_,?_⟩,?_⟩|rfl)) (by repeat (first|exact trivial|refine ⟨⟨?_,?_,?_⟩,?_⟩|exact congrArg (fun r=>some (AO.row _ _ r)) hrow|rfl)) rfl⟩
 ·have he:k=p.evs.length:=by omega
  subst he
  repeat refine W.go rfl ?_
  refine (?_:W _ _ _ _ _)
  dsimp only [St.put,Nat.reduceAdd]
  refine W.tr (Tr.freeze 1 rfl) ?_
  exact W.ret (fin2 rfl rfl rfl rfl rfl rfl rfl)
theorem rCan_FS (s:Int) (p:Pce) (hO:PcOk p):Ctr Tryz.prog 76 [.sc (.int .u8 s),ePce p] (.sc (.bool (lksE s p == 0 && ((lksR s p).length:Int) == 0))):=by
 refine Ctr.intro Tryz.func76 rfl Tryz.ntmps76 (Nat.le_of_ble_eq_true rfl) (bd_all rfl) fun w0 F0=>?_;dsimp only [St.init,number,Nat.reduceAdd]
 repeat refine W.go rfl ?_
 refine (?_:WL _ _ _ _ _ _)
 dsimp only [St.put,Nat.reduceAdd]
 refine WL.vl rfl (WV.call rfl (callF Tryz.func128 rfl rfl) rfl rfl (rLacks_FS s p hO)) ?_
 repeat (first|refine W.go rfl ?_|refine WL.ev rfl ?_)
 refine (?_:WL _ _ _ _ _ _)
 dsimp only [St.put,Nat.reduceAdd]
 have hl:(lksR s p).length≤27000:=by
  unfold lksR
  split
  ·exact lksTo_len s hO _ (Nat.le_refl _)
  ·simp
 refine WL.partG rfl rfl rfl rfl (fun hp=>?_) (fun hp=>?_)
 ·have e:lksE s p=0:=of_decide_eq_true hp
  repeat (first|refine WL.ev rfl ?_|refine WL.gyes rfl rfl rfl rfl ?_|refine WL.len rfl rfl (by first|exact List.length_map _|exact List.length_replicate|rfl) ?_)
  refine (?_:W _ _ _ _ _)
  dsimp only [St.put,Nat.reduceAdd]
  refine W.ret (fin1 rfl rfl (sc_bool ?_) rfl)
  rw [e];rfl
 ·have e:lksE s p≠0:=of_decide_eq_false hp
  repeat (first|refine WL.ev rfl ?_|refine WL.opno rfl rfl rfl rfl rfl rfl rfl ?_)
  refine (?_:W _ _ _ _ _)
  dsimp only [St.put,Nat.reduceAdd]
  refine W.ret (fin1 rfl rfl (sc_bool ?_) rfl)
  rw [show (lksE s p == 0)=false by simpa using e];rfl
end Go.Proofs.YtgelfflighgajaaGreatDoor
