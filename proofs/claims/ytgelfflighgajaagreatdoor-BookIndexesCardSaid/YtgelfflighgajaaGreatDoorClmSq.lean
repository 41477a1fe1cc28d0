/- notation.Column, without its law. -/
import Derived.Test.YtgelfflighgajaaGreatDoorEHSq
import Derived.Test.YtgelfflighgajaaGreatDoorCoBSq
import Derived.Test.YtgelfflighgajaaGreatDoorLngSq
set_option maxHeartbeats 4000000
set_option maxRecDepth 100000
set_option linter.unusedVariables false
set_option linter.unusedSimpArgs false
namespace Go.Proofs.YtgelfflighgajaaGreatDoor
section
open Go.RowKit
theorem rLacks_FS (s:Int) (p:Pce) (hO:PcOk p):Ctr Tryz.prog 128 [.sc (.int .u8 s),ePce p] (.tu [.ls 3 ((lksR s p).map eLk),.sc (.int .i64 (lksE s p))]):=by
 refine Ctr.intro Tryz.func128 rfl Tryz.ntmps128 (Nat.le_of_ble_eq_true rfl) (bd_all rfl) fun w0 F0=>?_;dsimp only [St.init,number,Nat.reduceAdd]
 have hn3:=hO.n3
 repeat refine W.go rfl ?_
 refine (?_:WL _ _ _ _ _ _)
 refine WL.vl rfl (WV.call rfl (callF Tryz.func75 rfl rfl) rfl rfl (known_FS s)) ?_
 repeat refine WL.ev rfl ?_
 refine (?_:W _ _ _ _ _)
 (refine W.cond rfl (fun hif=>?_) (fun hif=>?_)<;>(try simp only [decide_eq_true_eq,decide_eq_false_iff_not,Int.not_lt,Int.not_le,Bool.not_eq_true',Bool.not_eq_false'] at hif))
 ·have hs:¬ (1≤s∧s≤4):=by simpa using hif
  rw [(lks_bad hs).1,(lks_bad hs).2]
  repeat refine W.go rfl ?_
  refine (?_:W _ _ _ _ _)
  refine W.tr (Tr.nilLs (t:=4) 3 rfl) ?_
  exact W.ret (fin2 rfl rfl rfl rfl rfl rfl rfl)
 have hs:1≤s∧s≤4:=by simpa using hif
 repeat refine W.go rfl ?_
 refine (?_:WL _ _ _ _ _ _)
 refine WL.vl rfl (WV.call rfl (callF Tryz.func28 rfl rfl) rfl rfl (rCheck_FS p hO)) ?_
 repeat (first|refine W.go rfl ?_|refine WL.ev rfl ?_)
 refine (?_:W _ _ _ _ _)
 (refine W.cond rfl (fun hif=>?_) (fun hif=>?_)<;>(try simp only [decide_eq_true_eq,decide_eq_false_iff_not,Int.not_lt,Int.not_le,Bool.not_eq_true',Bool.not_eq_false'] at hif))
 ·have h0:pceE p≠0:=by simpa using hif
  rw [(lks_err hs h0).1,(lks_err hs h0).2]
  repeat refine W.go rfl ?_
  refine (?_:W _ _ _ _ _)
  refine W.tr (Tr.nilLs (t:=4) 3 rfl) ?_
  exact W.ret (fin2 rfl rfl rfl rfl rfl rfl rfl)
 have h0:pceE p=0:=by simpa using hif
 rw [(lks_ok hs h0).1,(lks_ok hs h0).2]
 repeat refine W.go rfl ?_
 refine (?_:W _ _ _ _ _)
 refine W.tr (Tr.nil (t:=7) 308 3 rfl rfl) ?_
 refine W.loop (fun k:Nat=>k≤p.evs.length) (fun k=>⟨[(0,.sc (.int .u8 s)),(3,.pt 0 0 0),(7,.sl 1),(8,.sc (.int .i64 k))],[(0,.box 28 (ePce p).cells),(1,.row 308 3 ((lksTo s p k).map eLk))],2⟩) (fun k=>p.evs.length - k) 0 (by omega) (zqt id) fun k hk=>?_
 repeat (first|refine W.go rfl ?_|refine WL.ev rfl ?_|refine WL.len rfl rfl zql ?_)
 refine (?_:W _ _ _ _ _)
 (refine W.cond rfl (fun hif=>?_) (fun hif=>?_)<;>(try simp only [decide_eq_true_eq,decide_eq_false_iff_not,Int.not_lt,Int.not_le,Bool.not_eq_true',Bool.not_eq_false'] at hif))
 ·have hk2:k < p.evs.length:=by omega
  have hl1:=lksTo_len s hO k hk
  have hl2:=lackE_len s p k p.evs[k] (hO.n4 k hk2)
  have hrow:(lksTo s p k).map eLk++(lackE s p k p.evs[k]).map eLk=(lksTo s p (k+1)).map eLk:=by rw [lksTo_at s p hk2,List.map_append]
  repeat refine W.go rfl ?_
  refine (?_:WL _ _ _ _ _ _)
  refine WL.vl rfl (WV.call rfl (callF Tryz.func185 rfl rfl) rfl rfl (rlack_FS s hs p k hk2 hO h0)) ?_
  repeat (first|refine W.go rfl ?_|refine WL.ev rfl ?_|refine WL.ar rfl rfl (by unfold I64;omega) ?_|refine WL.app rfl rfl rfl (by first|omega|(simp;done)|(simp;omega)) ?_)
  exact ⟨k+1,by omega,by omega,zqu (fun q=>bif Nat.beq q 1 then 2 else q) (by repeat (first|exact trivial|refine ⟨⟨?_,?_,?_⟩,?_⟩|exact congrArg (fun r=>some (AO.row _ _ r)) hrow|rfl)) rfl⟩
 ·have he:k=p.evs.length:=by omega
  subst he
  repeat refine W.go rfl ?_
  refine (?_:W _ _ _ _ _)
  refine W.tr (Tr.freeze 1 rfl) ?_
  exact W.ret (fin2 rfl rfl rfl rfl rfl rfl rfl)
theorem rCan_FS (s:Int) (p:Pce) (hO:PcOk p):Ctr Tryz.prog 76 [.sc (.int .u8 s),ePce p] (.sc (.bool (lksE s p == 0 && ((lksR s p).length:Int) == 0))):=by
 refine Ctr.intro Tryz.func76 rfl Tryz.ntmps76 (Nat.le_of_ble_eq_true rfl) (bd_all rfl) fun w0 F0=>?_;dsimp only [St.init,number,Nat.reduceAdd]
 repeat refine W.go rfl ?_
 refine (?_:WL _ _ _ _ _ _)
 refine WL.vl rfl (WV.call rfl (callF Tryz.func128 rfl rfl) rfl rfl (rLacks_FS s p hO)) ?_
 repeat (first|refine W.go rfl ?_|refine WL.ev rfl ?_)
 refine (?_:WL _ _ _ _ _ _)
 have hl:(lksR s p).length≤27000:=by
  unfold lksR
  split
  ·exact lksTo_len s hO _ (Nat.le_refl _)
  ·simp
 refine WL.partG rfl rfl rfl rfl (fun hp=>?_) (fun hp=>?_)
 ·have e:lksE s p=0:=of_decide_eq_true hp
  repeat (first|refine WL.ev rfl ?_|refine WL.gyes rfl rfl rfl rfl ?_|refine WL.len rfl rfl zql ?_)
  refine (?_:W _ _ _ _ _)
  refine W.ret (fin1 rfl rfl (sc_bool ?_) rfl)
  rw [e];rfl
 ·have e:lksE s p≠0:=of_decide_eq_false hp
  repeat (first|refine WL.ev rfl ?_|refine WL.opno rfl rfl rfl rfl rfl rfl rfl ?_)
  refine (?_:W _ _ _ _ _)
  refine W.ret (fin1 rfl rfl (sc_bool ?_) rfl)
  rw [show (lksE s p == 0)=false by simpa using e];rfl
end
section
open Go.RowKit
def snmT(s:Int):List UInt8:=if s=1 then [102,114,101,110,99,104]else if s=2 then [105,116,97,108,105,97,110]else if s=3 then [115,112,97,110,105,115,104]else [103,101,114,109,97,110]
def nameF(s:Int):FuncId:=if s=1 then 277 else if s=2 then 287 else if s=3 then 295 else 302
theorem name_FS (s:Int) (hs:1≤s∧s≤4):Ctr Tryz.prog (nameF s) [.ag []] (.sc (.string (bs (snmT s)))):=by
 rcases sys_cases hs with rfl|rfl|rfl|rfl
 ·show Ctr Tryz.prog 277 _ _
  refine Ctr.intro Tryz.func277 rfl Tryz.ntmps277 (Nat.le_of_ble_eq_true rfl) (bd_all rfl) fun w0 F0=>?_;dsimp only [St.init,number,Nat.reduceAdd]
  repeat refine W.go rfl ?_
  refine (?_:W _ _ _ _ _)
  exact W.ret (fin1 rfl rfl rfl rfl)
 ·show Ctr Tryz.prog 287 _ _
  refine Ctr.intro Tryz.func287 rfl Tryz.ntmps287 (Nat.le_of_ble_eq_true rfl) (bd_all rfl) fun w0 F0=>?_;dsimp only [St.init,number,Nat.reduceAdd]
  repeat refine W.go rfl ?_
  refine (?_:W _ _ _ _ _)
  exact W.ret (fin1 rfl rfl rfl rfl)
 ·show Ctr Tryz.prog 295 _ _
  refine Ctr.intro Tryz.func295 rfl Tryz.ntmps295 (Nat.le_of_ble_eq_true rfl) (bd_all rfl) fun w0 F0=>?_;dsimp only [St.init,number,Nat.reduceAdd]
  repeat refine W.go rfl ?_
  refine (?_:W _ _ _ _ _)
  exact W.ret (fin1 rfl rfl rfl rfl)
 ·show Ctr Tryz.prog 302 _ _
  refine Ctr.intro Tryz.func302 rfl Tryz.ntmps302 (Nat.le_of_ble_eq_true rfl) (bd_all rfl) fun w0 F0=>?_;dsimp only [St.init,number,Nat.reduceAdd]
  repeat refine W.go rfl ?_
  refine (?_:W _ _ _ _ _)
  exact W.ret (fin1 rfl rfl rfl rfl)
theorem colS_len {s:Int} (hs:1≤s∧s≤4) {p:Pce} (hO:PcOk p) (h0:pceE p=0) (i:Nat) (hi:i<p.evs.length):(colS s p i p.evs[i]).length≤1000000 :=
 (joinW_bd s hs p i p.evs[i] (evE_zero ((pceE_zero h0).2.2 i hi)).1 (stopsIn_of h0 i hi) (hO.n4 i hi)).2
theorem lksTo_none {s:Int} {p:Pce}:∀ k,k≤p.evs.length→lksTo s p k=[]→∀ i (h:i<k)(h2:i<p.evs.length),lackE s p i p.evs[i]=[]
 | 0,_,_,i,h,_=>by omega
 | k+1,hk,hn,i,h,h2=>by
  rw [lksTo_at s p (by omega:k<p.evs.length)] at hn
  have:=List.append_eq_nil_iff.1 hn
  by_cases e:i=k
  ·subst e;exact this.2
  ·exact lksTo_none k (by omega) this.1 i (by omega) h2
end
section
open Go.RowKit
def colX(s:Int)(p:Pce)(z:Int):Int :=
 if ¬ (1≤s∧s≤4)then 30 else if pceE p≠0 then pceE p else if z<0 then 1 else
  match p.evs[z.toNat]? with
  | some e=>if lackE s p z e=[]then 0 else 31
  | none=>1
def colT(s:Int)(p:Pce)(z:Int):List UInt8 :=
 if colX s p z=0 then
  match p.evs[z.toNat]? with
  | some e=>colS s p z e
  | none=>[]
 else []
section
variable {s:Int} {p:Pce} {z:Int}
theorem colX_sys(h:¬ (1≤s∧s≤4)):colX s p z=30∧colT s p z=[]:=by
 have:colX s p z=30:=if_pos h
 exact⟨this,by unfold colT;rw [this];rfl⟩
theorem colX_pce (h:1≤s∧s≤4)(h1:pceE p≠0):colX s p z=pceE p∧colT s p z=[]:=by
 have:colX s p z=pceE p:=by unfold colX;rw [if_neg (fun k=>k h),if_pos h1]
 exact⟨this,by unfold colT;rw [this,if_neg h1]⟩
theorem colX_arg (h:1≤s∧s≤4)(h1:¬ pceE p≠0)(h2:z<0∨(p.evs.length:Int)≤z):colX s p z=1∧colT s p z=[]:=by
 have:colX s p z=1:=by
  unfold colX
  rw [if_neg (fun k=>k h),if_neg h1]
  by_cases h3:z<0
  ·rw [if_pos h3]
  ·rw [if_neg h3,List.getElem?_eq_none (by omega)]
 exact⟨this,by unfold colT;rw [this];rfl⟩
theorem colX_no {i:Nat} (h:1≤s∧s≤4)(h1:¬ pceE p≠0)(h2:i<p.evs.length)(h3:¬ lackE s p i p.evs[i]=[]):colX s p i=31∧colT s p i=[]:=by
 have:colX s p i=31:=by
  unfold colX
  rw [if_neg (fun k=>k h),if_neg h1,if_neg (by omega),Int.toNat_natCast,List.getElem?_eq_getElem h2]
  exact if_neg h3
 exact⟨this,by unfold colT;rw [this];rfl⟩
theorem colX_ok {i:Nat} (h:1≤s∧s≤4)(h1:¬ pceE p≠0)(h2:i<p.evs.length)(h3:lackE s p i p.evs[i]=[]):colX s p i=0∧colT s p i=colS s p i p.evs[i]:=by
 have:colX s p i=0:=by
  unfold colX
  rw [if_neg (fun k=>k h),if_neg h1,if_neg (by omega),Int.toNat_natCast,List.getElem?_eq_getElem h2]
  exact if_pos h3
 exact⟨this,by unfold colT;rw [this,if_pos rfl,Int.toNat_natCast,List.getElem?_eq_getElem h2]⟩
end
theorem pColumn_FS (s:Int) (p:Pce) (hO:PcOk p) (z:Int):Ctr Tryz.prog 115 [.sc (.int .u8 s),ePce p,.sc (.int .i64 z)] (.tu [.sc (.string (bs (colT s p z))),.sc (.int .i64 (colX s p z))]):=by
 have hn3:=hO.n3
 refine Ctr.intro Tryz.func115 rfl Tryz.ntmps115 (Nat.le_of_ble_eq_true rfl) (bd_all rfl) fun w0 F0=>?_;dsimp only [St.init,number,Nat.reduceAdd]
 repeat refine W.go rfl ?_
 refine (?_:WL _ _ _ _ _ _)
 refine WL.vl rfl (WV.call rfl (callF Tryz.func122 rfl rfl) rfl rfl (of_FS s)) ?_
 repeat (first|refine W.go rfl ?_|refine WL.ev rfl ?_)
 refine (?_:W _ _ _ _ _)
 (refine W.cond rfl (fun hif=>?_) (fun hif=>?_)<;>(try simp only [decide_eq_true_eq,decide_eq_false_iff_not,Int.not_lt,Int.not_le,Bool.not_eq_true',Bool.not_eq_false'] at hif))
 ·have hs:¬ (1≤s∧s≤4):=by simpa using hif
  rw [(colX_sys hs).1,(colX_sys hs).2]
  repeat refine W.go rfl ?_
  refine (?_:W _ _ _ _ _)
  exact W.ret (fin2 rfl rfl rfl rfl rfl rfl rfl)
 have hs:1≤s∧s≤4:=by simpa using hif
 repeat refine W.go rfl ?_
 refine (?_:WL _ _ _ _ _ _)
 refine WL.vl rfl (WV.call rfl (callF Tryz.func52 rfl rfl) rfl rfl (pCheck_FS p hO)) ?_
 repeat (first|refine W.go rfl ?_|refine WL.ev rfl ?_)
 refine (?_:W _ _ _ _ _)
 (refine W.cond rfl (fun hif=>?_) (fun hif=>?_)<;>(try simp only [decide_eq_true_eq,decide_eq_false_iff_not,Int.not_lt,Int.not_le,Bool.not_eq_true',Bool.not_eq_false'] at hif))
 ·have h0:pceE p≠0:=by simpa using hif
  rw [(colX_pce hs h0).1,(colX_pce hs h0).2]
  repeat refine W.go rfl ?_
  refine (?_:W _ _ _ _ _)
  exact W.ret (fin2 rfl rfl rfl rfl rfl rfl rfl)
 have h0:pceE p=0:=by simpa using hif
 by_cases hz:z < 0∨(p.evs.length:Int)≤z
 ·rw [(colX_arg hs (fun h=>h h0) hz).1,(colX_arg hs (fun h=>h h0) hz).2]
  by_cases hz0:z < 0
  ·repeat (first|refine W.gob rfl ?_|refine WL.nil ?_|refine WL.bt rfl rfl rfl (by omega) ?_|refine WL.e1 rfl ?_|refine WL.opno rfl rfl rfl rfl rfl rfl rfl ?_|refine W.condT rfl ?_)
   refine (?_:W _ _ _ _ _)
   exact W.ret (fin2 rfl rfl rfl rfl rfl rfl rfl)
  ·repeat (first|refine W.gob rfl ?_|refine WL.nil ?_|refine WL.bt rfl rfl rfl (by omega) ?_|refine WL.bf rfl rfl rfl (by omega) ?_|refine WL.e1 rfl ?_|refine WL.gyes rfl rfl rfl rfl ?_|refine WL.len rfl rfl zql ?_|refine W.condT rfl ?_)
   refine (?_:W _ _ _ _ _)
   exact W.ret (fin2 rfl rfl rfl rfl rfl rfl rfl)
 obtain ⟨i,rfl⟩:=Int.eq_ofNat_of_zero_le (show 0≤z by omega)
 have hi:i < p.evs.length:=by omega
 have hll:=lackE_len s p i p.evs[i] (hO.n4 i hi)
 repeat (first|refine W.gob rfl ?_|refine WL.nil ?_|refine WL.bf rfl rfl rfl (by omega) ?_|refine WL.e1 rfl ?_|refine WL.gyes rfl rfl rfl rfl ?_|refine WL.len rfl rfl zql ?_|refine W.condF rfl ?_)
 refine (?_:WL _ _ _ _ _ _)
 refine WL.vl rfl (WV.call rfl (callF Tryz.func175 rfl rfl) rfl rfl (plack_FS s hs p i hi hO (stopsIn_of h0 i hi))) ?_
 by_cases hk:lackE s p i p.evs[i]=[]
 ·rw [(colX_ok hs (fun h=>h h0) hi hk).1,(colX_ok hs (fun h=>h h0) hi hk).2,hk]
  repeat (first|refine W.gob rfl ?_|refine WL.nil ?_|refine WL.e1 rfl ?_|refine WL.len rfl rfl zql ?_|refine W.condF rfl ?_)
  refine (?_:WL _ _ _ _ _ _)
  refine WL.vl rfl (WV.call rfl (callF Tryz.func124 rfl rfl) rfl rfl (column_FS s hs p i hi hO h0)) ?_
  repeat (first|refine WL.nil ?_|refine WL.e1 rfl ?_)
  refine (?_:W _ _ _ _ _)
  exact W.ret (fin2 rfl rfl rfl rfl rfl rfl rfl)
 ·rw [(colX_no hs (fun h=>h h0) hi hk).1,(colX_no hs (fun h=>h h0) hi hk).2]
  have hpos:0 < (lackE s p i p.evs[i]).length:=List.length_pos_iff.2 hk
  repeat (first|refine W.gob rfl ?_|refine WL.nil ?_|refine WL.bt rfl rfl rfl (by omega) ?_|refine WL.e1 rfl ?_|refine WL.len rfl rfl zql ?_|refine W.condT rfl ?_)
  refine (?_:W _ _ _ _ _)
  exact W.ret (fin2 rfl rfl rfl rfl rfl rfl rfl)
end
end Go.Proofs.YtgelfflighgajaaGreatDoor
