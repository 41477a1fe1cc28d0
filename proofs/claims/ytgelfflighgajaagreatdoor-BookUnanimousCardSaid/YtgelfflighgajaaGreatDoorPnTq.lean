/- Plain of the program: each sign written. -/
import Derived.Test.YtgelfflighgajaaGreatDoorLkETq
import Derived.Test.YtgelfflighgajaaGreatDoorOnTq
set_option maxHeartbeats 8000000
set_option maxRecDepth 100000
set_option linter.unusedVariables false
set_option linter.unusedSimpArgs false
namespace Go.Proofs.YtgelfflighgajaaGreatDoor
open Go.RowKit
theorem z41s {p : Prop} (h : p := by first | omega | (simp; done) | (simp; omega)) : p := h
theorem z41l {m n : Nat} (h : m = n := by first | exact List.length_map _ | exact List.length_replicate | rfl) : m = n := h
theorem z41t {C : Cx} {σ σ' : St} (ρ : Nat → Nat) (ht : TrT σ ρ σ'.nk σ'.t := by repeat (first | exact trivial | refine ⟨⟨?_, ?_⟩, ?_⟩ | rfl)) (hm : TrM σ ρ σ'.nk σ'.M := by repeat (first | exact trivial | refine ⟨⟨?_, ?_, ?_⟩, ?_⟩ | rfl)) (hi : (injB ρ (σ'.M.map (·.1)) && pinB ρ σ'.nk C.np) = true := by rfl) : Tr C σ σ' := Tr.ren ρ ht hm hi
theorem z41u {C : Cx} {σ σ' : St} (ρ : Nat → Nat) (hm : TrM σ ρ σ'.nk σ'.M) (hi : (injB ρ (σ'.M.map (·.1)) && pinB ρ σ'.nk C.np) = true) (ht : TrT σ ρ σ'.nk σ'.t := by repeat (first | exact trivial | refine ⟨⟨?_, ?_⟩, ?_⟩ | rfl)) : Tr C σ σ' := Tr.ren ρ ht hm hi
theorem Tr.nilLs {C:Cx} {σ:St} {t:Tmp} (n:Nat) (h:look t σ.t=some (.sc (.slice none 0 0))):Tr C σ (σ.put t (.ls n [])):=fun G a w ok=>by
 refine ⟨G,ok.sz,ok.df,fun i av hi=>?_,ok.bel,ok.fw,ok.f0,ok.f1,ok.ob,ok.my,ok.dj,ok.dF⟩
 by_cases e:i=t
 ·subst e
  rw [show look i (σ.put i (.ls n [])).t=some (.ls n []) from look_set_same] at hi
  cases hi
  obtain ⟨h1,h2,h3⟩:=ok.tm i _ h
  refine ⟨h1,.ls _ _,?_⟩
  rw [h3.sc_eq]
  exact .pu _ _ (.ls n [] none 0 ⟨0,0,none⟩ (fun _ _=>undef) (by simp) (by simp) (fun h=>absurd h (by simp)) (fun i r j av h=>by simp at h) (fun i r j av h=>by simp at h))
 ·rw [show look i (σ.put t (.ls n [])).t=look i σ.t from look_set_other e] at hi
  exact ok.tm i av hi
theorem of_FS (s:Int):Ctr Tryz.prog 122 [.sc (.int .u8 s)] (.tu [.sc (sysV s),.sc (.bool (decide (1≤s∧s≤4)))]):=by
 refine Ctr.of_sc (xs:=[.int .u8 s]) (v:=.tuple #[sysV s,.bool (decide (1≤s∧s≤4))]) rfl (fun F=>.tu _ _ rfl fun i av u a b=>?_) fun w=>?_
 ·match i with
  | 0=>cases a;cases b;exact .sc _
  | 1=>cases a;cases b;exact .sc _
  | i+2=>simp at a
 ·by_cases h:1≤s∧s≤4
  ·rcases sys_cases h with rfl|rfl|rfl|rfl
   ·exact (of_1 w).mono fun e w' ⟨he,hw⟩=>⟨he,hw ▸ Below.refl _ _⟩
   ·exact (of_2 w).mono fun e w' ⟨he,hw⟩=>⟨he,hw ▸ Below.refl _ _⟩
   ·exact (of_3 w).mono fun e w' ⟨he,hw⟩=>⟨he,hw ▸ Below.refl _ _⟩
   ·exact (of_4 w).mono fun e w' ⟨he,hw⟩=>⟨he,hw ▸ Below.refl _ _⟩
  ·have e:sysV s=.nilIface:=by
    unfold sysV
    rw [if_neg (by omega),if_neg (by omega),if_neg (by omega),if_neg (by omega)]
   rw [e,decide_eq_false h]
   exact (of_bad s w (by omega)).mono fun e w' ⟨he,hw⟩=>⟨he,hw ▸ Below.refl _ _⟩
theorem pCheck_FS (p:Pce) (hO:PcOk p):Ctr Tryz.prog 52 [ePce p] (.sc (.int .i64 (pceE p))) :=
 Ctr.of_pc (pre:=[]) (post:=[]) rfl rfl (fun _=>.sc _) fun w M hM=>pCheck_any M p w hM hO
def lksR(s:Int)(p:Pce):List Lck:=if(1≤s∧s≤4)∧pceE p=0 then lksTo s p p.evs.length else []
def lksE(s:Int)(p:Pce):Int:=if 1≤s∧s≤4 then pceE p else 30
theorem lks_bad {s:Int} {p:Pce} (h:¬ (1≤s∧s≤4)):lksR s p=[]∧lksE s p=30:=⟨if_neg fun x=>h x.1,if_neg h⟩
theorem lks_err {s:Int} {p:Pce} (h:1≤s∧s≤4)(h2:pceE p≠0):lksR s p=[]∧lksE s p=pceE p:=⟨if_neg fun x=>h2 x.2,if_pos h⟩
theorem lks_ok {s:Int} {p:Pce} (h:1≤s∧s≤4) (h2:pceE p=0):lksR s p=lksTo s p p.evs.length∧lksE s p=0:=⟨if_pos ⟨h,h2⟩,by rw [← h2];exact if_pos h⟩
theorem pLacks_FS (s:Int) (p:Pce) (hO:PcOk p):Ctr Tryz.prog 138 [.sc (.int .u8 s),ePce p] (.tu [.ls 3 ((lksR s p).map eLk),.sc (.int .i64 (lksE s p))]):=by
 refine Ctr.intro Tryz.func138 rfl Tryz.ntmps138 (Nat.le_of_ble_eq_true rfl) (bd_all rfl) fun w0 F0=>?_;dsimp only [St.init,number,Nat.reduceAdd]
 have hn3:=hO.n3
 repeat refine W.go rfl ?_
 refine (?_:WL _ _ _ _ _ _)
 refine WL.vl rfl (WV.call rfl (callF Tryz.func122 rfl rfl) rfl rfl (of_FS s)) ?_
 repeat (first|refine W.go rfl ?_|refine WL.ev rfl ?_)
 refine (?_:W _ _ _ _ _)
 (refine W.cond rfl (fun hif=>?_) (fun hif=>?_)<;>(try simp only [decide_eq_true_eq,decide_eq_false_iff_not,Int.not_lt,Int.not_le,Bool.not_eq_true',Bool.not_eq_false'] at hif))
 ·have hs:¬ (1≤s∧s≤4):=by simpa using hif
  rw [(lks_bad hs).1,(lks_bad hs).2]
  repeat refine W.go rfl ?_
  refine (?_:W _ _ _ _ _)
  refine W.tr (Tr.nilLs (t:=4) 3 rfl) ?_
  exact W.ret (fin2 rfl rfl rfl rfl rfl rfl rfl)
 have hs:1≤s∧s≤4:=by simpa using hif
 repeat refine W.go rfl ?_
 refine (?_:WL _ _ _ _ _ _)
 refine WL.vl rfl (WV.call rfl (callF Tryz.func52 rfl rfl) rfl rfl (pCheck_FS p hO)) ?_
 repeat (first|refine W.go rfl ?_|refine WL.ev rfl ?_)
 refine (?_:W _ _ _ _ _)
 (refine W.cond rfl (fun hif=>?_) (fun hif=>?_)<;>(try simp only [decide_eq_true_eq,decide_eq_false_iff_not,Int.not_lt,Int.not_le,Bool.not_eq_true',Bool.not_eq_false'] at hif))
 ·have h0:pceE p≠0:=by simpa using hif
  rw [(lks_err hs h0).1,(lks_err hs h0).2]
  repeat refine W.go rfl ?_
  refine (?_:W _ _ _ _ _)
  refine W.tr (Tr.nilLs (t:=4) 3 rfl) ?_
  exact W.ret (fin2 rfl rfl rfl rfl rfl rfl rfl)
 have h0:pceE p=0:=by simpa using hif
 rw [(lks_ok hs h0).1,(lks_ok hs h0).2]
 repeat (first|refine W.go rfl ?_|refine WL.ev rfl ?_|refine WL.len rfl rfl z41l ?_)
 refine (?_:W _ _ _ _ _)
 refine W.tr (Tr.nil (t:=9) 308 3 rfl rfl) ?_
 refine W.loop (fun k:Nat=>k≤p.evs.length) (fun k=>⟨[(3,.pt 0 0 0),(6,.sc (sysV s)),(9,.sl 1),(25,.sc (.int .i64 p.evs.length)),(26,.sc (.int .i64 k))],[(0,.box 28 (ePce p).cells),(1,.row 308 3 ((lksTo s p k).map eLk))],2⟩) (fun k=>p.evs.length - k) 0 (by omega) (z41t id) fun k hk=>?_
 repeat refine W.go rfl ?_
 refine (?_:W _ _ _ _ _)
 (refine W.cond rfl (fun hif=>?_) (fun hif=>?_)<;>(try simp only [decide_eq_true_eq,decide_eq_false_iff_not,Int.not_lt,Int.not_le,Bool.not_eq_true',Bool.not_eq_false'] at hif))
 ·have hk2:k < p.evs.length:=by omega
  have hl1:=lksTo_len s hO k hk
  have hl2:=lackE_len s p k p.evs[k] (hO.n4 k hk2)
  have hrow:(lksTo s p k).map eLk++(lackE s p k p.evs[k]).map eLk=(lksTo s p (k+1)).map eLk:=by rw [lksTo_at s p hk2,List.map_append]
  repeat refine W.go rfl ?_
  refine (?_:WL _ _ _ _ _ _)
  refine WL.vl rfl (WV.call rfl (callF Tryz.func175 rfl rfl) rfl rfl (plack_FS s hs p k hk2 hO (stopsIn_of h0 k hk2))) ?_
  repeat (first|refine W.go rfl ?_|refine WL.ev rfl ?_|refine WL.ar rfl rfl (by unfold I64;omega) ?_|refine WL.app rfl rfl rfl z41s ?_)
  exact ⟨k+1,by omega,by omega,z41u (fun q=>bif Nat.beq q 1 then 2 else q) (by repeat (first|exact trivial|refine ⟨⟨?_,?_,?_⟩,?_⟩|exact congrArg (fun r=>some (AO.row _ _ r)) hrow|rfl)) rfl⟩
 ·have he:k=p.evs.length:=by omega
  subst he
  repeat refine W.go rfl ?_
  refine (?_:W _ _ _ _ _)
  refine W.tr (Tr.freeze 1 rfl) ?_
  exact W.ret (fin2 rfl rfl rfl rfl rfl rfl rfl)
theorem pCan_FS (s:Int) (p:Pce) (hO:PcOk p):Ctr Tryz.prog 70 [.sc (.int .u8 s),ePce p] (.sc (.bool (lksE s p == 0 && ((lksR s p).length:Int) == 0))):=by
 refine Ctr.intro Tryz.func70 rfl Tryz.ntmps70 (Nat.le_of_ble_eq_true rfl) (bd_all rfl) fun w0 F0=>?_;dsimp only [St.init,number,Nat.reduceAdd]
 repeat refine W.go rfl ?_
 refine (?_:WL _ _ _ _ _ _)
 refine WL.vl rfl (WV.call rfl (callF Tryz.func138 rfl rfl) rfl rfl (pLacks_FS s p hO)) ?_
 repeat (first|refine W.go rfl ?_|refine WL.ev rfl ?_)
 refine (?_:WL _ _ _ _ _ _)
 have hl:(lksR s p).length≤27000:=by
  unfold lksR
  split
  ·exact lksTo_len s hO _ (Nat.le_refl _)
  ·simp
 refine WL.partG rfl rfl rfl rfl (fun hp=>?_) (fun hp=>?_)
 ·have e:lksE s p=0:=of_decide_eq_true hp
  repeat (first|refine WL.ev rfl ?_|refine WL.gyes rfl rfl rfl rfl ?_|refine WL.len rfl rfl z41l ?_)
  refine (?_:W _ _ _ _ _)
  refine W.ret (fin1 rfl rfl (sc_bool ?_) rfl)
  rw [e];rfl
 ·have e:lksE s p≠0:=of_decide_eq_false hp
  repeat (first|refine WL.ev rfl ?_|refine WL.opno rfl rfl rfl rfl rfl rfl rfl ?_)
  refine (?_:W _ _ _ _ _)
  refine W.ret (fin1 rfl rfl (sc_bool ?_) rfl)
  rw [show (lksE s p == 0)=false by simpa using e];rfl
end Go.Proofs.YtgelfflighgajaaGreatDoor
namespace Go.Proofs.YtgelfflighgajaaGreatDoor
open Go.RowKit
theorem eqs_sign (x:Int) (a b:Bool) (y:Int) (c d:Bool) (w:World):(Op.equalIn 10000 33 (.agg #[.int .i64 x,.bool a,.bool b]) (.agg #[.int .i64 y,.bool c,.bool d])).run Tryz.prog w=.ok (decide (x=y∧a=c∧b=d)) w:=by
 rw [run_equalIn_agg w 9999 _ _ _ (by kernel_rfl) (by kernel_rfl)]
 refine Eq.trans (congrArg (fun fs=>Sem.run _ (Op.eqFields 9999 _ _ fs) w) (rfl:(Tryz.prog.fieldsOf 33).toList=[_,_,_])) ?_
 by_cases h1:x=y
 ·subst h1
  cases a<;>cases b<;>cases c<;>cases d<;>simp [go_sem]
 ·simp [go_sem,h1]
theorem clnStp_FS (l:List Stp) (h:l.length≤100000):Ctr Tryz.prog 51 [.ls 5 (l.map eStp)] (.ls 5 (l.map eStp)):=by
 refine Ctr.intro Tryz.func51 rfl Tryz.ntmps51 (Nat.le_of_ble_eq_true rfl) (bd_all rfl) fun w0 F0=>?_;dsimp only [St.init,number,Nat.reduceAdd]
 repeat refine W.go rfl ?_
 refine (?_:WL _ _ _ _ _ _)
 refine WL.nlq rfl rfl fun b hb=>?_
 cases b with
 | true =>
  have e:=hb rfl
  repeat (first|refine W.go rfl ?_|refine WL.nil ?_|refine W.condT rfl ?_)
  refine (?_:W _ _ _ _ _)
  refine W.tr (Tr.nilR (t:=2) 5 rfl) ?_
  rw [e]
  exact W.ret (fin1 rfl rfl rfl rfl)
 | false =>
  repeat (first|refine W.go rfl ?_|refine WL.nil ?_|refine WL.ev rfl ?_|refine WL.app rfl rfl rfl z41s ?_|refine W.condF rfl ?_)
  refine (?_:W _ _ _ _ _)
  refine W.tr (Tr.freeze 1 rfl) ?_
  exact W.ret (fin1 rfl rfl rfl rfl)
theorem clnCrs_FS (l:List (Int×Int×Bool)) (h:l.length≤100000):Ctr Tryz.prog 204 [.ls 3 (l.map eCrs)] (.ls 3 (l.map eCrs)):=by
 refine Ctr.intro Tryz.func204 rfl Tryz.ntmps204 (Nat.le_of_ble_eq_true rfl) (bd_all rfl) fun w0 F0=>?_;dsimp only [St.init,number,Nat.reduceAdd]
 repeat refine W.go rfl ?_
 refine (?_:WL _ _ _ _ _ _)
 refine WL.nlq rfl rfl fun b hb=>?_
 cases b with
 | true =>
  have e:=hb rfl
  repeat (first|refine W.go rfl ?_|refine WL.nil ?_|refine W.condT rfl ?_)
  refine (?_:W _ _ _ _ _)
  refine W.tr (Tr.nilR (t:=2) 3 rfl) ?_
  rw [e]
  exact W.ret (fin1 rfl rfl rfl rfl)
 | false =>
  repeat (first|refine W.go rfl ?_|refine WL.nil ?_|refine WL.ev rfl ?_|refine WL.app rfl rfl rfl z41s ?_|refine W.condF rfl ?_)
  refine (?_:W _ _ _ _ _)
  refine W.tr (Tr.freeze 1 rfl) ?_
  exact W.ret (fin1 rfl rfl rfl rfl)
theorem clnInt_FS (l:List Int) (h:l.length≤100000):Ctr Tryz.prog 205 [.ls 1 (l.map eInt)] (.ls 1 (l.map eInt)):=by
 refine Ctr.intro Tryz.func205 rfl Tryz.ntmps205 (Nat.le_of_ble_eq_true rfl) (bd_all rfl) fun w0 F0=>?_;dsimp only [St.init,number,Nat.reduceAdd]
 repeat refine W.go rfl ?_
 refine (?_:WL _ _ _ _ _ _)
 refine WL.nlq rfl rfl fun b hb=>?_
 cases b with
 | true =>
  have e:=hb rfl
  repeat (first|refine W.go rfl ?_|refine WL.nil ?_|refine W.condT rfl ?_)
  refine (?_:W _ _ _ _ _)
  refine W.tr (Tr.nilR (t:=2) 1 rfl) ?_
  rw [e]
  exact W.ret (fin1 rfl rfl rfl rfl)
 | false =>
  repeat (first|refine W.go rfl ?_|refine WL.nil ?_|refine WL.ev rfl ?_|refine WL.app rfl rfl rfl z41s ?_|refine W.condF rfl ?_)
  refine (?_:W _ _ _ _ _)
  refine W.tr (Tr.freeze 1 rfl) ?_
  exact W.ret (fin1 rfl rfl rfl rfl)
theorem pCopied_FS (e:Ev) (h:e.stops.length≤100000):Ctr Tryz.prog 154 [.ag (eEv e)] (.ag (eEv e)):=by
 refine Ctr.intro Tryz.func154 rfl Tryz.ntmps154 (Nat.le_of_ble_eq_true rfl) (bd_all rfl) fun w0 F0=>?_;dsimp only [St.init,number,Nat.reduceAdd]
 repeat refine W.go rfl ?_
 refine (?_:WL _ _ _ _ _ _)
 refine WL.vl rfl (WV.call rfl (callF Tryz.func51 rfl rfl) rfl rfl (clnStp_FS e.stops h)) ?_
 repeat (first|refine W.go rfl ?_|refine WL.ev rfl ?_)
 refine (?_:W _ _ _ _ _)
 exact W.ret (fin_cell rfl rfl rfl rfl rfl rfl rfl rfl)
def nxS(s:Int×Bool×Bool)(e:Ev):Int×Bool×Bool:=if e.val=0∧e.dot=false∧e.three=false then s else(e.val,e.dot,e.three)
theorem plain1_FS (e:Ev) (s:Int×Bool×Bool) :
  Cto truB 0 Tryz.prog 88 [.ag (eEv e),.pt 0 0 0] [(0,.box 33 (eSig s))] 1 (.ag (eEv (sgW e (nxS s e)))) [(0,.box 33 (eSig (nxS s e))),(1,.box 36 (eEv (sgW e (nxS s e))))] 2:=by
 refine Cto.intro truS Tryz.func88 rfl Tryz.ntmps88 (Nat.le_of_ble_eq_true rfl) rfl fun w0 F0 fp pg hB=>?_
 dsimp only [number,Nat.reduceAdd]
 obtain ⟨n,hn⟩:∃ n,nxS s e=n:=⟨_,rfl⟩
 have hn0:=hn
 unfold nxS at hn0
 rw [hn]
 repeat refine W.go rfl ?_
 refine (?_:WL _ _ _ _ _ _)
 refine WL.vl rfl (WV.ane rfl rfl rfl rfl rfl (by kernel_rfl) (fun w=>eqs_sign _ _ _ _ _ _ w)) ?_
 repeat refine WL.nil ?_
 refine (?_:W _ _ _ _ _)
 (refine W.cond rfl (fun hif=>?_) (fun hif=>?_)<;>(try simp only [decide_eq_true_eq,decide_eq_false_iff_not,Int.not_lt,Int.not_le,Bool.not_eq_true',Bool.not_eq_false'] at hif))
 ·rw [if_neg (by simpa using hif)] at hn0
  subst hn0
  repeat refine W.go rfl ?_
  refine (?_:W _ _ _ _ _)
  refine W.tr (σ':=⟨[(3,.pt 1 0 0)],[(0,.box 33 (eSig (e.val,e.dot,e.three))),(1,.box 36 (eEv (sgW e (e.val,e.dot,e.three))))],2⟩) (z41u (fun q=>bif Nat.beq q 1 then 2 else q) (by repeat (first|exact trivial|refine ⟨⟨?_,?_,?_⟩,?_⟩|rfl|exact congrArg (fun q=>some (AO.row _ _ q)) (by first|rfl|(simp;done)|(simp [eInt];done)|(simp [eLk];done)))) rfl) ?_
  exact W.ret (finM rfl rfl rfl rfl rfl)
 ·rw [if_pos (by simpa using hif)] at hn0
  subst hn0
  repeat refine W.go rfl ?_
  refine (?_:W _ _ _ _ _)
  refine W.tr (σ':=⟨[(3,.pt 1 0 0)],[(0,.box 33 (eSig s)),(1,.box 36 (eEv (sgW e s)))],2⟩) (z41u (fun q=>bif Nat.beq q 1 then 2 else q) (by repeat (first|exact trivial|refine ⟨⟨?_,?_,?_⟩,?_⟩|rfl|exact congrArg (fun q=>some (AO.row _ _ q)) (by first|rfl|(simp;done)|(simp [eInt];done)|(simp [eLk];done)))) rfl) ?_
  exact W.ret (finM rfl rfl rfl rfl rfl)
theorem rewr1_FS (e:Ev) (s:Int×Bool×Bool) (h:e.stops.length≤100000) :
  Cto truB 0 Tryz.prog 153 [.ag (eEv e),.pt 1 0 0] [(0,.box 33 (eSig s)),(1,.box 157 [.fn 88 [.pt 0 0 0]])] 2 (.ag (eEv (sgW e (nxS s e))))
   [(0,.box 33 (eSig (nxS s e))),(1,.box 157 [.fn 88 [.pt 0 0 0]]),(2,.box 36 (eEv (sgW e (nxS s e))))] 3:=by
 refine Cto.intro truS Tryz.func153 rfl Tryz.ntmps153 (Nat.le_of_ble_eq_true rfl) rfl fun w0 F0 fp pg hB=>?_
 dsimp only [number,Nat.reduceAdd]
 repeat refine W.go rfl ?_
 refine (?_:W _ _ _ _ _)
 refine W.of_wa (by kernel_rfl) ?_
 refine WA.ds [false,false,false,true,true] [1,2] (by kernel_rfl) (by kernel_rfl) ⟨rfl,rfl,trivial⟩ ?_
 refine DSK.st rfl rfl ?_
 refine DSK.st rfl rfl ?_
 refine DSK.v0 rfl (WV.call rfl (callF Tryz.func154 rfl rfl) rfl rfl (pCopied_FS e h)) ?_
 refine DSK.ct (truH _) [0] rfl rfl (callF Tryz.func88 rfl rfl) (plain1_FS e s) rfl rfl rfl ⟨⟨rfl,rfl,rfl⟩,trivial⟩ rfl rfl rfl rfl ⟨rfl,rfl,trivial⟩ ?_
 refine DSK.sto rfl rfl rfl rfl rfl rfl rfl rfl rfl rfl rfl rfl rfl rfl ⟨rfl,rfl,trivial⟩ ?_
 refine DSK.nil ?_
 refine (?_:W _ _ _ _ _)
 refine W.tr (σ':=⟨[(3,.pt 2 0 0)],[(0,.box 33 (eSig (nxS s e))),(1,.box 157 [.fn 88 [.pt 0 0 0]]),(2,.box 36 (eEv (sgW e (nxS s e))))],3⟩) (z41u (fun q=>bif Nat.beq q 2 then 3 else q) (by repeat (first|exact trivial|refine ⟨⟨?_,?_,?_⟩,?_⟩|rfl|exact congrArg (fun q=>some (AO.row _ _ q)) (by first|rfl|(simp;done)|(simp [eInt];done)|(simp [eLk];done)))) rfl) ?_
 exact W.ret (finM rfl rfl rfl rfl rfl)
def nxK (evs:List Ev):Nat→Int×Bool×Bool
 | 0=>(0,false,false)
 | k+1=>match evs[k]? with
  | some e=>nxS (nxK evs k) e
  | none=>nxK evs k
theorem nxK_at {evs:List Ev} {k:Nat} (h:k<evs.length):nxK evs (k+1)=nxS (nxK evs k) evs[k]:=by
 show (match evs[k]? with|some e=>_|none=>_)=_
 rw [List.getElem?_eq_getElem h]
theorem nxK_eq {evs:List Ev} (hz:∀ k (h:k<evs.length),evs[k].val=0→evs[k].dot=false∧evs[k].three=false):∀ k,k≤evs.length→nxK evs k=sgF evs k
 | 0,_=>rfl
 | k+1,h=>by
  have hk:k<evs.length:=by omega
  rw [nxK_at hk,sgF_at hk,nxK_eq hz k (by omega)]
  unfold nxS
  by_cases hv:evs[k].val=0
  ·rw [if_pos hv,if_pos ⟨hv,hz k hk hv⟩]
  ·rw [if_neg hv,if_neg (fun h=>hv h.1)]
theorem mapped_FS (evs:List Ev) (hn:evs.length≤1000) (h20:∀ k (h:k < evs.length),evs[k].stops.length≤20) (hz:∀ k (h:k < evs.length),evs[k].val=0→evs[k].dot=false∧evs[k].three=false) :
  Cto truB 0 Tryz.prog 152 [.ls 6 (evs.map eEv),.fn 153 [.pt 1 0 0]] [(0,.box 33 (eSig (0,false,false))),(1,.box 157 [.fn 88 [.pt 0 0 0]])] 2 (.ls 6 ((plN evs evs.length).map eEv))
   [(0,.box 33 (eSig (sgF evs evs.length))),(1,.box 157 [.fn 88 [.pt 0 0 0]])] 2:=by
 have hK:=nxK_eq hz
 refine Cto.intro truS Tryz.func152 rfl Tryz.ntmps152 (Nat.le_of_ble_eq_true rfl) rfl fun w0 F0 fp pg hB=>?_
 dsimp only [number,Nat.reduceAdd]
 repeat (first|refine W.go rfl ?_|refine WL.ev rfl ?_|refine WL.len rfl rfl z41l ?_)
 refine (?_:W _ _ _ _ _)
 first|refine W.tr (Tr.nil (t:=5) 36 6 rfl rfl) ?_|refine WL.tr (Tr.nil (t:=5) 36 6 rfl rfl) ?_
 dsimp only [St.put,St.new,St.upd,Nat.reduceAdd]
 refine (?_:W _ _ _ _ _)
 refine W.loop (fun k:Nat=>k≤evs.length) (fun k=>⟨[(1,.fn 153 [.pt 1 0 0]),(5,.sl 2),(8,.ls 6 (evs.map eEv)),(9,.sc (.int .i64 evs.length)),(10,.sc (.int .i64 k))],[(0,.box 33 (eSig (sgF evs k))),(1,.box 157 [.fn 88 [.pt 0 0 0]]),(2,.row 36 6 ((plN evs k).map eEv))],3⟩) (fun k=>evs.length - k) 0 (by omega) (z41t id) fun k hk=>?_
 have hl:=plN_length hk
 by_cases hlt:k < evs.length
 ·have hC:=rewr1_FS evs[k] (sgF evs k) (by have:=h20 k hlt;omega)
  have hnx:nxS (sgF evs k) evs[k]=sgF evs (k+1):=by rw [← hK k hk,← hK (k+1) (by omega),nxK_at hlt]
  have hrow:(plN evs k).map eEv++[eEv (sgW evs[k] (sgF evs (k+1)))]=(plN evs (k+1)).map eEv:=by rw [plN_at hlt];simp
  rw [hnx] at hC
  obtain ⟨PL,hPL⟩:∃ z,plN evs k=z:=⟨_,rfl⟩
  rw [hPL] at hl hrow ⊢
  obtain ⟨S1,hS1⟩:∃ z,sgF evs (k+1)=z:=⟨_,rfl⟩
  rw [hS1] at hC hrow
  obtain ⟨S0,hS0⟩:∃ z,sgF evs k=z:=⟨_,rfl⟩
  rw [hS0] at hC ⊢
  repeat (first|refine W.gob rfl ?_|refine WL.nil ?_|refine WL.bt rfl rfl rfl (by omega) ?_|refine WL.e1 rfl ?_|refine WL.idx rfl rfl (by omega) (by first|exact map_at (by omega)|exact map_atZ (by omega) (by omega)) ?_|refine W.condT rfl ?_)
  refine (?_:WL _ _ _ _ _ _)
  refine WL.cto (truH _) [0,1] rfl rfl (callF Tryz.func153 rfl rfl) hC rfl rfl rfl ⟨⟨rfl,rfl,rfl⟩,⟨rfl,rfl,rfl⟩,trivial⟩ rfl rfl rfl rfl ?_
  repeat (first|refine W.go rfl ?_|refine WL.ev rfl ?_|refine WL.ar rfl rfl (by unfold I64;omega) ?_|refine WL.app rfl rfl rfl z41s ?_)
  refine ⟨k+1,by omega,by omega,?_⟩
  rw [hS1]
  exact (z41u (fun q=>bif Nat.beq q 2 then 6 else q) (by repeat (first|exact trivial|refine ⟨⟨?_,?_,?_⟩,?_⟩|rfl|exact congrArg (fun q=>some (AO.row _ _ q)) hrow)) rfl)
 ·obtain rfl:k=evs.length:=by omega
  repeat (first|refine W.gob rfl ?_|refine WL.nil ?_|refine WL.bf rfl rfl rfl (by omega) ?_|refine WL.e1 rfl ?_|refine W.condF rfl ?_)
  refine (?_:W _ _ _ _ _)
  refine W.tr (Tr.freeze 2 rfl) ?_
  refine W.tr (σ':=⟨[(4,.ls 6 ((plN evs evs.length).map eEv))],[(0,.box 33 (eSig (sgF evs evs.length))),(1,.box 157 [.fn 88 [.pt 0 0 0]])],2⟩) (z41t id) ?_
  exact W.ret (finM rfl rfl rfl rfl rfl)
theorem copiedIns_FS (cs:List (Int×Int×Bool)) (st:List Int) (h1:cs.length≤64) (h2:st.length≤64):Ctr Tryz.prog 151 [.ag (eIns cs st)] (.ag (eIns cs st)):=by
 refine Ctr.intro Tryz.func151 rfl Tryz.ntmps151 (Nat.le_of_ble_eq_true rfl) (bd_all rfl) fun w0 F0=>?_;dsimp only [St.init,number,Nat.reduceAdd]
 repeat refine W.go rfl ?_
 refine (?_:W _ _ _ _ _)
 refine W.of_wa (by kernel_rfl) ?_
 refine WA.ds [false,false,false,false,false,false,false,true] [0] (by kernel_rfl) (by kernel_rfl) ⟨rfl,trivial⟩ ?_
 refine DSK.st rfl rfl ?_
 refine DSK.st rfl rfl ?_
 refine DSK.v0 rfl (WV.call rfl (callF Tryz.func204 rfl rfl) rfl rfl (clnCrs_FS cs (by omega))) ?_
 refine DSK.st rfl rfl ?_
 refine DSK.st rfl rfl ?_
 refine DSK.v0 rfl (WV.call rfl (callF Tryz.func205 rfl rfl) rfl rfl (clnInt_FS st (by omega))) ?_
 refine DSK.st rfl rfl ?_
 refine DSK.sto rfl rfl rfl rfl rfl rfl rfl rfl rfl rfl rfl rfl rfl rfl ⟨rfl,trivial⟩ ?_
 refine DSK.nil ?_
 refine (?_:W _ _ _ _ _)
 exact W.ret (fin_cell rfl rfl rfl rfl rfl rfl rfl rfl)
theorem rewritten_FS (p:Pce) (hO:PcOk p) :
  Cto truB 0 Tryz.prog 87 [ePce p,.fn 88 [.pt 0 0 0]] [(0,.box 33 (eSig (0,false,false)))] 1 (.tu [ePce (plP p),.sc (.int .i64 (pceE p))])
   [(0,.box 33 (eSig (if pceE p=0 then sgF p.evs p.evs.length else (0,false,false)))),(1,.box 28 (ePce (plP p)).cells)] 2:=by
 have hC:=pCheck_FS p hO
 by_cases h0:pceE p=0
 rotate_left
 ·have e1:plP p=noP:=if_neg h0
  rw [e1,if_neg h0]
  obtain ⟨E,hE⟩:∃ E,pceE p=E:=⟨_,rfl⟩
  rw [hE] at hC h0 ⊢
  refine Cto.intro truS Tryz.func87 rfl Tryz.ntmps87 (Nat.le_of_ble_eq_true rfl) rfl fun w0 F0 fp pg hB=>?_
  dsimp only [number,Nat.reduceAdd]
  repeat refine W.go rfl ?_
  refine (?_:WL _ _ _ _ _ _)
  refine WL.vl rfl (WV.call rfl (callF Tryz.func52 rfl rfl) rfl rfl hC) ?_
  repeat (first|refine W.gob rfl ?_|refine WL.nil ?_|refine WL.nt rfl rfl rfl (by omega) ?_|refine WL.e1 rfl ?_|refine W.condT rfl ?_)
  refine (?_:W _ _ _ _ _)
  refine W.tr (Tr.nilC 3 0 3 rfl rfl rfl) ?_
  refine W.tr (Tr.nilC 3 1 1 rfl rfl rfl) ?_
  refine W.tr (Tr.nilC 3 2 6 rfl rfl rfl) ?_
  refine W.tr (σ':=⟨[(4,.pt 1 0 0),(5,.sc (.int .i64 E))],[(0,.box 33 (eSig (0,false,false))),(1,.box 28 (ePce noP).cells)],2⟩) (z41u (fun q=>bif Nat.beq q 1 then 3 else q) (by repeat (first|exact trivial|refine ⟨⟨?_,?_,?_⟩,?_⟩|rfl|exact congrArg (fun q=>some (AO.row _ _ q)) (by first|rfl|(simp;done)|(simp [eInt];done)|(simp [eLk];done)))) rfl) ?_
  exact W.ret (finM rfl rfl rfl rfl rfl)
 have e1:plP p=⟨p.cs,p.st,plN p.evs p.evs.length⟩:=if_pos h0
 have hz:∀ k (h:k < p.evs.length),p.evs[k].val=0→p.evs[k].dot=false∧p.evs[k].three=false:=fun k h hv=>by
  have hok:=(evOk_of h0 h).sg
  unfold sgOk at hok
  rw [hv] at hok
  simpa using hok
 have hn3:=hO.n3
 have hM:=mapped_FS p.evs (by omega) hO.n4 hz
 have hI:=copiedIns_FS p.cs p.st hO.n1 hO.n2
 rw [e1,if_pos h0,h0]
 rw [h0] at hC
 refine Cto.intro truS Tryz.func87 rfl Tryz.ntmps87 (Nat.le_of_ble_eq_true rfl) rfl fun w0 F0 fp pg hB=>?_
 dsimp only [number,Nat.reduceAdd]
 repeat refine W.go rfl ?_
 refine (?_:WL _ _ _ _ _ _)
 refine WL.vl rfl (WV.call rfl (callF Tryz.func52 rfl rfl) rfl rfl hC) ?_
 repeat (first|refine W.gob rfl ?_|refine WL.nil ?_|refine WL.nf rfl rfl rfl (by omega) ?_|refine WL.e1 rfl ?_|refine W.condF rfl ?_)
 refine (?_:WL _ _ _ _ _ _)
 refine WL.vl rfl (WV.call rfl (callF Tryz.func151 rfl rfl) rfl rfl hI) ?_
 repeat (first|refine W.go rfl ?_|refine WL.ev rfl ?_)
 refine (?_:WL _ _ _ _ _ _)
 refine WL.vl rfl (WV.mkf rfl rfl) ?_
 refine WL.cto (truH _) [0,2] rfl rfl (callF Tryz.func152 rfl rfl) hM rfl rfl rfl ⟨⟨rfl,rfl,rfl⟩,⟨rfl,rfl,rfl⟩,trivial⟩ rfl rfl rfl rfl ?_
 repeat (first|refine W.go rfl ?_|refine WL.ev rfl ?_)
 refine (?_:W _ _ _ _ _)
 refine W.tr (σ':=⟨[(4,.pt 1 0 0),(5,.sc (.int .i64 0))],[(0,.box 33 (eSig (sgF p.evs p.evs.length))),(1,.box 28 (ePce ⟨p.cs,p.st,plN p.evs p.evs.length⟩).cells)],2⟩) (z41u (fun q=>bif Nat.beq q 1 then 3 else q) (by repeat (first|exact trivial|refine ⟨⟨?_,?_,?_⟩,?_⟩|rfl|exact congrArg (fun q=>some (AO.row _ _ q)) (by first|rfl|(simp;done)|(simp [eInt];done)|(simp [eLk];done)))) rfl) ?_
 exact W.ret (finM rfl rfl rfl rfl rfl)
theorem pPlain_FS (p:Pce) (hO:PcOk p):Ctr Tryz.prog 40 [ePce p] (.tu [ePce (plP p),.sc (.int .i64 (pceE p))]):=by
 have hR:=rewritten_FS p hO
 refine Ctr.intro Tryz.func40 rfl Tryz.ntmps40 (Nat.le_of_ble_eq_true rfl) (bd_all rfl) fun w0 F0=>?_;dsimp only [St.init,number,Nat.reduceAdd]
 repeat refine W.go rfl ?_
 refine (?_:WL _ _ _ _ _ _)
 refine WL.vl rfl (WV.mkf rfl rfl) ?_
 refine WL.cto (truH _) [2] rfl rfl (callF Tryz.func87 rfl rfl) hR rfl rfl rfl ⟨⟨rfl,rfl,rfl⟩,trivial⟩ rfl rfl rfl rfl ?_
 repeat refine WL.ev rfl ?_
 refine (?_:W _ _ _ _ _)
 exact W.ret (finN rfl rfl rfl rfl)
end Go.Proofs.YtgelfflighgajaaGreatDoor
