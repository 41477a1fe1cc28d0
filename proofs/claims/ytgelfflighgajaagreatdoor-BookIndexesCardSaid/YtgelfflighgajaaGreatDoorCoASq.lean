/- The column of an event: the program, over trees. -/
import Derived.Test.YtgelfflighgajaaGreatDoorLkESq
import Derived.Test.YtgelfflighgajaaGreatDoorEH0Sq
set_option maxHeartbeats 4000000
set_option maxRecDepth 100000
set_option linter.unusedVariables false
set_option linter.unusedSimpArgs false
namespace Go.Proofs.YtgelfflighgajaaGreatDoor
section
open Go.RowKit
theorem z9s {p:Prop} (h:p:=by first|omega|(simp;done)|(simp;omega)):p:=h
theorem Tr.nilLs {C:Cx} {σ:St} {t:Tmp} (n:Nat) (h:look t σ.t=some (.sc (.slice none 0 0))):Tr C σ (σ.put t (.ls n [])):=fun G a w ok=>by
 refine ⟨G,ok.sz,ok.df,fun i av hi=>?_,ok.bel,ok.fw,ok.f0,ok.f1,ok.ob,ok.my,ok.dj,ok.dF⟩
 by_cases e:i=t
 ·subst e
  rw [show look i (σ.put i (.ls n [])).t=some (.ls n []) from look_set_same] at hi
  cases hi
  obtain ⟨h1,h2,h3⟩:=ok.tm i _ h
  refine ⟨h1,.ls _ _,?_⟩
  rw [h3.sc_eq]
  exact .pu _ _ (.ls n [] none 0 ⟨0,0,none⟩ (fun _ _=>undef) (by simp) (by simp) (fun h=>absurd h (by simp)) (fun i r j av h=>by simp at h) (fun i r j av h=>by simp at h))
 ·rw [show look i (σ.put t (.ls n [])).t=look i σ.t from look_set_other e] at hi
  exact ok.tm i av hi
theorem of_FS (s:Int):Ctr Tryz.prog 122 [.sc (.int .u8 s)] (.tu [.sc (sysV s),.sc (.bool (decide (1≤s∧s≤4)))]):=by
 refine Ctr.of_sc (xs:=[.int .u8 s]) (v:=.tuple #[sysV s,.bool (decide (1≤s∧s≤4))]) rfl (fun F=>.tu _ _ rfl fun i av u a b=>?_) fun w=>?_
 ·match i with
  | 0=>cases a;cases b;exact .sc _
  | 1=>cases a;cases b;exact .sc _
  | i+2=>simp at a
 ·by_cases h:1≤s∧s≤4
  ·rcases sys_cases h with rfl|rfl|rfl|rfl
   ·exact (of_1 w).mono fun e w' ⟨he,hw⟩=>⟨he,hw ▸ Below.refl _ _⟩
   ·exact (of_2 w).mono fun e w' ⟨he,hw⟩=>⟨he,hw ▸ Below.refl _ _⟩
   ·exact (of_3 w).mono fun e w' ⟨he,hw⟩=>⟨he,hw ▸ Below.refl _ _⟩
   ·exact (of_4 w).mono fun e w' ⟨he,hw⟩=>⟨he,hw ▸ Below.refl _ _⟩
  ·have e:sysV s=.nilIface:=by
    unfold sysV
    rw [if_neg (by omega),if_neg (by omega),if_neg (by omega),if_neg (by omega)]
   rw [e,decide_eq_false h]
   exact (of_bad s w (by omega)).mono fun e w' ⟨he,hw⟩=>⟨he,hw ▸ Below.refl _ _⟩
theorem pCheck_FS (p:Pce) (hO:PcOk p):Ctr Tryz.prog 52 [ePce p] (.sc (.int .i64 (pceE p))) :=
 Ctr.of_pc (pre:=[]) (post:=[]) rfl rfl (fun _=>.sc _) fun w M hM=>pCheck_any M p w hM hO
def lksR(s:Int)(p:Pce):List Lck:=if(1≤s∧s≤4)∧pceE p=0 then lksTo s p p.evs.length else []
def lksE(s:Int)(p:Pce):Int:=if 1≤s∧s≤4 then pceE p else 30
theorem lks_bad {s:Int} {p:Pce} (h:¬ (1≤s∧s≤4)):lksR s p=[]∧lksE s p=30:=⟨if_neg fun x=>h x.1,if_neg h⟩
theorem lks_err {s:Int} {p:Pce} (h:1≤s∧s≤4)(h2:pceE p≠0):lksR s p=[]∧lksE s p=pceE p:=⟨if_neg fun x=>h2 x.2,if_pos h⟩
theorem lks_ok {s:Int} {p:Pce} (h:1≤s∧s≤4) (h2:pceE p=0):lksR s p=lksTo s p p.evs.length∧lksE s p=0:=⟨if_pos ⟨h,h2⟩,by rw [← h2];exact if_pos h⟩
theorem pLacks_FS (s:Int) (p:Pce) (hO:PcOk p):Ctr Tryz.prog 138 [.sc (.int .u8 s),ePce p] (.tu [.ls 3 ((lksR s p).map eLk),.sc (.int .i64 (lksE s p))]):=by
 refine Ctr.intro Tryz.func138 rfl Tryz.ntmps138 (Nat.le_of_ble_eq_true rfl) (bd_all rfl) fun w0 F0=>?_;dsimp only [St.init,number,Nat.reduceAdd]
 have hn3:=hO.n3
 repeat refine W.go rfl ?_
 refine (?_:WL _ _ _ _ _ _)
 refine WL.vl rfl (WV.call rfl (callF Tryz.func122 rfl rfl) rfl rfl (of_FS s)) ?_
 repeat (first|refine W.go rfl ?_|refine WL.ev rfl ?_)
 refine (?_:W _ _ _ _ _)
 (refine W.cond rfl (fun hif=>?_) (fun hif=>?_)<;>(try simp only [decide_eq_true_eq,decide_eq_false_iff_not,Int.not_lt,Int.not_le,Bool.not_eq_true',Bool.not_eq_false'] at hif))
 ·have hs:¬ (1≤s∧s≤4):=by simpa using hif
  rw [(lks_bad hs).1,(lks_bad hs).2]
  repeat refine W.go rfl ?_
  refine (?_:W _ _ _ _ _)
  refine W.tr (Tr.nilLs (t:=4) 3 rfl) ?_
  exact W.ret (fin2 rfl rfl rfl rfl rfl rfl rfl)
 have hs:1≤s∧s≤4:=by simpa using hif
 repeat refine W.go rfl ?_
 refine (?_:WL _ _ _ _ _ _)
 refine WL.vl rfl (WV.call rfl (callF Tryz.func52 rfl rfl) rfl rfl (pCheck_FS p hO)) ?_
 repeat (first|refine W.go rfl ?_|refine WL.ev rfl ?_)
 refine (?_:W _ _ _ _ _)
 (refine W.cond rfl (fun hif=>?_) (fun hif=>?_)<;>(try simp only [decide_eq_true_eq,decide_eq_false_iff_not,Int.not_lt,Int.not_le,Bool.not_eq_true',Bool.not_eq_false'] at hif))
 ·have h0:pceE p≠0:=by simpa using hif
  rw [(lks_err hs h0).1,(lks_err hs h0).2]
  repeat refine W.go rfl ?_
  refine (?_:W _ _ _ _ _)
  refine W.tr (Tr.nilLs (t:=4) 3 rfl) ?_
  exact W.ret (fin2 rfl rfl rfl rfl rfl rfl rfl)
 have h0:pceE p=0:=by simpa using hif
 rw [(lks_ok hs h0).1,(lks_ok hs h0).2]
 repeat (first|refine W.go rfl ?_|refine WL.ev rfl ?_|refine WL.len rfl rfl zql ?_)
 refine (?_:W _ _ _ _ _)
 refine W.tr (Tr.nil (t:=9) 308 3 rfl rfl) ?_
 refine W.loop (fun k:Nat=>k≤p.evs.length) (fun k=>⟨[(3,.pt 0 0 0),(6,.sc (sysV s)),(9,.sl 1),(25,.sc (.int .i64 p.evs.length)),(26,.sc (.int .i64 k))],[(0,.box 28 (ePce p).cells),(1,.row 308 3 ((lksTo s p k).map eLk))],2⟩) (fun k=>p.evs.length - k) 0 (by omega) (zqt id) fun k hk=>?_
 repeat refine W.go rfl ?_
 refine (?_:W _ _ _ _ _)
 (refine W.cond rfl (fun hif=>?_) (fun hif=>?_)<;>(try simp only [decide_eq_true_eq,decide_eq_false_iff_not,Int.not_lt,Int.not_le,Bool.not_eq_true',Bool.not_eq_false'] at hif))
 ·have hk2:k < p.evs.length:=by omega
  have hl1:=lksTo_len s hO k hk
  have hl2:=lackE_len s p k p.evs[k] (hO.n4 k hk2)
  have hrow:(lksTo s p k).map eLk++(lackE s p k p.evs[k]).map eLk=(lksTo s p (k+1)).map eLk:=by rw [lksTo_at s p hk2,List.map_append]
  repeat refine W.go rfl ?_
  refine (?_:WL _ _ _ _ _ _)
  refine WL.vl rfl (WV.call rfl (callF Tryz.func175 rfl rfl) rfl rfl (plack_FS s hs p k hk2 hO (stopsIn_of h0 k hk2))) ?_
  repeat (first|refine W.go rfl ?_|refine WL.ev rfl ?_|refine WL.ar rfl rfl (by unfold I64;omega) ?_|refine WL.app rfl rfl rfl z9s ?_)
  exact ⟨k+1,by omega,by omega,zqu (fun q=>bif Nat.beq q 1 then 2 else q) (by repeat (first|exact trivial|refine ⟨⟨?_,?_,?_⟩,?_⟩|exact congrArg (fun r=>some (AO.row _ _ r)) hrow|rfl)) rfl⟩
 ·have he:k=p.evs.length:=by omega
  subst he
  repeat refine W.go rfl ?_
  refine (?_:W _ _ _ _ _)
  refine W.tr (Tr.freeze 1 rfl) ?_
  exact W.ret (fin2 rfl rfl rfl rfl rfl rfl rfl)
theorem pCan_FS (s:Int) (p:Pce) (hO:PcOk p):Ctr Tryz.prog 70 [.sc (.int .u8 s),ePce p] (.sc (.bool (lksE s p == 0 && ((lksR s p).length:Int) == 0))):=by
 refine Ctr.intro Tryz.func70 rfl Tryz.ntmps70 (Nat.le_of_ble_eq_true rfl) (bd_all rfl) fun w0 F0=>?_;dsimp only [St.init,number,Nat.reduceAdd]
 repeat refine W.go rfl ?_
 refine (?_:WL _ _ _ _ _ _)
 refine WL.vl rfl (WV.call rfl (callF Tryz.func138 rfl rfl) rfl rfl (pLacks_FS s p hO)) ?_
 repeat (first|refine W.go rfl ?_|refine WL.ev rfl ?_)
 refine (?_:WL _ _ _ _ _ _)
 have hl:(lksR s p).length≤27000:=by
  unfold lksR
  split
  ·exact lksTo_len s hO _ (Nat.le_refl _)
  ·simp
 refine WL.partG rfl rfl rfl rfl (fun hp=>?_) (fun hp=>?_)
 ·have e:lksE s p=0:=of_decide_eq_true hp
  repeat (first|refine WL.ev rfl ?_|refine WL.gyes rfl rfl rfl rfl ?_|refine WL.len rfl rfl zql ?_)
  refine (?_:W _ _ _ _ _)
  refine W.ret (fin1 rfl rfl (sc_bool ?_) rfl)
  rw [e];rfl
 ·have e:lksE s p≠0:=of_decide_eq_false hp
  repeat (first|refine WL.ev rfl ?_|refine WL.opno rfl rfl rfl rfl rfl rfl rfl ?_)
  refine (?_:W _ _ _ _ _)
  refine W.ret (fin1 rfl rfl (sc_bool ?_) rfl)
  rw [show (lksE s p == 0)=false by simpa using e];rfl
end
section
open Go.RowKit
def wants(s c f r g h L:Int):List Int :=
 if rS s c f=[]then [1]else(if okR s r=true then []else [2])++(if okG s g=true then []else [3])++(if okH s h L=true then []else [4])
theorem wants_FS (s c f r g h L:Int) (hs:1≤s∧s≤4) (hc:1≤c∧c≤14) (hf:0≤f∧f≤18) (hr:0≤r∧r≤3) (hg:0≤g∧g≤4) (hh:0≤h∧h≤99) :
  Ctr Tryz.prog 200 [.sc (.int .u8 s),.ag (eStp (c,f,r,g,h)),.sc (.int .i64 L)] (.ls 1 ((wants s c f r g h L).map eInt)):=by
 refine Ctr.intro Tryz.func200 rfl Tryz.ntmps200 (Nat.le_of_ble_eq_true rfl) (bd_all rfl) fun w0 F0=>?_;dsimp only [St.init,number,Nat.reduceAdd]
 repeat refine W.go rfl ?_
 refine (?_:WL _ _ _ _ _ _)
 refine WL.vl rfl (WV.call rfl (callF Tryz.func226 rfl rfl) rfl rfl (Ctr.of_sc (v:=.string (bs (rS s c f))) rfl (fun _=>.sc _) fun w=>rsymbol_any s c f w hs hc hf)) ?_
 repeat refine WL.ev rfl ?_
 refine (?_:W _ _ _ _ _)
 (refine W.cond rfl (fun hif=>?_) (fun hif=>?_)<;>(try simp only [decide_eq_true_eq,decide_eq_false_iff_not,Int.not_lt,Int.not_le,Bool.not_eq_true',Bool.not_eq_false'] at hif))
 ·have e:wants s c f r g h L=[1]:=if_pos (by simpa using hif)
  rw [e]
  repeat refine W.go rfl ?_
  refine (?_:W _ _ _ _ _)
  refine W.tr (Tr.freeze 1 rfl) ?_
  exact W.ret (fin1 rfl rfl rfl rfl)
 ·have hne:=hif
  have e:wants s c f r g h L=(if okR s r=true then [] else [2])++(if okG s g=true then [] else [3])++(if okH s h L=true then [] else [4]):=if_neg (by simpa using hne)
  rw [e]
  obtain ⟨l1,e1⟩:∃ l,(if okR s r=true then [] else [2]:List Int)=l:=⟨_,rfl⟩
  obtain ⟨l2,e2⟩:∃ l,(if okG s g=true then [] else [3]:List Int)=l:=⟨_,rfl⟩
  obtain ⟨l3,e3⟩:∃ l,(if okH s h L=true then [] else [4]:List Int)=l:=⟨_,rfl⟩
  rw [e1,e2,e3]
  have b1:l1.length≤1:=by rw [← e1];split<;>simp
  have b2:l2.length≤1:=by rw [← e2];split<;>simp
  have b3:l3.length≤1:=by rw [← e3];split<;>simp
  repeat refine W.go rfl ?_
  refine (?_:WL _ _ _ _ _ _)
  refine WL.tr (Tr.nil (t:=7) 3 1 rfl rfl) ?_
  dsimp only [St.put,St.new,Nat.reduceAdd]
  refine WL.meet2 ⟨[(0,.sc (.int .u8 s)),(2,.sc (.int .i64 L)),(4,.pt 0 0 0),(7,.sl 1)],[(0,.box 100 (eStp (c,f,r,g,h))),(1,.row 3 1 (l1.map eInt))],2⟩ ?_ ?_
  ·refine WL.partG rfl rfl rfl rfl (fun hp=>?_) (fun hp=>?_)
   ·have hp:0 < r:=of_decide_eq_true hp
    repeat (first|refine WL.ev rfl ?_|refine WL.gyes rfl rfl rfl rfl ?_)
    refine (?_:WL _ _ _ _ _ _)
    refine WL.vl rfl (WV.call rfl (callF Tryz.func201 rfl rfl) rfl rfl (Ctr.of_sc (v:=.string (bs (rR s r))) rfl (fun _=>.sc _) fun w=>(rright_any s r w hs hr).mono fun e w2 ⟨he,hw⟩=>⟨he,hw ▸ Below.refl _ _⟩)) ?_
    repeat (first|refine WL.ev rfl ?_|refine WL.gyes rfl rfl rfl rfl ?_)
    refine (?_:W _ _ _ _ _)
    have hv0:(r == 0)=false:=by simp;omega
    (refine W.cond rfl (fun hif=>?_) (fun hif=>?_)<;>(try simp only [decide_eq_true_eq,decide_eq_false_iff_not,Int.not_lt,Int.not_le,Bool.not_eq_true',Bool.not_eq_false'] at hif))
    ·obtain rfl:l1=[2]:=by
      rw [← e1,if_neg]
      unfold okR
      rw [hv0,show rR s r=[] by simpa using hif];decide
     repeat (first|refine W.go rfl ?_|refine WL.ev rfl ?_|refine WL.app rfl rfl rfl z9s ?_)
     refine (?_:Tr _ _ _)
     exact (zqu (fun q=>bif Nat.beq q 1 then 3 else q) (by repeat (first|exact trivial|refine ⟨⟨?_,?_,?_⟩,?_⟩|rfl|exact congrArg (fun q=>some (AO.row _ _ q)) (by first|rfl|(simp;done)|(simp [eInt];done)|(simp [eLk];done)))) rfl)
    ·obtain rfl:l1=[]:=by
      rw [← e1,if_pos]
      unfold okR
      rw [hv0,Bool.false_or]
      have:rR s r≠[]:=by simpa using hif
      simpa using this
     repeat refine W.go rfl ?_
     refine (?_:Tr _ _ _)
     exact (zqu (fun q=>q) (by repeat (first|exact trivial|refine ⟨⟨?_,?_,?_⟩,?_⟩|rfl|exact congrArg (fun q=>some (AO.row _ _ q)) (by first|rfl|(simp;done)|(simp [eInt];done)|(simp [eLk];done)))) rfl)
   ·have hp:¬ 0 < r:=of_decide_eq_false hp
    obtain rfl:l1=[]:=by
     rw [← e1,if_pos]
     obtain rfl:r=0:=by omega
     rfl
    repeat (first|refine W.go rfl ?_|refine WL.ev rfl ?_|refine WL.opno rfl rfl rfl rfl rfl rfl rfl ?_|refine W.condF rfl ?_)
    refine (?_:Tr _ _ _)
    exact (zqu (fun q=>q) (by repeat (first|exact trivial|refine ⟨⟨?_,?_,?_⟩,?_⟩|rfl|exact congrArg (fun q=>some (AO.row _ _ q)) (by first|rfl|(simp;done)|(simp [eInt];done)|(simp [eLk];done)))) rfl)
  ·repeat refine W.go rfl ?_
   refine (?_:WL _ _ _ _ _ _)
   refine WL.meet2 ⟨[(0,.sc (.int .u8 s)),(2,.sc (.int .i64 L)),(4,.pt 0 0 0),(7,.sl 1)],[(0,.box 100 (eStp (c,f,r,g,h))),(1,.row 3 1 (l1.map eInt++l2.map eInt))],2⟩ ?_ ?_
   ·refine WL.partG rfl rfl rfl rfl (fun hp=>?_) (fun hp=>?_)
    ·have hp:0 < g:=of_decide_eq_true hp
     repeat (first|refine WL.ev rfl ?_|refine WL.gyes rfl rfl rfl rfl ?_)
     refine (?_:WL _ _ _ _ _ _)
     refine WL.vl rfl (WV.call rfl (callF Tryz.func202 rfl rfl) rfl rfl (Ctr.of_sc (v:=.string (bs (rG s g))) rfl (fun _=>.sc _) fun w=>(rgrace_any s g w hs hg).mono fun e w2 ⟨he,hw⟩=>⟨he,hw ▸ Below.refl _ _⟩)) ?_
     repeat (first|refine WL.ev rfl ?_|refine WL.gyes rfl rfl rfl rfl ?_)
     refine (?_:W _ _ _ _ _)
     have hv0:(g == 0)=false:=by simp;omega
     (refine W.cond rfl (fun hif=>?_) (fun hif=>?_)<;>(try simp only [decide_eq_true_eq,decide_eq_false_iff_not,Int.not_lt,Int.not_le,Bool.not_eq_true',Bool.not_eq_false'] at hif))
     ·obtain rfl:l2=[3]:=by
       rw [← e2,if_neg]
       unfold okG
       rw [hv0,show rG s g=[] by simpa using hif];decide
      repeat (first|refine W.go rfl ?_|refine WL.ev rfl ?_|refine WL.app rfl rfl rfl z9s ?_)
      refine (?_:Tr _ _ _)
      exact (zqu (fun q=>bif Nat.beq q 1 then 3 else q) (by repeat (first|exact trivial|refine ⟨⟨?_,?_,?_⟩,?_⟩|rfl|exact congrArg (fun q=>some (AO.row _ _ q)) (by first|rfl|(simp;done)|(simp [eInt];done)|(simp [eLk];done)))) rfl)
     ·obtain rfl:l2=[]:=by
       rw [← e2,if_pos]
       unfold okG
       rw [hv0,Bool.false_or]
       have:rG s g≠[]:=by simpa using hif
       simpa using this
      repeat refine W.go rfl ?_
      refine (?_:Tr _ _ _)
      exact (zqu (fun q=>q) (by repeat (first|exact trivial|refine ⟨⟨?_,?_,?_⟩,?_⟩|rfl|exact congrArg (fun q=>some (AO.row _ _ q)) (by first|rfl|(simp;done)|(simp [eInt];done)|(simp [eLk];done)))) rfl)
    ·have hp:¬ 0 < g:=of_decide_eq_false hp
     obtain rfl:l2=[]:=by
      rw [← e2,if_pos]
      obtain rfl:g=0:=by omega
      rfl
     repeat (first|refine W.go rfl ?_|refine WL.ev rfl ?_|refine WL.opno rfl rfl rfl rfl rfl rfl rfl ?_|refine W.condF rfl ?_)
     refine (?_:Tr _ _ _)
     exact (zqu (fun q=>q) (by repeat (first|exact trivial|refine ⟨⟨?_,?_,?_⟩,?_⟩|rfl|exact congrArg (fun q=>some (AO.row _ _ q)) (by first|rfl|(simp;done)|(simp [eInt];done)|(simp [eLk];done)))) rfl)
   ·repeat refine W.go rfl ?_
    refine (?_:WL _ _ _ _ _ _)
    refine WL.meet2 ⟨[(0,.sc (.int .u8 s)),(2,.sc (.int .i64 L)),(4,.pt 0 0 0),(7,.sl 1)],[(0,.box 100 (eStp (c,f,r,g,h))),(1,.row 3 1 (l1.map eInt++l2.map eInt++l3.map eInt))],2⟩ ?_ ?_
    ·refine WL.partG rfl rfl rfl rfl (fun hp=>?_) (fun hp=>?_)
     ·have hp:0 < h:=of_decide_eq_true hp
      repeat (first|refine WL.ev rfl ?_|refine WL.gyes rfl rfl rfl rfl ?_)
      refine (?_:WL _ _ _ _ _ _)
      refine WL.vl rfl (WV.call rfl (callF Tryz.func203 rfl rfl) rfl rfl (Ctr.of_sc (v:=.string (bs (rH s h L))) rfl (fun _=>.sc _) fun w=>(rhold_any s h L w hs hh).mono fun e w2 ⟨he,hw⟩=>⟨he,hw ▸ Below.refl _ _⟩)) ?_
      repeat (first|refine WL.ev rfl ?_|refine WL.gyes rfl rfl rfl rfl ?_)
      refine (?_:W _ _ _ _ _)
      have hv0:(h == 0)=false:=by simp;omega
      (refine W.cond rfl (fun hif=>?_) (fun hif=>?_)<;>(try simp only [decide_eq_true_eq,decide_eq_false_iff_not,Int.not_lt,Int.not_le,Bool.not_eq_true',Bool.not_eq_false'] at hif))
      ·obtain rfl:l3=[4]:=by
        rw [← e3,if_neg]
        unfold okH
        rw [hv0,show rH s h L=[] by simpa using hif];decide
       repeat (first|refine W.go rfl ?_|refine WL.ev rfl ?_|refine WL.app rfl rfl rfl z9s ?_)
       refine (?_:Tr _ _ _)
       exact (zqu (fun q=>bif Nat.beq q 1 then 3 else q) (by repeat (first|exact trivial|refine ⟨⟨?_,?_,?_⟩,?_⟩|rfl|exact congrArg (fun q=>some (AO.row _ _ q)) (by first|rfl|(simp;done)|(simp [eInt];done)|(simp [eLk];done)))) rfl)
      ·obtain rfl:l3=[]:=by
        rw [← e3,if_pos]
        unfold okH
        rw [hv0,Bool.false_or]
        have:rH s h L≠[]:=by simpa using hif
        simpa using this
       repeat refine W.go rfl ?_
       refine (?_:Tr _ _ _)
       exact (zqu (fun q=>q) (by repeat (first|exact trivial|refine ⟨⟨?_,?_,?_⟩,?_⟩|rfl|exact congrArg (fun q=>some (AO.row _ _ q)) (by first|rfl|(simp;done)|(simp [eInt];done)|(simp [eLk];done)))) rfl)
     ·have hp:¬ 0 < h:=of_decide_eq_false hp
      obtain rfl:l3=[]:=by
       rw [← e3,if_pos]
       obtain rfl:h=0:=by omega
       rfl
      repeat (first|refine W.go rfl ?_|refine WL.ev rfl ?_|refine WL.opno rfl rfl rfl rfl rfl rfl rfl ?_|refine W.condF rfl ?_)
      refine (?_:Tr _ _ _)
      exact (zqu (fun q=>q) (by repeat (first|exact trivial|refine ⟨⟨?_,?_,?_⟩,?_⟩|rfl|exact congrArg (fun q=>some (AO.row _ _ q)) (by first|rfl|(simp;done)|(simp [eInt];done)|(simp [eLk];done)))) rfl)
    ·repeat refine W.go rfl ?_
     refine (?_:W _ _ _ _ _)
     refine W.tr (Tr.freeze 1 rfl) ?_
     exact W.ret (fin1 rfl rfl (show AV.ls 1 (l1.map eInt++l2.map eInt++l3.map eInt)=_ by rw [List.map_append,List.map_append]) rfl)
end
section
open Go.RowKit
def sp(t:List UInt8):List UInt8:=32::t
def stT (s:Int)(L:Int→Nat)(x:Stp):List UInt8:=cellS s x.1 x.2.1 x.2.2.1 x.2.2.2.1 x.2.2.2.2 (L x.1)
def stOn(l:List Stp)(c:Int):Option Stp:=l.find? fun x=>x.1 == c
def stF(s:Int)(L:Int→Nat)(l:List Stp)(c:Int):List UInt8 :=
 match stOn l c with
 | some x=>stT s L x
 | none=>[45]
def asc:Int→List Stp→Prop
 | _,[]=>True
 | m,x::r=>m<x.1∧asc x.1 r
theorem asc_of {p:Pce} {i:Int}:∀ {l:List Stp} {last:Int},stopsE p i last l=0→asc last l
 | [],_,_=>trivial
 | x::r,last,h=>by
  unfold stopsE at h
  by_cases h1:stopE p i x last≠0
  ·rw [if_pos h1]at h;exact absurd h h1
  ·rw [if_neg h1]at h
   refine⟨?_,asc_of h⟩
   by_cases h2:last<x.1
   ·exact h2
   ·exfalso;apply h1
    unfold stopE
    split
    ·decide
    ·split
     ·decide
     ·rw [if_pos (by omega)];decide
theorem asc_lt:∀ {l:List Stp} {m:Int},asc m l→∀ x∈l,m<x.1
 | y::r,m,h,x,hx=>by
  rcases List.mem_cons.1 hx with rfl|hx
  ·exact h.1
  ·have:=asc_lt h.2 x hx;have:=h.1;omega
theorem asc_take {l:List Stp}:∀ {m:Int} (k:Nat)(h:k<l.length),asc m l→∀ x∈l.take k,x.1<l[k].1:=by
 induction l with
 | nil=>intro m k h;simp at h
 | cons y r ih =>
  intro m k h ha x hx
  cases k with
  | zero=>simp at hx
  | succ k =>
   simp only [List.take_succ_cons,List.mem_cons] at hx
   rcases hx with rfl|hx
   ·exact asc_lt ha.2 _ (by simp)
   ·simpa using ih k (by simpa using h) ha.2 x hx
theorem stOn_none {l:List Stp} {c:Int} (h:∀ x∈l,x.1≠c):stOn l c=none:=by
 unfold stOn
 rw [List.find?_eq_none]
 intro x hx
 simpa using h x hx
theorem stOn_snoc (l:List Stp)(x:Stp)(c:Int)(h:∀ y∈l,y.1<x.1):stOn (l++[x]) c=if c=x.1 then some x else stOn l c:=by
 by_cases e:c=x.1
 ·rw [if_pos e]
  have h0:stOn l c=none:=stOn_none fun y hy=>by have:=h y hy;omega
  unfold stOn at h0 ⊢
  rw [List.find?_append,h0]
  simp [e]
 ·rw [if_neg e]
  unfold stOn
  rw [List.find?_append]
  have:[x].find? (fun y=>y.1 == c)=none:=by simp;omega
  rw [this,Option.or_none]
theorem stF_snoc (s:Int)(L:Int→Nat)(l:List Stp)(x:Stp)(c:Int)(h:∀ y∈l,y.1<x.1):stF s L (l++[x]) c=if c=x.1 then stT s L x else stF s L l c:=by
 unfold stF
 rw [stOn_snoc l x c h]
 by_cases e:c=x.1
 ·rw [if_pos e,if_pos e]
 ·rw [if_neg e,if_neg e]
def cAt(s:Int)(n j:Nat):Int:=if s=2 then(n:Int)-j else(j:Int)+1
def staffL (s:Int)(L:Int→Nat)(n:Nat)(l:List Stp):List (List UInt8):=(List.range n).map fun j=>stF s L l (cAt s n j)
theorem staffL_nil(s:Int)(L:Int→Nat)(n:Nat):staffL s L n []=List.replicate n [45]:=by
 unfold staffL
 apply List.ext_getElem
 ·simp
 ·intro i h1 h2;simp [stF,stOn]
theorem staffL_snoc (s:Int)(L:Int→Nat)(n:Nat)(l:List Stp)(x:Stp)(hs:s≠4)(h:∀ y∈l,y.1<x.1)(h1:1≤x.1)(hn:x.1≤n):staffL s L n (l++[x])=(staffL s L n l).set (lineV s x.1 n-1).toNat (stT s L x):=by
 apply List.ext_getElem
 ·simp [staffL]
 ·intro j h2 h3
  have hj:j<n:=by simpa [staffL]using h2
  rw [List.getElem_set]
  simp only [staffL,List.getElem_map,List.getElem_range]
  rw [stF_snoc s L l x _ h]
  have e:cAt s n j=x.1↔(lineV s x.1 n-1).toNat=j:=by
   unfold cAt lineV
   rw [if_neg hs]
   by_cases e2:s=2
   ·rw [if_pos e2,if_pos e2];omega
   ·rw [if_neg e2,if_neg e2];omega
  by_cases e3:cAt s n j=x.1
  ·rw [if_pos e3,if_pos (e.1 e3)]
  ·rw [if_neg e3,if_neg (fun q=>e3 (e.2 q))]
def outL (s:Int)(L:Int→Nat)(n:Nat)(l:List Stp):List (List UInt8) :=
 if s=2 then ((l.filter fun x=>decide ((n:Int)<x.1)).map (stT s L)).reverse else (l.filter fun x=>decide ((n:Int)<x.1)).map (stT s L)
theorem outL_in (s:Int)(L:Int→Nat)(n:Nat)(l:List Stp)(x:Stp)(h:x.1≤n):outL s L n (l++[x])=outL s L n l:=by
 unfold outL
 have:[x].filter (fun x=>decide ((n:Int)<x.1))=[]:=by simp;omega
 rw [List.filter_append,this,List.append_nil]
theorem outL_out (s:Int)(L:Int→Nat)(n:Nat)(l:List Stp)(x:Stp)(h:¬ x.1≤n):outL s L n (l++[x])=if s=2 then stT s L x::outL s L n l else outL s L n l++[stT s L x]:=by
 unfold outL
 have:[x].filter (fun x=>decide ((n:Int)<x.1))=[x]:=by simp;omega
 rw [List.filter_append,this]
 by_cases e:s=2
 ·rw [if_pos e,if_pos e,if_pos e];simp
 ·rw [if_neg e,if_neg e,if_neg e];simp
theorem outL_len(s:Int)(L:Int→Nat)(n:Nat)(l:List Stp):(outL s L n l).length≤l.length:=by
 unfold outL
 split
 ·simp;exact List.length_filter_le _ _
 ·simp;exact List.length_filter_le _ _
def headW (s:Int)(e:Ev):List (List UInt8):=if e.bar=true then [[124],tW e.val (sgI e.dot e.three)]else [tW e.val (sgI e.dot e.three)]
def staffN(s:Int)(p:Pce):Nat:=if s=4 then 0 else min p.cs.length 6
def colW (s:Int) (p:Pce) (i:Int) (e:Ev):List (List UInt8) :=
 headW s e++(if e.tie=true then [[126]] else if e.stops.length=0 then [[37]] else
  if s=2 then outL s (fun c=>longestN p.evs i c) (staffN s p) e.stops++staffL s (fun c=>longestN p.evs i c) (staffN s p) e.stops
  else staffL s (fun c=>longestN p.evs i c) (staffN s p) e.stops++outL s (fun c=>longestN p.evs i c) (staffN s p) e.stops)
def spW (l:List (List UInt8)):List UInt8:=l.flatMap sp
def joinW:List (List UInt8)→List UInt8
 | []=>[]
 | x::r=>x++spW r
theorem joinW_lib (l:List (List UInt8)):Lib.join l [32]=joinW l:=by
 cases l with
 | nil=>rfl
 | cons x r =>
  rw [Lib.join_cons]
  show x++Lib.joinTail [32] r=x++r.flatMap sp
  unfold Lib.joinTail
  rw [List.flatMap_def];rfl
def colS (s:Int)(p:Pce)(i:Int)(e:Ev):List UInt8:=joinW (colW s p i e)
theorem stOn_eq {l:List Stp} {c:Int} {x:Stp} (h:stOn l c=some x):x∈l∧x.1=c:=by
 unfold stOn at h
 exact⟨List.mem_of_find?_eq_some h,by simpa using List.find?_some h⟩
theorem cellS_len(s c f r g h L:Int)(hs:1≤s∧s≤4)(hc:1≤c∧c≤14)(hf:0≤f∧f≤18):(cellS s c f r g h L).length≤12:=by
 unfold cellS
 have h1:=(pS_len s c f hs hc hf).1
 have h2:=rR_len s r
 have h3:=rG_len s g
 have h4:=pH_len s h L
 simp only [List.length_append];omega
theorem spW_len {n:Nat}:∀ {l:List (List UInt8)},(∀ t∈l,t.length≤n)→(spW l).length≤(n+1)*l.length
 | [],_=>by simp [spW]
 | x::r,h=>by
  have h1:=spW_len (l:=r) fun t ht=>h t (by simp [ht])
  have h2:=h x (by simp)
  unfold spW at h1 ⊢
  rw [List.flatMap_cons,List.length_append,List.length_cons,Nat.mul_succ]
  have:(sp x).length=x.length+1:=by simp [sp]
  omega
end
section
open Go.RowKit
def eSg (e:Ev):AV:=.ag [.sc (.int .i64 e.val),.sc (.bool e.dot),.sc (.bool e.three)]
theorem sg_cases {v:Int} {d t:Bool} (h:sgOk v d t=true):0≤v∧v≤7∧sgI d t≤2∧d=sgD (sgI d t)∧t=sgT (sgI d t)∧(v=0→sgI d t=0):=by
 have hv:0≤v∧v≤7:=by
  unfold sgOk at h
  simp only [Bool.or_eq_true,Bool.and_eq_true,beq_iff_eq,decide_eq_true_eq]at h
  omega
 refine⟨hv.1,hv.2,?_⟩
 cases d<;>cases t
 ·exact⟨by decide,rfl,rfl,fun _=>rfl⟩
 ·refine⟨by decide,rfl,rfl,fun h0=>?_⟩
  subst h0;cases h
 ·refine⟨by decide,rfl,rfl,fun h0=>?_⟩
  subst h0;cases h
 ·exfalso
  unfold sgOk at h
  by_cases h1:1≤v<;>by_cases h2:v≤7<;>simp [h1,h2]at h
theorem timeWord_FS (s:Int) (hs:1≤s∧s≤4) (e:Ev) (h:sgOk e.val e.dot e.three=true):Ctr Tryz.prog 182 [.sc (sysV s),eSg e] (.tu [.sc (.string (bs (tW e.val (sgI e.dot e.three)))),.sc (.bool (tOk s e.val (sgI e.dot e.three)))]):=by
 obtain ⟨h1,h2,h3,h4,h5,h6⟩:=sg_cases h
 obtain ⟨i,hi⟩:∃ i,sgI e.dot e.three=i:=⟨_,rfl⟩
 rw [hi] at h3 h4 h5 h6 ⊢
 unfold eSg
 rw [h4,h5]
 rcases sys_cases hs with rfl|rfl|rfl|rfl
 ·exact Ctr.of_pl rfl (fun _=>rp_tu2) fun w=>ptw_1 e.val i w ⟨h1,h2⟩ h3 h6
 ·exact Ctr.of_pl rfl (fun _=>rp_tu2) fun w=>ptw_2 e.val i w ⟨h1,h2⟩ h3 h6
 ·exact Ctr.of_pl rfl (fun _=>rp_tu2) fun w=>ptw_3 e.val i w ⟨h1,h2⟩ h3 h6
 ·exact Ctr.of_pl rfl (fun _=>rp_tu2) fun w=>ptw_4 e.val i w ⟨h1,h2⟩ h3 h6
theorem cell_FS (s:Int)(hs:1≤s∧s≤4)(x:Stp)(L:Int)(hc:1≤x.1∧x.1≤14)(hf:0≤x.2.1∧x.2.1≤18)(hr:0≤x.2.2.1∧x.2.2.1≤3)(hg:0≤x.2.2.2.1∧x.2.2.2.1≤4)(hh:0≤x.2.2.2.2∧x.2.2.2.2≤15) :
  Ctr Tryz.prog 183 [.sc (sysV s),.ag (eStp x),.sc (.int .i64 L)] (.tu [.sc (.string (bs (cellS s x.1 x.2.1 x.2.2.1 x.2.2.2.1 x.2.2.2.2 L))),.sc (.bool (cellOk s x.1 x.2.1 x.2.2.1 x.2.2.2.1 x.2.2.2.2 L))]):=by
 rcases sys_cases hs with rfl|rfl|rfl|rfl
 ·exact Ctr.of_pl rfl (fun _=>rp_tu2) fun w=>pcell_1 _ _ _ _ _ _ w hc hf hr hg hh
 ·exact Ctr.of_pl rfl (fun _=>rp_tu2) fun w=>pcell_2 _ _ _ _ _ _ w hc hf hr hg hh
 ·exact Ctr.of_pl rfl (fun _=>rp_tu2) fun w=>pcell_3 _ _ _ _ _ _ w hc hf hr hg hh
 ·exact Ctr.of_pl rfl (fun _=>rp_tu2) fun w=>pcell_4 _ _ _ _ _ _ w hc hf hr hg hh
theorem pLong_FS (p:Pce) (hO:PcOk p) (i x:Int):Ctr Tryz.prog 144 [ePce p,.sc (.int .i64 i),.sc (.int .i64 x)] (.sc (.int .i64 (longestN p.evs i x))) :=
 Ctr.of_pc (pre:=[]) (post:=[.sc (.int .i64 i),.sc (.int .i64 x)]) rfl rfl (fun _=>.sc _) fun w M hM=>pLongest_any M p i x w hM hO
theorem pstaff_FS (cs:List (Int×Int×Bool)) (st:List Int) (h:cs.length≤64):Ctr Tryz.prog 139 [.ag (eIns cs st)] (.sc (.int .i64 ((min cs.length 6:Nat):Int))):=by
 refine Ctr.intro Tryz.func139 rfl Tryz.ntmps139 (Nat.le_of_ble_eq_true rfl) (bd_all rfl) fun w0 F0=>?_;dsimp only [St.init,number,Nat.reduceAdd]
 repeat (first|refine W.go rfl ?_|refine WL.len rfl rfl zql ?_)
 refine (?_:WL _ _ _ _ _ _)
 refine WL.mm rfl rfl (show _=((min cs.length 6:Nat):Int) by split<;>omega) ?_
 repeat refine WL.ev rfl ?_
 refine (?_:W _ _ _ _ _)
 exact W.ret (fin1 rfl rfl rfl rfl)
def lineF(s:Int):FuncId:=if s=1 then 276 else if s=2 then 286 else if s=3 then 294 else 301
def behindF(s:Int):FuncId:=if s=1 then 278 else if s=2 then 288 else if s=3 then 296 else 303
theorem line_FS (s:Int) (hs:1≤s∧s≤4) (c n:Int) (hc:1≤c∧c≤14) (hn:0≤n∧n≤6):Ctr Tryz.prog (lineF s) [.ag [],.sc (.int .i64 c),.sc (.int .i64 n)] (.sc (.int .i64 (lineV s c n))):=by
 rcases sys_cases hs with rfl|rfl|rfl|rfl
 ·show Ctr Tryz.prog 276 _ _
  refine Ctr.intro Tryz.func276 rfl Tryz.ntmps276 (Nat.le_of_ble_eq_true rfl) (bd_all rfl) fun w0 F0=>?_;dsimp only [St.init,number,Nat.reduceAdd]
  repeat refine W.go rfl ?_
  refine (?_:W _ _ _ _ _)
  exact W.ret (fin1 rfl rfl rfl rfl)
 ·show Ctr Tryz.prog 286 _ _
  refine Ctr.intro Tryz.func286 rfl Tryz.ntmps286 (Nat.le_of_ble_eq_true rfl) (bd_all rfl) fun w0 F0=>?_;dsimp only [St.init,number,Nat.reduceAdd]
  repeat (first|refine W.go rfl ?_|refine WL.ev rfl ?_|refine WL.ar rfl rfl (by unfold I64;omega) ?_)
  refine (?_:W _ _ _ _ _)
  exact W.ret (fin1 rfl rfl rfl rfl)
 ·show Ctr Tryz.prog 294 _ _
  refine Ctr.intro Tryz.func294 rfl Tryz.ntmps294 (Nat.le_of_ble_eq_true rfl) (bd_all rfl) fun w0 F0=>?_;dsimp only [St.init,number,Nat.reduceAdd]
  repeat refine W.go rfl ?_
  refine (?_:W _ _ _ _ _)
  exact W.ret (fin1 rfl rfl rfl rfl)
 ·show Ctr Tryz.prog 301 _ _
  refine Ctr.intro Tryz.func301 rfl Tryz.ntmps301 (Nat.le_of_ble_eq_true rfl) (bd_all rfl) fun w0 F0=>?_;dsimp only [St.init,number,Nat.reduceAdd]
  repeat refine W.go rfl ?_
  refine (?_:W _ _ _ _ _)
  exact W.ret (fin1 rfl rfl rfl rfl)
theorem behind_FS (s:Int) (hs:1≤s∧s≤4):Ctr Tryz.prog (behindF s) [.ag []] (.sc (.bool (!decide (s=2)))):=by
 rcases sys_cases hs with rfl|rfl|rfl|rfl
 ·show Ctr Tryz.prog 278 _ _
  refine Ctr.intro Tryz.func278 rfl Tryz.ntmps278 (Nat.le_of_ble_eq_true rfl) (bd_all rfl) fun w0 F0=>?_;dsimp only [St.init,number,Nat.reduceAdd]
  repeat refine W.go rfl ?_
  refine (?_:W _ _ _ _ _)
  exact W.ret (fin1 rfl rfl rfl rfl)
 ·show Ctr Tryz.prog 288 _ _
  refine Ctr.intro Tryz.func288 rfl Tryz.ntmps288 (Nat.le_of_ble_eq_true rfl) (bd_all rfl) fun w0 F0=>?_;dsimp only [St.init,number,Nat.reduceAdd]
  repeat refine W.go rfl ?_
  refine (?_:W _ _ _ _ _)
  exact W.ret (fin1 rfl rfl rfl rfl)
 ·show Ctr Tryz.prog 296 _ _
  refine Ctr.intro Tryz.func296 rfl Tryz.ntmps296 (Nat.le_of_ble_eq_true rfl) (bd_all rfl) fun w0 F0=>?_;dsimp only [St.init,number,Nat.reduceAdd]
  repeat refine W.go rfl ?_
  refine (?_:W _ _ _ _ _)
  exact W.ret (fin1 rfl rfl rfl rfl)
 ·show Ctr Tryz.prog 303 _ _
  refine Ctr.intro Tryz.func303 rfl Tryz.ntmps303 (Nat.le_of_ble_eq_true rfl) (bd_all rfl) fun w0 F0=>?_;dsimp only [St.init,number,Nat.reduceAdd]
  repeat refine W.go rfl ?_
  refine (?_:W _ _ _ _ _)
  exact W.ret (fin1 rfl rfl rfl rfl)
def eStr (t:List UInt8):List AV:=[.sc (.string (bs t))]
theorem join_FS (l:List (List UInt8)) (h1:l.length≤1000) (h2:(joinW l).length≤1000000):Ctr Tryz.prog 114 [.ls 1 (l.map eStr),.sc (.string (bs [32]))] (.sc (.string (bs (joinW l)))):=by
 intro w F vs hF hR
 match vs,hR.1 with
 | [v,v2],_ =>
  obtain rfl:=(hR.2 1 _ v2 rfl rfl).sc_eq
  obtain ⟨A,c,rfl,hrd,hc⟩:=rd_of_rp (n:=1) (f:=fun t=>[Value.string (bs t)]) hF (by omega) (fun _=>rfl) (fun x j u h=>by
   match j with
   | 0=>cases h;rfl
   | j+1=>simp at h) (hR.2 0 _ v rfl rfl)
  have fin:∀ e w',e=Ending.returned (.string (bs (joinW l)))→Below w.heap.size w w'→∃ v F',e=.returned v∧Below w.heap.size w w'∧View.le F F'∧(∀ p u,F' p=some u→w'.cell? p=some u)∧(∀ p u,F' p=some u→F p=some u∨w.heap.size≤p.block)∧RP F' (.sc (.string (bs (joinW l)))) v :=
   fun e w' he hb=>⟨_,F,he,hb,fun _ _ h=>h,fun p u x=>by rw [hb.cell (cell_block (hF p u x))];exact hF p u x,fun _ _ h=>.inl h,.sc _⟩
  by_cases h0:l.length=0
  ·obtain rfl:=List.eq_nil_of_length_eq_zero h0
   exact (strings_Join_none A c (bs [32]) w).mono fun e w' ⟨he,hw⟩=>fin e w' he (hw ▸ Below.refl _ _)
  ·obtain ⟨ad,had,hlt,hcell⟩:=hrd (by simp;omega)
   subst had
   have hsp:ad.spot=none:=by
    have:=hcell 0 _ (List.getElem?_eq_getElem (by simp;omega)) 0 (.string (bs (l[0]'(by omega)))) (by simp)
    rw [Nat.zero_mul,Nat.add_zero,add_zero'] at this
    unfold World.cell? at this
    cases hs:ad.spot with
    | none=>rfl
    | some q =>
     split at this
     ·rw [hs] at this;simp at this
     ·cases this
   obtain ⟨bk,off,sp⟩:=ad
   simp only at hsp hlt
   subst hsp
   have hm:(l.map bs).map (fun b=>b.data.toList)=l:=by
    rw [List.map_map]
    exact (List.map_congr_left fun t _=>rfl).trans (List.map_id l)
   have:=strings_Join bk off c (l.map bs) (bs [32]) w (fun j x hx=>?_) hlt (by simp;omega) (by simpa using hc) (by rw [hm,bs_data,joinW_lib];omega)
   ·rw [hm,bs_data,joinW_lib,List.length_map] at this
    exact this.mono fun e w' ⟨he,hb⟩=>fin e w' he hb
   ·rw [List.getElem?_map] at hx
    cases hq:l[j]? with
    | none=>simp [hq] at hx
    | some t =>
     rw [hq] at hx
     obtain rfl:bs t=x:=by simpa using hx
     have:=hcell j _ (by rw [List.getElem?_map,hq];rfl) 0 (.string (bs t)) rfl
     rw [add_flat,Nat.mul_one,Nat.add_zero] at this
     exact this
end
end Go.Proofs.YtgelfflighgajaaGreatDoor
