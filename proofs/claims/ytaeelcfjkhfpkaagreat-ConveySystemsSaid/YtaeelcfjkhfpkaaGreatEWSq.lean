/- What a system lacks of a stop, over trees: the reference. -/
import Derived.Test.YtaeelcfjkhfpkaaGreatLkESq
import Derived.Test.YtaeelcfjkhfpkaaGreatPChSq
set_option maxHeartbeats 4000000
set_option maxRecDepth 100000
set_option linter.unusedVariables false
set_option linter.unusedSimpArgs false
namespace Go.Proofs.YtaeelcfjkhfpkaaGreat
section
open Go.RowKit
theorem Tr.nilLs {C:Cx} {σ:St} {t:Tmp} (n:Nat) (h:look t σ.t=some (.sc (.slice none 0 0))):Tr C σ (σ.put t (.ls n [])):=fun G a w ok=>by
 refine ⟨G,ok.sz,ok.df,fun i av hi=>?_,ok.bel,ok.fw,ok.f0,ok.f1,ok.ob,ok.my,ok.dj,ok.dF⟩
 by_cases e:i=t
 ·subst e
  rw [show look i (σ.put i (.ls n [])).t=some (.ls n []) from look_set_same] at hi
  cases hi
  obtain ⟨h1,h2,h3⟩:=ok.tm i _ h
  refine ⟨h1,.ls _ _,?_⟩
  rw [h3.sc_eq]
  exact .pu _ _ (.ls n [] none 0 ⟨0,0,none⟩ (fun _ _=>undef) (by simp) (by simp) (fun h=>absurd h (by simp)) (fun i r j av h=>by simp at h) (fun i r j av h=>by simp at h))
 ·rw [show look i (σ.put t (.ls n [])).t=look i σ.t from look_set_other e] at hi
  exact ok.tm i av hi
theorem of_FS (s:Int):Ctr Tryz.prog 92 [.sc (.int .u8 s)] (.tu [.sc (sysV s),.sc (.bool (decide (1≤s∧s≤4)))]):=by
 refine Ctr.of_sc (xs:=[.int .u8 s]) (v:=.tuple #[sysV s,.bool (decide (1≤s∧s≤4))]) rfl (fun F=>.tu _ _ rfl fun i av u a b=>?_) fun w=>?_
 ·match i with
  | 0=>cases a;cases b;exact .sc _
  | 1=>cases a;cases b;exact .sc _
  | i+2=>simp at a
 ·by_cases h:1≤s∧s≤4
  ·rcases sys_cases h with rfl|rfl|rfl|rfl
   ·exact (of_1 w).mono fun e w' ⟨he,hw⟩=>⟨he,hw ▸ Below.refl _ _⟩
   ·exact (of_2 w).mono fun e w' ⟨he,hw⟩=>⟨he,hw ▸ Below.refl _ _⟩
   ·exact (of_3 w).mono fun e w' ⟨he,hw⟩=>⟨he,hw ▸ Below.refl _ _⟩
   ·exact (of_4 w).mono fun e w' ⟨he,hw⟩=>⟨he,hw ▸ Below.refl _ _⟩
  ·have e:sysV s=.nilIface:=by
    unfold sysV
    rw [if_neg (by omega),if_neg (by omega),if_neg (by omega),if_neg (by omega)]
   rw [e,decide_eq_false h]
   exact (of_bad s w zqo).mono fun e w' ⟨he,hw⟩=>⟨he,hw ▸ Below.refl _ _⟩
theorem pCheck_FS (p:Pce) (hO:PcOk p):Ctr Tryz.prog 45 [ePce p] (.sc (.int .i64 (pceE p))) :=
 Ctr.of_pc (pre:=[]) (post:=[]) rfl rfl (fun _=>.sc _) fun w M hM=>pCheck_any M p w hM hO
def lksR(s:Int)(p:Pce):List Lck:=if(1≤s∧s≤4)∧pceE p=0 then lksTo s p p.evs.length else []
def lksE(s:Int)(p:Pce):Int:=if 1≤s∧s≤4 then pceE p else 30
theorem lks_bad {s:Int} {p:Pce} (h:¬ (1≤s∧s≤4)):lksR s p=[]∧lksE s p=30:=⟨if_neg fun x=>h x.1,if_neg h⟩
theorem lks_err {s:Int} {p:Pce} (h:1≤s∧s≤4)(h2:pceE p≠0):lksR s p=[]∧lksE s p=pceE p:=⟨if_neg fun x=>h2 x.2,if_pos h⟩
theorem lks_ok {s:Int} {p:Pce} (h:1≤s∧s≤4) (h2:pceE p=0):lksR s p=lksTo s p p.evs.length∧lksE s p=0:=⟨if_pos ⟨h,h2⟩,by rw [← h2];exact if_pos h⟩
theorem pLacks_FS (s:Int) (p:Pce) (hO:PcOk p):Ctr Tryz.prog 46 [.sc (.int .u8 s),ePce p] (.tu [.ls 3 ((lksR s p).map eLk),.sc (.int .i64 (lksE s p))]):=by
 refine zqe Tryz.func46 Tryz.ntmps46 fun w0 F0=>?_;dsimp only [St.init,number,Nat.reduceAdd]
 have hn3:=hO.n3
 repeat refine W.go rfl ?_
 refine (?_:WL _ _ _ _ _ _)
 refine WL.vl rfl (WV.call rfl (callF Tryz.func92 rfl rfl) rfl rfl (of_FS s)) ?_
 repeat (first|refine W.go rfl ?_|refine WL.ev rfl ?_)
 refine (?_:W _ _ _ _ _)
 (refine W.cond rfl (fun hif=>?_) (fun hif=>?_)<;>(try simp only [decide_eq_true_eq,decide_eq_false_iff_not,Int.not_lt,Int.not_le,Bool.not_eq_true',Bool.not_eq_false'] at hif))
 ·have hs:¬ (1≤s∧s≤4):=by simpa using hif
  rw [(lks_bad hs).1,(lks_bad hs).2]
  repeat refine W.go rfl ?_
  refine (?_:W _ _ _ _ _)
  refine W.tr (Tr.nilLs (t:=4) 3 rfl) ?_
  exact W.ret (fin2 rfl rfl rfl rfl rfl rfl rfl)
 have hs:1≤s∧s≤4:=by simpa using hif
 repeat refine W.go rfl ?_
 refine (?_:WL _ _ _ _ _ _)
 refine WL.vl rfl (WV.call rfl (callF Tryz.func45 rfl rfl) rfl rfl (pCheck_FS p hO)) ?_
 repeat (first|refine W.go rfl ?_|refine WL.ev rfl ?_)
 refine (?_:W _ _ _ _ _)
 (refine W.cond rfl (fun hif=>?_) (fun hif=>?_)<;>(try simp only [decide_eq_true_eq,decide_eq_false_iff_not,Int.not_lt,Int.not_le,Bool.not_eq_true',Bool.not_eq_false'] at hif))
 ·have h0:pceE p≠0:=by simpa using hif
  rw [(lks_err hs h0).1,(lks_err hs h0).2]
  repeat refine W.go rfl ?_
  refine (?_:W _ _ _ _ _)
  refine W.tr (Tr.nilLs (t:=4) 3 rfl) ?_
  exact W.ret (fin2 rfl rfl rfl rfl rfl rfl rfl)
 have h0:pceE p=0:=by simpa using hif
 rw [(lks_ok hs h0).1,(lks_ok hs h0).2]
 repeat (first|refine W.go rfl ?_|refine WL.ev rfl ?_|refine WL.len rfl rfl zql ?_)
 refine (?_:W _ _ _ _ _)
 refine W.tr (Tr.nil (t:=9) 72 3 rfl rfl) ?_
 refine W.loop (fun k:Nat=>k≤p.evs.length) (fun k=>⟨[(3,.pt 0 0 0),(6,.sc (sysV s)),(9,.sl 1),(25,.sc (.int .i64 p.evs.length)),(26,.sc (.int .i64 k))],[(0,.box 29 (ePce p).cells),(1,.row 72 3 ((lksTo s p k).map eLk))],2⟩) (fun k=>p.evs.length - k) 0 zqo (zqt id) fun k hk=>?_
 repeat refine W.go rfl ?_
 refine (?_:W _ _ _ _ _)
 (refine W.cond rfl (fun hif=>?_) (fun hif=>?_)<;>(try simp only [decide_eq_true_eq,decide_eq_false_iff_not,Int.not_lt,Int.not_le,Bool.not_eq_true',Bool.not_eq_false'] at hif))
 ·have hk2:k < p.evs.length:=by omega
  have hl1:=lksTo_len s hO k hk
  have hl2:=lackE_len s p k p.evs[k] (hO.n4 k hk2)
  have hrow:(lksTo s p k).map eLk++(lackE s p k p.evs[k]).map eLk=(lksTo s p (k+1)).map eLk:=by rw [lksTo_at s p hk2,List.map_append]
  repeat refine W.go rfl ?_
  refine (?_:WL _ _ _ _ _ _)
  refine WL.vl rfl (WV.call rfl (callF Tryz.func96 rfl rfl) rfl rfl (plack_FS s hs p k hk2 hO (stopsIn_of h0 k hk2))) ?_
  repeat (first|refine W.go rfl ?_|refine WL.ev rfl ?_|refine WL.ar rfl rfl (by unfold I64;omega) ?_|refine WL.app rfl rfl rfl zqs ?_)
  exact ⟨k+1,by omega,by omega,zqu (fun q=>bif Nat.beq q 1 then 2 else q) (by repeat (first|exact trivial|refine ⟨⟨?_,?_,?_⟩,?_⟩|exact congrArg (fun r=>some (AO.row _ _ r)) hrow|rfl)) rfl⟩
 ·have he:k=p.evs.length:=by omega
  subst he
  repeat refine W.go rfl ?_
  refine (?_:W _ _ _ _ _)
  refine W.tr (Tr.freeze 1 rfl) ?_
  exact W.ret (fin2 rfl rfl rfl rfl rfl rfl rfl)
theorem pCan_FS (s:Int) (p:Pce) (hO:PcOk p):Ctr Tryz.prog 28 [.sc (.int .u8 s),ePce p] (.sc (.bool (lksE s p == 0 && ((lksR s p).length:Int) == 0))):=by
 refine zqe Tryz.func28 Tryz.ntmps28 fun w0 F0=>?_;dsimp only [St.init,number,Nat.reduceAdd]
 repeat refine W.go rfl ?_
 refine (?_:WL _ _ _ _ _ _)
 refine WL.vl rfl (WV.call rfl (callF Tryz.func46 rfl rfl) rfl rfl (pLacks_FS s p hO)) ?_
 repeat (first|refine W.go rfl ?_|refine WL.ev rfl ?_)
 refine (?_:WL _ _ _ _ _ _)
 have hl:(lksR s p).length≤27000:=by
  unfold lksR
  split
  ·exact lksTo_len s hO _ (Nat.le_refl _)
  ·simp
 refine WL.partG rfl rfl rfl rfl (fun hp=>?_) (fun hp=>?_)
 ·have e:lksE s p=0:=of_decide_eq_true hp
  repeat (first|refine WL.ev rfl ?_|refine WL.gyes rfl rfl rfl rfl ?_|refine WL.len rfl rfl zql ?_)
  refine (?_:W _ _ _ _ _)
  refine W.ret (fin1 rfl rfl (sc_bool ?_) rfl)
  rw [e];rfl
 ·have e:lksE s p≠0:=of_decide_eq_false hp
  repeat (first|refine WL.ev rfl ?_|refine WL.opno rfl rfl rfl rfl rfl rfl rfl ?_)
  refine (?_:W _ _ _ _ _)
  refine W.ret (fin1 rfl rfl (sc_bool ?_) rfl)
  rw [show (lksE s p == 0)=false by simpa using e];rfl
end
section
open Go.RowKit
def wants(s c f r g h L:Int):List Int :=
 if rS s c f=[]then [1]else(if okR s r=true then []else [2])++(if okG s g=true then []else [3])++(if okH s h L=true then []else [4])
theorem wants_FS (s c f r g h L:Int) (hs:1≤s∧s≤4) (hc:1≤c∧c≤14) (hf:0≤f∧f≤18) (hr:0≤r∧r≤3) (hg:0≤g∧g≤4) (hh:0≤h∧h≤99) :
  Ctr Tryz.prog 63 [.sc (.int .u8 s),.ag (eStp (c,f,r,g,h)),.sc (.int .i64 L)] (.ls 1 ((wants s c f r g h L).map eInt)):=by
 refine zqe Tryz.func63 Tryz.ntmps63 fun w0 F0=>?_;dsimp only [St.init,number,Nat.reduceAdd]
 repeat refine W.go rfl ?_
 refine (?_:WL _ _ _ _ _ _)
 refine WL.vl rfl (WV.call rfl (callF Tryz.func111 rfl rfl) rfl rfl (Ctr.of_sc (v:=.string (bs (rS s c f))) rfl (fun _=>.sc _) fun w=>rsymbol_any s c f w hs hc hf)) ?_
 repeat refine WL.ev rfl ?_
 refine (?_:W _ _ _ _ _)
 (refine W.cond rfl (fun hif=>?_) (fun hif=>?_)<;>(try simp only [decide_eq_true_eq,decide_eq_false_iff_not,Int.not_lt,Int.not_le,Bool.not_eq_true',Bool.not_eq_false'] at hif))
 ·have e:wants s c f r g h L=[1]:=if_pos (by simpa using hif)
  rw [e]
  repeat refine W.go rfl ?_
  refine (?_:W _ _ _ _ _)
  refine W.tr (Tr.freeze 1 rfl) ?_
  exact W.ret zqr
 ·have hne:=hif
  have e:wants s c f r g h L=(if okR s r=true then [] else [2])++(if okG s g=true then [] else [3])++(if okH s h L=true then [] else [4]):=if_neg (by simpa using hne)
  rw [e]
  obtain ⟨l1,e1⟩:∃ l,(if okR s r=true then [] else [2]:List Int)=l:=⟨_,rfl⟩
  obtain ⟨l2,e2⟩:∃ l,(if okG s g=true then [] else [3]:List Int)=l:=⟨_,rfl⟩
  obtain ⟨l3,e3⟩:∃ l,(if okH s h L=true then [] else [4]:List Int)=l:=⟨_,rfl⟩
  rw [e1,e2,e3]
  have b1:l1.length≤1:=by rw [← e1];split<;>simp
  have b2:l2.length≤1:=by rw [← e2];split<;>simp
  have b3:l3.length≤1:=by rw [← e3];split<;>simp
  repeat refine W.go rfl ?_
  refine (?_:WL _ _ _ _ _ _)
  refine WL.tr (Tr.nil (t:=7) 3 1 rfl rfl) ?_
  dsimp only [St.put,St.new,Nat.reduceAdd]
  refine WL.meet2 ⟨[(0,.sc (.int .u8 s)),(2,.sc (.int .i64 L)),(4,.pt 0 0 0),(7,.sl 1)],[(0,.box 48 (eStp (c,f,r,g,h))),(1,.row 3 1 (l1.map eInt))],2⟩ ?_ ?_
  ·refine WL.partG rfl rfl rfl rfl (fun hp=>?_) (fun hp=>?_)
   ·have hp:0 < r:=of_decide_eq_true hp
    repeat (first|refine WL.ev rfl ?_|refine WL.gyes rfl rfl rfl rfl ?_)
    refine (?_:WL _ _ _ _ _ _)
    refine WL.vl rfl (WV.call rfl (callF Tryz.func112 rfl rfl) rfl rfl (Ctr.of_sc (v:=.string (bs (rR s r))) rfl (fun _=>.sc _) fun w=>(rright_any s r w hs hr).mono fun e w2 ⟨he,hw⟩=>⟨he,hw ▸ Below.refl _ _⟩)) ?_
    repeat (first|refine WL.ev rfl ?_|refine WL.gyes rfl rfl rfl rfl ?_)
    refine (?_:W _ _ _ _ _)
    have hv0:(r == 0)=false:=by simp;omega
    (refine W.cond rfl (fun hif=>?_) (fun hif=>?_)<;>(try simp only [decide_eq_true_eq,decide_eq_false_iff_not,Int.not_lt,Int.not_le,Bool.not_eq_true',Bool.not_eq_false'] at hif))
    ·obtain rfl:l1=[2]:=by
      rw [← e1,if_neg]
      unfold okR
      rw [hv0,show rR s r=[] by simpa using hif];decide
     repeat (first|refine W.go rfl ?_|refine WL.ev rfl ?_|refine WL.app rfl rfl rfl zqs ?_)
     refine (?_:Tr _ _ _)
     exact (zqu (fun q=>bif Nat.beq q 1 then 3 else q) (by repeat (first|exact trivial|refine ⟨⟨?_,?_,?_⟩,?_⟩|rfl|exact congrArg (fun q=>some (AO.row _ _ q)) (by first|rfl|(simp;done)|(simp [eInt];done)|(simp [eLk];done)))) rfl)
    ·obtain rfl:l1=[]:=by
      rw [← e1,if_pos]
      unfold okR
      rw [hv0,Bool.false_or]
      have:rR s r≠[]:=by simpa using hif
      simpa using this
     repeat refine W.go rfl ?_
     refine (?_:Tr _ _ _)
     exact (zqu (fun q=>q) (by repeat (first|exact trivial|refine ⟨⟨?_,?_,?_⟩,?_⟩|rfl|exact congrArg (fun q=>some (AO.row _ _ q)) (by first|rfl|(simp;done)|(simp [eInt];done)|(simp [eLk];done)))) rfl)
   ·have hp:¬ 0 < r:=of_decide_eq_false hp
    obtain rfl:l1=[]:=by
     rw [← e1,if_pos]
     obtain rfl:r=0:=by omega
     rfl
    repeat (first|refine W.go rfl ?_|refine WL.ev rfl ?_|refine WL.opno rfl rfl rfl rfl rfl rfl rfl ?_|refine W.condF rfl ?_)
    refine (?_:Tr _ _ _)
    exact (zqu (fun q=>q) (by repeat (first|exact trivial|refine ⟨⟨?_,?_,?_⟩,?_⟩|rfl|exact congrArg (fun q=>some (AO.row _ _ q)) (by first|rfl|(simp;done)|(simp [eInt];done)|(simp [eLk];done)))) rfl)
  ·repeat refine W.go rfl ?_
   refine (?_:WL _ _ _ _ _ _)
   refine WL.meet2 ⟨[(0,.sc (.int .u8 s)),(2,.sc (.int .i64 L)),(4,.pt 0 0 0),(7,.sl 1)],[(0,.box 48 (eStp (c,f,r,g,h))),(1,.row 3 1 (l1.map eInt++l2.map eInt))],2⟩ ?_ ?_
   ·refine WL.partG rfl rfl rfl rfl (fun hp=>?_) (fun hp=>?_)
    ·have hp:0 < g:=of_decide_eq_true hp
     repeat (first|refine WL.ev rfl ?_|refine WL.gyes rfl rfl rfl rfl ?_)
     refine (?_:WL _ _ _ _ _ _)
     refine WL.vl rfl (WV.call rfl (callF Tryz.func113 rfl rfl) rfl rfl (Ctr.of_sc (v:=.string (bs (rG s g))) rfl (fun _=>.sc _) fun w=>(rgrace_any s g w hs hg).mono fun e w2 ⟨he,hw⟩=>⟨he,hw ▸ Below.refl _ _⟩)) ?_
     repeat (first|refine WL.ev rfl ?_|refine WL.gyes rfl rfl rfl rfl ?_)
     refine (?_:W _ _ _ _ _)
     have hv0:(g == 0)=false:=by simp;omega
     (refine W.cond rfl (fun hif=>?_) (fun hif=>?_)<;>(try simp only [decide_eq_true_eq,decide_eq_false_iff_not,Int.not_lt,Int.not_le,Bool.not_eq_true',Bool.not_eq_false'] at hif))
     ·obtain rfl:l2=[3]:=by
       rw [← e2,if_neg]
       unfold okG
       rw [hv0,show rG s g=[] by simpa using hif];decide
      repeat (first|refine W.go rfl ?_|refine WL.ev rfl ?_|refine WL.app rfl rfl rfl zqs ?_)
      refine (?_:Tr _ _ _)
      exact (zqu (fun q=>bif Nat.beq q 1 then 3 else q) (by repeat (first|exact trivial|refine ⟨⟨?_,?_,?_⟩,?_⟩|rfl|exact congrArg (fun q=>some (AO.row _ _ q)) (by first|rfl|(simp;done)|(simp [eInt];done)|(simp [eLk];done)))) rfl)
     ·obtain rfl:l2=[]:=by
       rw [← e2,if_pos]
       unfold okG
       rw [hv0,Bool.false_or]
       have:rG s g≠[]:=by simpa using hif
       simpa using this
      repeat refine W.go rfl ?_
      refine (?_:Tr _ _ _)
      exact (zqu (fun q=>q) (by repeat (first|exact trivial|refine ⟨⟨?_,?_,?_⟩,?_⟩|rfl|exact congrArg (fun q=>some (AO.row _ _ q)) (by first|rfl|(simp;done)|(simp [eInt];done)|(simp [eLk];done)))) rfl)
    ·have hp:¬ 0 < g:=of_decide_eq_false hp
     obtain rfl:l2=[]:=by
      rw [← e2,if_pos]
      obtain rfl:g=0:=by omega
      rfl
     repeat (first|refine W.go rfl ?_|refine WL.ev rfl ?_|refine WL.opno rfl rfl rfl rfl rfl rfl rfl ?_|refine W.condF rfl ?_)
     refine (?_:Tr _ _ _)
     exact (zqu (fun q=>q) (by repeat (first|exact trivial|refine ⟨⟨?_,?_,?_⟩,?_⟩|rfl|exact congrArg (fun q=>some (AO.row _ _ q)) (by first|rfl|(simp;done)|(simp [eInt];done)|(simp [eLk];done)))) rfl)
   ·repeat refine W.go rfl ?_
    refine (?_:WL _ _ _ _ _ _)
    refine WL.meet2 ⟨[(0,.sc (.int .u8 s)),(2,.sc (.int .i64 L)),(4,.pt 0 0 0),(7,.sl 1)],[(0,.box 48 (eStp (c,f,r,g,h))),(1,.row 3 1 (l1.map eInt++l2.map eInt++l3.map eInt))],2⟩ ?_ ?_
    ·refine WL.partG rfl rfl rfl rfl (fun hp=>?_) (fun hp=>?_)
     ·have hp:0 < h:=of_decide_eq_true hp
      repeat (first|refine WL.ev rfl ?_|refine WL.gyes rfl rfl rfl rfl ?_)
      refine (?_:WL _ _ _ _ _ _)
      refine WL.vl rfl (WV.call rfl (callF Tryz.func114 rfl rfl) rfl rfl (Ctr.of_sc (v:=.string (bs (rH s h L))) rfl (fun _=>.sc _) fun w=>(rhold_any s h L w hs hh).mono fun e w2 ⟨he,hw⟩=>⟨he,hw ▸ Below.refl _ _⟩)) ?_
      repeat (first|refine WL.ev rfl ?_|refine WL.gyes rfl rfl rfl rfl ?_)
      refine (?_:W _ _ _ _ _)
      have hv0:(h == 0)=false:=by simp;omega
      (refine W.cond rfl (fun hif=>?_) (fun hif=>?_)<;>(try simp only [decide_eq_true_eq,decide_eq_false_iff_not,Int.not_lt,Int.not_le,Bool.not_eq_true',Bool.not_eq_false'] at hif))
      ·obtain rfl:l3=[4]:=by
        rw [← e3,if_neg]
        unfold okH
        rw [hv0,show rH s h L=[] by simpa using hif];decide
       repeat (first|refine W.go rfl ?_|refine WL.ev rfl ?_|refine WL.app rfl rfl rfl zqs ?_)
       refine (?_:Tr _ _ _)
       exact (zqu (fun q=>bif Nat.beq q 1 then 3 else q) (by repeat (first|exact trivial|refine ⟨⟨?_,?_,?_⟩,?_⟩|rfl|exact congrArg (fun q=>some (AO.row _ _ q)) (by first|rfl|(simp;done)|(simp [eInt];done)|(simp [eLk];done)))) rfl)
      ·obtain rfl:l3=[]:=by
        rw [← e3,if_pos]
        unfold okH
        rw [hv0,Bool.false_or]
        have:rH s h L≠[]:=by simpa using hif
        simpa using this
       repeat refine W.go rfl ?_
       refine (?_:Tr _ _ _)
       exact (zqu (fun q=>q) (by repeat (first|exact trivial|refine ⟨⟨?_,?_,?_⟩,?_⟩|rfl|exact congrArg (fun q=>some (AO.row _ _ q)) (by first|rfl|(simp;done)|(simp [eInt];done)|(simp [eLk];done)))) rfl)
     ·have hp:¬ 0 < h:=of_decide_eq_false hp
      obtain rfl:l3=[]:=by
       rw [← e3,if_pos]
       obtain rfl:h=0:=by omega
       rfl
      repeat (first|refine W.go rfl ?_|refine WL.ev rfl ?_|refine WL.opno rfl rfl rfl rfl rfl rfl rfl ?_|refine W.condF rfl ?_)
      refine (?_:Tr _ _ _)
      exact (zqu (fun q=>q) (by repeat (first|exact trivial|refine ⟨⟨?_,?_,?_⟩,?_⟩|rfl|exact congrArg (fun q=>some (AO.row _ _ q)) (by first|rfl|(simp;done)|(simp [eInt];done)|(simp [eLk];done)))) rfl)
    ·repeat refine W.go rfl ?_
     refine (?_:W _ _ _ _ _)
     refine W.tr (Tr.freeze 1 rfl) ?_
     exact W.ret (fin1 rfl rfl (show AV.ls 1 (l1.map eInt++l2.map eInt++l3.map eInt)=_ by rw [List.map_append,List.map_append]) rfl)
end
end Go.Proofs.YtaeelcfjkhfpkaaGreat
