/- Plain of the program: each sign written. -/
import Derived.Test.YtgelfflighgajaaGreatDoorESAq
import Derived.Test.YtgelfflighgajaaGreatDoorLk1Aq
import Derived.Test.YtgelfflighgajaaGreatDoorLk2Aq
import Derived.Test.YtgelfflighgajaaGreatDoorLk3Aq
import Derived.Test.YtgelfflighgajaaGreatDoorLk4Aq
import Derived.Test.YtgelfflighgajaaGreatDoorFSAq
set_option linter.unusedVariables false
set_option linter.unusedSimpArgs false
namespace Go.Proofs.YtgelfflighgajaaGreatDoor
open Go.RowKit
set_option maxRecDepth 100000
set_option maxHeartbeats 4000000
theorem Tr.nilLs {C:Cx} {σ:St} {t:Tmp} (n:Nat) (h:look t σ.t=some (.sc (.slice none 0 0))):Tr C σ (σ.put t (.ls n [])):=fun G a w ok=>by
 refine ⟨G,ok.sz,ok.df,fun i av hi=>?_,ok.bel,ok.fw,ok.f0,ok.f1,ok.ob,ok.my,ok.dj,ok.dF⟩
 by_cases e:i=t
 ·subst e
  rw [show look i (σ.put i (.ls n [])).t=some (.ls n []) from look_set_same] at hi
  cases hi
  obtain ⟨h1,h2,h3⟩:=ok.tm i _ h
  refine ⟨h1,.ls _ _,?_⟩
  rw [h3.sc_eq]
  exact .pu _ _ (.ls n [] none 0 ⟨0,0,none⟩ (fun _ _=>undef) (by simp) (by simp) (fun h=>absurd h (by simp)) (fun i r j av h=>by simp at h) (fun i r j av h=>by simp at h))
 ·rw [show look i (σ.put t (.ls n [])).t=look i σ.t from look_set_other e] at hi
  exact ok.tm i av hi
theorem args_pc {F:View} {w:World} {p:Pce} {pre post:List AV} {xs ys vs:List Value} (hs:scs pre=some xs) (hs2:scs post=some ys) (hF:∀ p u,F p=some u→w.cell? p=some u)
  (hR:vs.length=(pre++ePce p::post).length∧∀ (i:Nat) av u,(pre++ePce p::post)[i]?=some av→vs[i]?=some u→RP F av u):∃ M,PcAt w w.heap.size M p∧vs=xs++pcValue M p::ys:=by
 have hG:∀ i av u,(pre++ePce p::post)[i]?=some av→vs[i]?=some u→R ⟨F,fun _=>0,fun _=>0,fun _=>undef,fun _ _=>False⟩ av u:=fun i av u a b=>.pu _ _ (hR.2 i av u a b)
 have hlen:vs.length=pre.length+(post.length+1):=by rw [hR.1];simp
 have e1:vs.take pre.length=xs:=scs_of hs (by simp;omega) fun i av u a b=>by
  have hi:i<pre.length:=(List.getElem?_eq_some_iff.1 a).1
  rw [List.getElem?_take_of_lt hi] at b
  exact hG i av u (by rw [List.getElem?_append_left hi];exact a) b
 have e2:vs.drop (pre.length+1)=ys:=scs_of hs2 (by simp;omega) fun i av u a b=>by
  rw [List.getElem?_drop] at b
  exact hG (pre.length+1+i) av u (by rw [List.getElem?_append_right (by omega),show pre.length+1+i-pre.length=i+1 by omega];exact a) b
 have hp:vs[pre.length]?=some (vs[pre.length]'(by omega)):=List.getElem?_eq_getElem (by omega)
 obtain ⟨M,eM,hM⟩:=pc_of_rp hF (hR.2 pre.length _ _ (by rw [List.getElem?_append_right (Nat.le_refl _),Nat.sub_self];rfl) hp)
 refine ⟨M,hM,?_⟩
 rw [← e1,← e2,← eM]
 conv=>lhs;rw [← List.take_append_drop pre.length vs]
 congr 1
 rw [List.drop_eq_getElem_cons (by omega)]
theorem eLk_of (x:Lck) (j:Nat) (av:AV) (h:(eLk x)[j]?=some av):∃ u,av=.sc u∧(lckCells x)[j]?=some u∧u.oneCell'=true:=by
 match j with
 | 0=>cases h;exact ⟨_,rfl,rfl,rfl⟩
 | 1=>cases h;exact ⟨_,rfl,rfl,rfl⟩
 | 2=>cases h;exact ⟨_,rfl,rfl,rfl⟩
 | j+3=>simp [eLk] at h
theorem Ctr.of_lk {P:Program} {f:FuncId} {p:Pce} {pre post:List AV} {xs ys:List Value} {l:List Lck} (hs:scs pre=some xs) (hs2:scs post=some ys)
  (h:∀ w M,PcAt w w.heap.size M p→Calls P f (xs++pcValue M p::ys).toArray w (LkPost l w)):Ctr P f (pre++ePce p::post) (.ls 3 (l.map eLk)):=by
 intro w F vs hF hR
 obtain ⟨M,hM,rfl⟩:=args_pc hs hs2 hF hR
 refine (h w M hM).mono fun e w' ⟨A,d,he,hb,hr,hA,hc⟩=>⟨_,newF F w w',he,hb,newF_le hF,newF_fw hF hb,newF_new,rp_of_rd hr hA hc (fun _=>rfl) eLk_of⟩
def sysV (s:Int):Value:=if s=1 then .iface 253 (.agg #[]) else if s=2 then .iface 257 (.agg #[]) else if s=3 then .iface 259 (.agg #[]) else if s=4 then .iface 261 (.agg #[]) else .nilIface
theorem sys_cases {s:Int} (h:1≤s∧s≤4):s=1∨s=2∨s=3∨s=4:=by omega
theorem of_FS (s:Int):Ctr Tryz.prog 122 [.sc (.int .u8 s)] (.tu [.sc (sysV s),.sc (.bool (decide (1≤s∧s≤4)))]):=by
 refine Ctr.of_sc (xs:=[.int .u8 s]) (v:=.tuple #[sysV s,.bool (decide (1≤s∧s≤4))]) rfl (fun F=>.tu _ _ rfl fun i av u a b=>?_) fun w=>?_
 ·match i with
  | 0=>cases a;cases b;exact .sc _
  | 1=>cases a;cases b;exact .sc _
  | i+2=>simp at a
 ·by_cases h:1≤s∧s≤4
  ·rcases sys_cases h with rfl|rfl|rfl|rfl
   ·exact (of_1 w).mono fun e w' ⟨he,hw⟩=>⟨he,hw ▸ Below.refl _ _⟩
   ·exact (of_2 w).mono fun e w' ⟨he,hw⟩=>⟨he,hw ▸ Below.refl _ _⟩
   ·exact (of_3 w).mono fun e w' ⟨he,hw⟩=>⟨he,hw ▸ Below.refl _ _⟩
   ·exact (of_4 w).mono fun e w' ⟨he,hw⟩=>⟨he,hw ▸ Below.refl _ _⟩
  ·have e:sysV s=.nilIface:=by
    unfold sysV
    rw [if_neg (by omega),if_neg (by omega),if_neg (by omega),if_neg (by omega)]
   rw [e,decide_eq_false h]
   exact (of_bad s w (by omega)).mono fun e w' ⟨he,hw⟩=>⟨he,hw ▸ Below.refl _ _⟩
theorem plack_FS (s:Int) (h:1≤s∧s≤4) (p:Pce) (i:Nat) (hi:i<p.evs.length) (hO:PcOk p) (hv:StopsIn p.evs[i]) :
  Ctr Tryz.prog 175 [.sc (sysV s),ePce p,.sc (.int .i64 i)] (.ls 3 ((lackE s p i p.evs[i]).map eLk)):=by
 rcases sys_cases h with rfl|rfl|rfl|rfl
 ·exact Ctr.of_lk (pre:=[.sc (sysV 1)]) (post:=[.sc (.int .i64 i)]) rfl rfl fun w M hM=>plack_1 M p i hi w hM hO hv
 ·exact Ctr.of_lk (pre:=[.sc (sysV 2)]) (post:=[.sc (.int .i64 i)]) rfl rfl fun w M hM=>plack_2 M p i hi w hM hO hv
 ·exact Ctr.of_lk (pre:=[.sc (sysV 3)]) (post:=[.sc (.int .i64 i)]) rfl rfl fun w M hM=>plack_3 M p i hi w hM hO hv
 ·exact Ctr.of_lk (pre:=[.sc (sysV 4)]) (post:=[.sc (.int .i64 i)]) rfl rfl fun w M hM=>plack_4 M p i hi w hM hO hv
theorem pCheck_FS (p:Pce) (hO:PcOk p):Ctr Tryz.prog 52 [ePce p] (.sc (.int .i64 (pceE p))) :=
 Ctr.of_pc (pre:=[]) (post:=[]) rfl rfl (fun _=>.sc _) fun w M hM=>pCheck_any M p w hM hO
def lksR (s:Int) (p:Pce):List Lck:=if (1≤s∧s≤4)∧pceE p=0 then lksTo s p p.evs.length else []
def lksE (s:Int) (p:Pce):Int:=if 1≤s∧s≤4 then pceE p else 30
theorem lks_bad {s:Int} {p:Pce} (h:¬ (1≤s∧s≤4)):lksR s p=[]∧lksE s p=30:=⟨if_neg fun x=>h x.1,if_neg h⟩
theorem lks_err {s:Int} {p:Pce} (h:1≤s∧s≤4) (h2:pceE p≠0):lksR s p=[]∧lksE s p=pceE p:=⟨if_neg fun x=>h2 x.2,if_pos h⟩
theorem lks_ok {s:Int} {p:Pce} (h:1≤s∧s≤4) (h2:pceE p=0):lksR s p=lksTo s p p.evs.length∧lksE s p=0:=⟨if_pos ⟨h,h2⟩,by rw [← h2];exact if_pos h⟩
theorem pLacks_FS (s:Int) (p:Pce) (hO:PcOk p):Ctr Tryz.prog 138 [.sc (.int .u8 s),ePce p] (.tu [.ls 3 ((lksR s p).map eLk),.sc (.int .i64 (lksE s p))]):=by
 refine Ctr.intro Tryz.func138 rfl Tryz.ntmps138 (Nat.le_of_ble_eq_true rfl) (bd_all rfl) fun w0 F0=>?_;dsimp only [St.init,number,Nat.reduceAdd]
 have hn3:=hO.n3
 repeat refine W.go rfl ?_
 refine (?_:WL _ _ _ _ _ _)
 dsimp only [St.put,Nat.reduceAdd]
 refine WL.vl rfl (WV.call rfl (callF Tryz.func122 rfl rfl) rfl rfl (of_FS s)) ?_
 repeat (first|refine W.go rfl ?_|refine WL.ev rfl ?_)
 refine (?_:W _ _ _ _ _)
 dsimp only [St.put,Nat.reduceAdd]
 (refine W.cond rfl (fun hif=>?_) (fun hif=>?_)<;>(try simp only [decide_eq_true_eq,decide_eq_false_iff_not,Int.not_lt,Int.not_le,Bool.not_eq_true',Bool.not_eq_false'] at hif))
 ·have hs:¬ (1≤s∧s≤4):=by simpa using hif
  rw [(lks_bad hs).1,(lks_bad hs).2]
  repeat refine W.go rfl ?_
  refine (?_:W _ _ _ _ _)
  refine W.tr (Tr.nilLs (t:=4) 3 rfl) ?_
  exact W.ret (fin2 rfl rfl rfl rfl rfl rfl rfl)
 have hs:1≤s∧s≤4:=by simpa using hif
 repeat refine W.go rfl ?_
 refine (?_:WL _ _ _ _ _ _)
 refine WL.vl rfl (WV.call rfl (callF Tryz.func52 rfl rfl) rfl rfl (pCheck_FS p hO)) ?_
 repeat (first|refine W.go rfl ?_|refine WL.ev rfl ?_)
 refine (?_:W _ _ _ _ _)
 dsimp only [St.put,Nat.reduceAdd]
 (refine W.cond rfl (fun hif=>?_) (fun hif=>?_)<;>(try simp only [decide_eq_true_eq,decide_eq_false_iff_not,Int.not_lt,Int.not_le,Bool.not_eq_true',Bool.not_eq_false'] at hif))
 ·have h0:pceE p≠0:=by simpa using hif
  rw [(lks_err hs h0).1,(lks_err hs h0).2]
  repeat refine W.go rfl ?_
  refine (?_:W _ _ _ _ _)
  dsimp only [St.put,Nat.reduceAdd]
  refine W.tr (Tr.nilLs (t:=4) 3 rfl) ?_
  exact W.ret (fin2 rfl rfl rfl rfl rfl rfl rfl)
 have h0:pceE p=0:=by simpa using hif
 rw [(lks_ok hs h0).1,(lks_ok hs h0).2]
 repeat (first|refine W.go rfl ?_|refine WL.ev rfl ?_|refine WL.len rfl rfl (by first|exact List.length_map _|exact List.length_replicate|rfl) ?_)
 refine (?_:W _ _ _ _ _)
 dsimp only [St.put,Nat.reduceAdd]
 refine W.tr (Tr.nil (t:=9) 308 3 rfl rfl) ?_
 refine W.loop (fun k:Nat=>k≤p.evs.length) (fun k=>⟨[(3,.pt 0 0 0),(6,.sc (sysV s)),(9,.sl 1),(25,.sc (.int .i64 p.evs.length)),(26,.sc (.int .i64 k))],[(0,.box 28 (ePce p).cells),(1,.row 308 3 ((lksTo s p k).map eLk))],2⟩) (fun k=>p.evs.length - k) 0 (by omega) (Tr.ren id (by repeat (first|exact trivial|refine ⟨⟨?_,?_⟩,?_⟩|rfl)) (by repeat (first|exact trivial|refine ⟨⟨?_,?_,?_⟩,?_⟩|rfl)) rfl) fun k hk=>?_
 repeat refine W.go rfl ?_
 refine (?_:W _ _ _ _ _)
 (refine W.cond rfl (fun hif=>?_) (fun hif=>?_)<;>(try simp only [decide_eq_true_eq,decide_eq_false_iff_not,Int.not_lt,Int.not_le,Bool.not_eq_true',Bool.not_eq_false'] at hif))
 ·have hk2:k < p.evs.length:=by omega
  have hl1:=lksTo_len s hO k hk
  have hl2:=lackE_len s p k p.evs[k] (hO.n4 k hk2)
  have hrow:(lksTo s p k).map eLk++(lackE s p k p.evs[k]).map eLk=(lksTo s p (k+1)).map eLk:=by rw [lksTo_at s p hk2,List.map_append]
  repeat refine W.go rfl ?_
  refine (?_:WL _ _ _ _ _ _)
  dsimp only [St.put,Nat.reduceAdd]
  refine WL.vl rfl (WV.call rfl (callF Tryz.func175 rfl rfl) rfl rfl (plack_FS s hs p k hk2 hO (stopsIn_of h0 k hk2))) ?_
  repeat (first|refine W.go rfl ?_|refine WL.ev rfl ?_|refine WL.ar rfl rfl (by unfold I64;omega) ?_|refine WL.app rfl rfl rfl (by first|omega|(simp;done)|(simp;omega)) ?_)
  dsimp only [St.put,Nat.reduceAdd]
  exact ⟨k+1,by omega,by omega,Tr.ren (fun q=>bif Nat.beq q 1 then 2 else q) (by repeat (first|exact trivial|refine ⟨⟨?_,?_⟩,?_⟩|rfl)) (by repeat (first|exact trivial|refine ⟨⟨?_,?_,?_⟩,?_⟩|exact congrArg (fun r=>some (AO.row _ _ r)) hrow|rfl)) rfl⟩
 ·have he:k=p.evs.length:=by omega
  subst he
  repeat refine W.go rfl ?_
  refine (?_:W _ _ _ _ _)
  dsimp only [St.put,Nat.reduceAdd]
  refine W.tr (Tr.freeze 1 rfl) ?_
  exact W.ret (fin2 rfl rfl rfl rfl rfl rfl rfl)
theorem pCan_FS (s:Int) (p:Pce) (hO:PcOk p):Ctr Tryz.prog 70 [.sc (.int .u8 s),ePce p] (.sc (.bool (lksE s p == 0 && ((lksR s p).length:Int) == 0))):=by
 refine Ctr.intro Tryz.func70 rfl Tryz.ntmps70 (Nat.le_of_ble_eq_true rfl) (bd_all rfl) fun w0 F0=>?_;dsimp only [St.init,number,Nat.reduceAdd]
 repeat refine W.go rfl ?_
 refine (?_:WL _ _ _ _ _ _)
 dsimp only [St.put,Nat.reduceAdd]
 refine WL.vl rfl (WV.call rfl (callF Tryz.func138 rfl rfl) rfl rfl (pLacks_FS s p hO)) ?_
 repeat (first|refine W.go rfl ?_|refine WL.ev rfl ?_)
 refine (?_:WL _ _ _ _ _ _)
 dsimp only [St.put,Nat.reduceAdd]
 have hl:(lksR s p).length≤27000:=by
  unfold lksR
  split
  ·exact lksTo_len s hO _ (Nat.le_refl _)
  ·simp
 refine WL.partG rfl rfl rfl rfl (fun hp=>?_) (fun hp=>?_)
 ·have e:lksE s p=0:=of_decide_eq_true hp
  repeat (first|refine WL.ev rfl ?_|refine WL.gyes rfl rfl rfl rfl ?_|refine WL.len rfl rfl (by first|exact List.length_map _|exact List.length_replicate|rfl) ?_)
  refine (?_:W _ _ _ _ _)
  dsimp only [St.put,Nat.reduceAdd]
  refine W.ret (fin1 rfl rfl (sc_bool ?_) rfl)
  rw [e];rfl
 ·have e:lksE s p≠0:=of_decide_eq_false hp
  repeat (first|refine WL.ev rfl ?_|refine WL.opno rfl rfl rfl rfl rfl rfl rfl ?_)
  refine (?_:W _ _ _ _ _)
  dsimp only [St.put,Nat.reduceAdd]
  refine W.ret (fin1 rfl rfl (sc_bool ?_) rfl)
  rw [show (lksE s p == 0)=false by simpa using e];rfl
end Go.Proofs.YtgelfflighgajaaGreatDoor
namespace Go.Proofs.YtgelfflighgajaaGreatDoor
open Go.RowKit
set_option maxRecDepth 100000
set_option maxHeartbeats 8000000
structure Va where
 kd:Int
 pl:Int
 ev:Ev
def eVa (v:Va):List AV:=[.sc (.int .i64 v.kd),.sc (.int .i64 v.pl),.sc (.bool v.ev.bar),.sc (.int .i64 v.ev.val),.sc (.bool v.ev.dot),.sc (.bool v.ev.three),.sc (.bool v.ev.tie),.ls 5 (v.ev.stops.map eStp)]
def sgW (e:Ev) (s:Int×Bool×Bool):Ev:={ e with val:=s.1,dot:=s.2.1,three:=s.2.2 }
def plN (evs:List Ev):Nat→List Ev
 | 0=>[]
 | k+1=>plN evs k++match evs[k]? with
  | some e=>[sgW e (sgF evs (k+1))]
  | none=>[]
theorem plN_at {evs:List Ev} {k:Nat} (h:k<evs.length):plN evs (k+1)=plN evs k++[sgW evs[k] (sgF evs (k+1))]:=by
 show plN evs k++(match evs[k]? with|some e=>_|none=>_)=_
 rw [List.getElem?_eq_getElem h]
theorem plN_length {evs:List Ev}:∀ {k:Nat},k≤evs.length→(plN evs k).length=k
 | 0,_=>rfl
 | k+1,h=>by rw [plN_at (by omega),List.length_append,plN_length (by omega)];rfl
def plE (p:Pce):List Ev:=plN p.evs p.evs.length
theorem plE_length (p:Pce):(plE p).length=p.evs.length:=plN_length (Nat.le_refl _)
def noP:Pce:=⟨[],[],[]⟩
def plP (p:Pce):Pce:=if pceE p=0 then ⟨p.cs,p.st,plE p⟩ else noP
theorem sgF_at {evs:List Ev} {k:Nat} (h:k<evs.length):sgF evs (k+1)=if evs[k].val=0 then sgF evs k else (evs[k].val,evs[k].dot,evs[k].three):=by
 show (match evs[k]? with|some e=>_|none=>_)=_
 rw [List.getElem?_eq_getElem h]
theorem plN_stops {evs:List Ev}:∀ {k:Nat},k≤evs.length→∀ e∈plN evs k,∃ f∈evs,e.stops=f.stops
 | 0,_,e,h=>by cases h
 | k+1,hk,e,h=>by
  rw [plN_at (by omega)] at h
  rcases List.mem_append.1 h with h|h
  ·exact plN_stops (by omega) e h
  ·rw [List.mem_singleton] at h
   exact ⟨evs[k],List.getElem_mem _,by rw [h];rfl⟩
/-! Whether variants fit. -/
def vaB (n:Int) (v:Va):Bool:=decide (1≤v.kd∧v.kd≤3∧0≤v.pl∧v.pl≤n∧(v.pl=n→v.kd=3))
def vaA (u v:Va):Bool:=decide (u.pl<v.pl∨(u.pl=v.pl∧¬ u.kd<3))
def vaOk (l:List Va) (n:Int) (i:Nat):Bool:=match l[i]? with
 | none=>true
 | some v=>vaB n v && match i with
  | 0=>true
  | j+1=>match l[j]? with
   | none=>true
   | some u=>vaA u v
def fitV (l:List Va) (n:Int):Bool:=(List.range l.length).all (vaOk l n)
theorem fitV_no {l:List Va} {n:Int} {i:Nat} (h:i<l.length) (h2:vaOk l n i=false):fitV l n=false:=by
 unfold fitV
 rw [List.all_eq_false]
 exact ⟨i,List.mem_range.2 h,by simp [h2]⟩
theorem fitV_yes {l:List Va} {n:Int} (h:∀ i,i<l.length→vaOk l n i=true):fitV l n=true:=by
 unfold fitV
 rw [List.all_eq_true]
 exact fun i hi=>h i (List.mem_range.1 hi)
theorem fitV_at {l:List Va} {n:Int} (h:fitV l n=true) {i:Nat} (hi:i<l.length):vaOk l n i=true:=by
 unfold fitV at h
 exact List.all_eq_true.1 h i (List.mem_range.2 hi)
theorem vaOk_0 {l:List Va} {n:Int} (h:0<l.length):vaOk l n 0=vaB n l[0]:=by
 unfold vaOk
 rw [List.getElem?_eq_getElem h]
 simp
theorem vaOk_s {l:List Va} {n:Int} {i:Nat} (h:i+1<l.length):vaOk l n (i+1)=(vaB n l[i+1] && vaA (l[i]'(by omega)) l[i+1]):=by
 unfold vaOk
 rw [List.getElem?_eq_getElem h]
 simp only [List.getElem?_eq_getElem (show i<l.length by omega)]
theorem fit_b {l:List Va} {n:Int} (h:fitV l n=true) {i:Nat} (hi:i<l.length):1≤l[i].kd∧l[i].kd≤3∧0≤l[i].pl∧l[i].pl≤n∧(l[i].pl=n→l[i].kd=3):=by
 have:=fitV_at h hi
 cases i with
 | zero=>rw [vaOk_0 hi] at this;exact of_decide_eq_true this
 | succ i=>rw [vaOk_s hi,Bool.and_eq_true] at this;exact of_decide_eq_true this.1
theorem fit_a {l:List Va} {n:Int} (h:fitV l n=true) {i:Nat} (hi:i+1<l.length):(l[i]'(by omega)).pl<l[i+1].pl∨((l[i]'(by omega)).pl=l[i+1].pl∧¬ (l[i]'(by omega)).kd<3):=by
 have:=fitV_at h hi
 rw [vaOk_s hi,Bool.and_eq_true] at this
 exact of_decide_eq_true this.2
/-! What Apply lays. -/
def atV (i:Nat) (v:Va):Bool:=decide (v.pl=(i:Int))
def hdV (i:Nat) (l:List Va):List Va:=l.takeWhile (atV i)
def tlV (i:Nat) (l:List Va):List Va:=l.dropWhile (atV i)
def vaE (l:List Va):List Ev:=(l.filter fun v=>!(v.kd == 2)).map Va.ev
def stV (l:List Va):Bool:=l.all fun v=>v.kd == 3
def outV (evs:List Ev) (i:Nat) (l:List Va):List Ev:=vaE (hdV i l)++match evs[i]? with
 | some e=>if stV (hdV i l)=true then [e] else []
 | none=>[]
def appS (evs:List Ev) (l:List Va):Nat→List Ev×List Va
 | 0=>([],l)
 | i+1=>((appS evs l i).1++outV evs i (appS evs l i).2,tlV i (appS evs l i).2)
def apvE (evs:List Ev) (l:List Va):List Ev:=(appS evs l (evs.length+1)).1
theorem outV_at {evs:List Ev} {i:Nat} {l:List Va} (h:i<evs.length):outV evs i l=vaE (hdV i l)++if stV (hdV i l)=true then [evs[i]] else []:=by
 unfold outV;rw [List.getElem?_eq_getElem h]
theorem outV_end {evs:List Ev} {l:List Va}:outV evs evs.length l=vaE (hdV evs.length l):=by
 unfold outV;rw [List.getElem?_eq_none (Nat.le_refl _),List.append_nil]
theorem vaE_len (l:List Va):(vaE l).length≤l.length:=by
 unfold vaE;rw [List.length_map];exact List.length_filter_le _ _
theorem hd_tl (i:Nat) (l:List Va):(hdV i l).length+(tlV i l).length=l.length:=by
 unfold hdV tlV
 have:=congrArg List.length (List.takeWhile_append_dropWhile (p:=atV i) (l:=l))
 rw [List.length_append] at this;exact this
theorem appS_len (evs:List Ev) (l:List Va):∀ i,(appS evs l i).1.length+(appS evs l i).2.length≤l.length+i
 | 0=>by simp [appS]
 | i+1=>by
  have h1:=appS_len evs l i
  have h2:=hd_tl i (appS evs l i).2
  have h3:=vaE_len (hdV i (appS evs l i).2)
  have h4:(outV evs i (appS evs l i).2).length≤(vaE (hdV i (appS evs l i).2)).length+1:=by
   unfold outV
   rw [List.length_append]
   split
   ·split<;>simp
   ·simp
  show ((appS evs l i).1++outV evs i (appS evs l i).2).length+(tlV i (appS evs l i).2).length≤_
  rw [List.length_append]
  omega
theorem apvE_len (evs:List Ev) (l:List Va):(apvE evs l).length≤l.length+evs.length+1:=by
 have:=appS_len evs l (evs.length+1)
 unfold apvE;omega
theorem tlV_drop (i:Nat) (l:List Va):tlV i l=l.drop (hdV i l).length:=by
 have h:=List.takeWhile_append_dropWhile (p:=atV i) (l:=l)
 have h2:=List.drop_left (l₁:=l.takeWhile (atV i)) (l₂:=l.dropWhile (atV i))
 rw [h] at h2
 exact h2.symm
theorem appS_drop (evs:List Ev) (l:List Va):∀ i,∃ k,k≤l.length∧(appS evs l i).2=l.drop k
 | 0=>⟨0,Nat.zero_le _,rfl⟩
 | i+1=>by
  obtain ⟨k,hk,e⟩:=appS_drop evs l i
  have h2:=hd_tl i (appS evs l i).2
  have h3:(appS evs l i).2.length=l.length-k:=by rw [e,List.length_drop]
  refine ⟨k+(hdV i (appS evs l i).2).length,by omega,?_⟩
  show tlV i _=_
  rw [tlV_drop,e,List.drop_drop]
theorem appS_mem (evs:List Ev) (l:List Va):∀ i,∀ e∈(appS evs l i).1,e∈evs∨∃ v∈l,e=v.ev
 | 0,e,h=>by cases h
 | i+1,e,h=>by
  rcases List.mem_append.1 h with h|h
  ·exact appS_mem evs l i e h
  ·unfold outV at h
   rcases List.mem_append.1 h with h|h
   ·obtain ⟨v,hv,rfl⟩:=List.mem_map.1 h
    obtain ⟨k,hk,e⟩:=appS_drop evs l i
    have h1:=(List.mem_filter.1 hv).1
    have h2:v∈(appS evs l i).2:=(List.takeWhile_sublist _).mem h1
    rw [e] at h2
    exact .inr ⟨v,List.mem_of_mem_drop h2,rfl⟩
   ·split at h
    ·split at h
     ·rw [List.mem_singleton] at h
      rename_i e' he _
      rw [h]
      exact .inl (List.mem_of_getElem? he)
     ·cases h
    ·cases h
theorem take_drop_w {α:Type} {f:α→Bool}:∀ {l:List α} {q:Nat},q≤l.length→(∀ x∈l.take q,f x=true)→(∀ h:q<l.length,f l[q]=false)→l.takeWhile f=l.take q∧l.dropWhile f=l.drop q
 | [],q,h,_,_=>by simp at h;simp
 | x::r,0,h,h1,h2=>by
  have:=h2 (by simp)
  simp at this
  simp [List.takeWhile_cons,List.dropWhile_cons,this]
 | x::r,q+1,h,h1,h2=>by
  have hx:=h1 x (by simp)
  obtain ⟨a,b⟩:=take_drop_w (l:=r) (q:=q) (by simpa using h) (fun y hy=>h1 y (by simp [hy])) (fun hq=>by have:=h2 (by simpa using hq);simpa using this)
  simp [List.takeWhile_cons,List.dropWhile_cons,hx,a,b]
theorem take_wh {f:Va→Bool} {l:List Va} {j:Nat} (hj:j≤l.length) (h1:∀ v∈l.take j,f v=true) (h2:∀ h:j<l.length,f l[j]=false):l.takeWhile f=l.take j∧l.dropWhile f=l.drop j:=by
 have h:=take_drop_w (f:=f) hj h1 h2
 exact h
theorem fit_hd {l:List Va} {n:Int} (hf:fitV l n=true) {k:Nat} (hk:k<l.length) {i:Nat} (h1:l[k].pl=(i:Int)) (h3:¬ l[k].kd=3):∀ h:k+1<l.length,¬ l[k+1].pl=(i:Int):=fun h=>by
 have ha:=fit_a hf h
 have hb:=fit_b hf hk
 omega
/-! What Apply answers. -/
def apO (a:Pce) (l:List Va):Pce:=⟨a.cs,a.st,apvE (plE a) l⟩
def apX (a:Pce) (l:List Va):Int:=if pceE a≠0 then pceE a else if fitV l a.evs.length=false then 111 else pceE (apO a l)
def apP (a:Pce) (l:List Va):Pce:=if apX a l=0 then apO a l else noP
theorem apX_bad {a:Pce} {l:List Va} (h:pceE a≠0):apX a l=pceE a∧apP a l=noP:=by
 have e:apX a l=pceE a:=if_pos h
 exact ⟨e,by unfold apP;rw [e,if_neg h]⟩
theorem apX_no {a:Pce} {l:List Va} (h:pceE a=0) (h2:fitV l a.evs.length=false):apX a l=111∧apP a l=noP:=by
 have e:apX a l=111:=by unfold apX;rw [if_neg (fun k=>k h),if_pos h2]
 exact ⟨e,by unfold apP;rw [e];rfl⟩
theorem apX_ok {a:Pce} {l:List Va} (h:pceE a=0) (h2:fitV l a.evs.length=true):apX a l=pceE (apO a l):=by
 unfold apX;rw [if_neg (fun k=>k h),if_neg (by simp [h2])]
end Go.Proofs.YtgelfflighgajaaGreatDoor
namespace Go.Proofs.YtgelfflighgajaaGreatDoor
open Go.RowKit
set_option maxHeartbeats 8000000
set_option maxRecDepth 100000
theorem eqs_sign (x:Int) (a b:Bool) (y:Int) (c d:Bool) (w:World):(Op.equalIn 10000 33 (.agg #[.int .i64 x,.bool a,.bool b]) (.agg #[.int .i64 y,.bool c,.bool d])).run Tryz.prog w=.ok (decide (x=y∧a=c∧b=d)) w:=by
 rw [run_equalIn_agg w 9999 _ _ _ (by kernel_rfl) (by kernel_rfl)]
 refine Eq.trans (congrArg (fun fs=>Sem.run _ (Op.eqFields 9999 _ _ fs) w) (rfl:(Tryz.prog.fieldsOf 33).toList=[_,_,_])) ?_
 by_cases h1:x=y
 ·subst h1
  cases a<;>cases b<;>cases c<;>cases d<;>simp [go_sem]
 ·simp [go_sem,h1]
theorem clnStp_FS (l:List Stp) (h:l.length≤100000):Ctr Tryz.prog 51 [.ls 5 (l.map eStp)] (.ls 5 (l.map eStp)):=by
 refine Ctr.intro Tryz.func51 rfl Tryz.ntmps51 (Nat.le_of_ble_eq_true rfl) (bd_all rfl) fun w0 F0=>?_;dsimp only [St.init,number,Nat.reduceAdd]
 repeat refine W.go rfl ?_
 refine (?_:WL _ _ _ _ _ _)
 dsimp only [St.put,Nat.reduceAdd]
 refine WL.nlq rfl rfl fun b hb=>?_
 cases b with
 | true =>
  have e:=hb rfl
  repeat (first|refine W.go rfl ?_|refine WL.nil ?_|refine W.condT rfl ?_)
  refine (?_:W _ _ _ _ _)
  dsimp only [St.put,Nat.reduceAdd]
  refine W.tr (Tr.nilR (t:=2) 5 rfl) ?_
  rw [e]
  exact W.ret (fin1 rfl rfl rfl rfl)
 | false =>
  repeat (first|refine W.go rfl ?_|refine WL.nil ?_|refine WL.ev rfl ?_|refine WL.app rfl rfl rfl (by first|omega|(simp;done)|(simp;omega)) ?_|refine W.condF rfl ?_)
  refine (?_:W _ _ _ _ _)
  dsimp only [St.put,Nat.reduceAdd]
  refine W.tr (Tr.freeze 1 rfl) ?_
  exact W.ret (fin1 rfl rfl rfl rfl)
theorem clnCrs_FS (l:List (Int×Int×Bool)) (h:l.length≤100000):Ctr Tryz.prog 204 [.ls 3 (l.map eCrs)] (.ls 3 (l.map eCrs)):=by
 refine Ctr.intro Tryz.func204 rfl Tryz.ntmps204 (Nat.le_of_ble_eq_true rfl) (bd_all rfl) fun w0 F0=>?_;dsimp only [St.init,number,Nat.reduceAdd]
 repeat refine W.go rfl ?_
 refine (?_:WL _ _ _ _ _ _)
 dsimp only [St.put,Nat.reduceAdd]
 refine WL.nlq rfl rfl fun b hb=>?_
 cases b with
 | true =>
  have e:=hb rfl
  repeat (first|refine W.go rfl ?_|refine WL.nil ?_|refine W.condT rfl ?_)
  refine (?_:W _ _ _ _ _)
  dsimp only [St.put,Nat.reduceAdd]
  refine W.tr (Tr.nilR (t:=2) 3 rfl) ?_
  rw [e]
  exact W.ret (fin1 rfl rfl rfl rfl)
 | false =>
  repeat (first|refine W.go rfl ?_|refine WL.nil ?_|refine WL.ev rfl ?_|refine WL.app rfl rfl rfl (by first|omega|(simp;done)|(simp;omega)) ?_|refine W.condF rfl ?_)
  refine (?_:W _ _ _ _ _)
  dsimp only [St.put,Nat.reduceAdd]
  refine W.tr (Tr.freeze 1 rfl) ?_
  exact W.ret (fin1 rfl rfl rfl rfl)
theorem clnInt_FS (l:List Int) (h:l.length≤100000):Ctr Tryz.prog 205 [.ls 1 (l.map eInt)] (.ls 1 (l.map eInt)):=by
 refine Ctr.intro Tryz.func205 rfl Tryz.ntmps205 (Nat.le_of_ble_eq_true rfl) (bd_all rfl) fun w0 F0=>?_;dsimp only [St.init,number,Nat.reduceAdd]
 repeat refine W.go rfl ?_
 refine (?_:WL _ _ _ _ _ _)
 dsimp only [St.put,Nat.reduceAdd]
 refine WL.nlq rfl rfl fun b hb=>?_
 cases b with
 | true =>
  have e:=hb rfl
  repeat (first|refine W.go rfl ?_|refine WL.nil ?_|refine W.condT rfl ?_)
  refine (?_:W _ _ _ _ _)
  dsimp only [St.put,Nat.reduceAdd]
  refine W.tr (Tr.nilR (t:=2) 1 rfl) ?_
  rw [e]
  exact W.ret (fin1 rfl rfl rfl rfl)
 | false =>
  repeat (first|refine W.go rfl ?_|refine WL.nil ?_|refine WL.ev rfl ?_|refine WL.app rfl rfl rfl (by first|omega|(simp;done)|(simp;omega)) ?_|refine W.condF rfl ?_)
  refine (?_:W _ _ _ _ _)
  dsimp only [St.put,Nat.reduceAdd]
  refine W.tr (Tr.freeze 1 rfl) ?_
  exact W.ret (fin1 rfl rfl rfl rfl)
theorem pCopied_FS (e:Ev) (h:e.stops.length≤100000):Ctr Tryz.prog 154 [.ag (eEv e)] (.ag (eEv e)):=by
 refine Ctr.intro Tryz.func154 rfl Tryz.ntmps154 (Nat.le_of_ble_eq_true rfl) (bd_all rfl) fun w0 F0=>?_;dsimp only [St.init,number,Nat.reduceAdd]
 repeat refine W.go rfl ?_
 refine (?_:WL _ _ _ _ _ _)
 dsimp only [St.put,Nat.reduceAdd]
 refine WL.vl rfl (WV.call rfl (callF Tryz.func51 rfl rfl) rfl rfl (clnStp_FS e.stops h)) ?_
 repeat (first|refine W.go rfl ?_|refine WL.ev rfl ?_)
 refine (?_:W _ _ _ _ _)
 dsimp only [St.put,Nat.reduceAdd]
 exact W.ret (fin_cell rfl rfl rfl rfl rfl rfl rfl rfl)
def nxS (s:Int×Bool×Bool) (e:Ev):Int×Bool×Bool:=if e.val=0∧e.dot=false∧e.three=false then s else (e.val,e.dot,e.three)
theorem plain1_FS (e:Ev) (s:Int×Bool×Bool) :
  Cto truB 0 Tryz.prog 88 [.ag (eEv e),.pt 0 0 0] [(0,.box 33 (eSig s))] 1 (.ag (eEv (sgW e (nxS s e)))) [(0,.box 33 (eSig (nxS s e))),(1,.box 36 (eEv (sgW e (nxS s e))))] 2:=by
 refine Cto.intro truS Tryz.func88 rfl Tryz.ntmps88 (Nat.le_of_ble_eq_true rfl) rfl fun w0 F0 fp pg hB=>?_
 dsimp only [number,Nat.reduceAdd]
 obtain ⟨n,hn⟩:∃ n,nxS s e=n:=⟨_,rfl⟩
 have hn0:=hn
 unfold nxS at hn0
 rw [hn]
 repeat refine W.go rfl ?_
 refine (?_:WL _ _ _ _ _ _)
 dsimp only [St.put,Nat.reduceAdd]
 refine WL.vl rfl (WV.ane rfl rfl rfl rfl rfl (by kernel_rfl) (fun w=>eqs_sign _ _ _ _ _ _ w)) ?_
 repeat refine WL.nil ?_
 refine (?_:W _ _ _ _ _)
 dsimp only [St.put,Nat.reduceAdd]
 (refine W.cond rfl (fun hif=>?_) (fun hif=>?_)<;>(try simp only [decide_eq_true_eq,decide_eq_false_iff_not,Int.not_lt,Int.not_le,Bool.not_eq_true',Bool.not_eq_false'] at hif))
 ·rw [if_neg (by simpa using hif)] at hn0
  subst hn0
  repeat refine W.go rfl ?_
  refine (?_:W _ _ _ _ _)
  dsimp only [St.put,Nat.reduceAdd]
  refine W.tr (σ':=⟨[(3,.pt 1 0 0)],[(0,.box 33 (eSig (e.val,e.dot,e.three))),(1,.box 36 (eEv (sgW e (e.val,e.dot,e.three))))],2⟩) (Tr.ren (fun q=>bif Nat.beq q 1 then 2 else q) (by repeat (first|exact trivial|refine ⟨⟨?_,?_⟩,?_⟩|rfl)) (by repeat (first|exact trivial|refine ⟨⟨?_,?_,?_⟩,?_⟩|rfl|exact congrArg (fun q=>some (AO.row _ _ q)) (by first|rfl|(simp;done)|(simp [eInt];done)|(simp [eLk];done)))) rfl) ?_
  exact W.ret (finM rfl rfl rfl rfl rfl)
 ·rw [if_pos (by simpa using hif)] at hn0
  subst hn0
  repeat refine W.go rfl ?_
  refine (?_:W _ _ _ _ _)
  dsimp only [St.put,Nat.reduceAdd]
  refine W.tr (σ':=⟨[(3,.pt 1 0 0)],[(0,.box 33 (eSig s)),(1,.box 36 (eEv (sgW e s)))],2⟩) (Tr.ren (fun q=>bif Nat.beq q 1 then 2 else q) (by repeat (first|exact trivial|refine ⟨⟨?_,?_⟩,?_⟩|rfl)) (by repeat (first|exact trivial|refine ⟨⟨?_,?_,?_⟩,?_⟩|rfl|exact congrArg (fun q=>some (AO.row _ _ q)) (by first|rfl|(simp;done)|(simp [eInt];done)|(simp [eLk];done)))) rfl) ?_
  exact W.ret (finM rfl rfl rfl rfl rfl)
theorem rewr1_FS (e:Ev) (s:Int×Bool×Bool) (h:e.stops.length≤100000) :
  Cto truB 0 Tryz.prog 153 [.ag (eEv e),.pt 1 0 0] [(0,.box 33 (eSig s)),(1,.box 157 [.fn 88 [.pt 0 0 0]])] 2 (.ag (eEv (sgW e (nxS s e))))
   [(0,.box 33 (eSig (nxS s e))),(1,.box 157 [.fn 88 [.pt 0 0 0]]),(2,.box 36 (eEv (sgW e (nxS s e))))] 3:=by
 refine Cto.intro truS Tryz.func153 rfl Tryz.ntmps153 (Nat.le_of_ble_eq_true rfl) rfl fun w0 F0 fp pg hB=>?_
 dsimp only [number,Nat.reduceAdd]
 repeat refine W.go rfl ?_
 refine (?_:W _ _ _ _ _)
 dsimp only [St.put,Nat.reduceAdd]
 refine W.of_wa (by kernel_rfl) ?_
 refine WA.ds [false,false,false,true,true] [1,2] (by kernel_rfl) (by kernel_rfl) ⟨rfl,rfl,trivial⟩ ?_
 refine DSK.st rfl rfl ?_
 refine DSK.st rfl rfl ?_
 refine DSK.v0 rfl (WV.call rfl (callF Tryz.func154 rfl rfl) rfl rfl (pCopied_FS e h)) ?_
 refine DSK.ct (truH _) [0] rfl rfl (callF Tryz.func88 rfl rfl) (plain1_FS e s) rfl rfl rfl ⟨⟨rfl,rfl,rfl⟩,trivial⟩ rfl rfl rfl rfl ⟨rfl,rfl,trivial⟩ ?_
 refine DSK.sto rfl rfl rfl rfl rfl rfl rfl rfl rfl rfl rfl rfl rfl rfl ⟨rfl,rfl,trivial⟩ ?_
 refine DSK.nil ?_
 refine (?_:W _ _ _ _ _)
 dsimp only [St.put,Nat.reduceAdd]
 refine W.tr (σ':=⟨[(3,.pt 2 0 0)],[(0,.box 33 (eSig (nxS s e))),(1,.box 157 [.fn 88 [.pt 0 0 0]]),(2,.box 36 (eEv (sgW e (nxS s e))))],3⟩) (Tr.ren (fun q=>bif Nat.beq q 2 then 3 else q) (by repeat (first|exact trivial|refine ⟨⟨?_,?_⟩,?_⟩|rfl)) (by repeat (first|exact trivial|refine ⟨⟨?_,?_,?_⟩,?_⟩|rfl|exact congrArg (fun q=>some (AO.row _ _ q)) (by first|rfl|(simp;done)|(simp [eInt];done)|(simp [eLk];done)))) rfl) ?_
 exact W.ret (finM rfl rfl rfl rfl rfl)
def nxK (evs:List Ev):Nat→Int×Bool×Bool
 | 0=>(0,false,false)
 | k+1=>match evs[k]? with
  | some e=>nxS (nxK evs k) e
  | none=>nxK evs k
theorem nxK_at {evs:List Ev} {k:Nat} (h:k<evs.length):nxK evs (k+1)=nxS (nxK evs k) evs[k]:=by
 show (match evs[k]? with|some e=>_|none=>_)=_
 rw [List.getElem?_eq_getElem h]
theorem nxK_eq {evs:List Ev} (hz:∀ k (h:k<evs.length),evs[k].val=0→evs[k].dot=false∧evs[k].three=false):∀ k,k≤evs.length→nxK evs k=sgF evs k
 | 0,_=>rfl
 | k+1,h=>by
  have hk:k<evs.length:=by omega
  rw [nxK_at hk,sgF_at hk,nxK_eq hz k (by omega)]
  unfold nxS
  by_cases hv:evs[k].val=0
  ·rw [if_pos hv,if_pos ⟨hv,hz k hk hv⟩]
  ·rw [if_neg hv,if_neg (fun h=>hv h.1)]
theorem mapped_FS (evs:List Ev) (hn:evs.length≤1000) (h20:∀ k (h:k < evs.length),evs[k].stops.length≤20) (hz:∀ k (h:k < evs.length),evs[k].val=0→evs[k].dot=false∧evs[k].three=false) :
  Cto truB 0 Tryz.prog 152 [.ls 6 (evs.map eEv),.fn 153 [.pt 1 0 0]] [(0,.box 33 (eSig (0,false,false))),(1,.box 157 [.fn 88 [.pt 0 0 0]])] 2 (.ls 6 ((plN evs evs.length).map eEv))
   [(0,.box 33 (eSig (sgF evs evs.length))),(1,.box 157 [.fn 88 [.pt 0 0 0]])] 2:=by
 have hK:=nxK_eq hz
 refine Cto.intro truS Tryz.func152 rfl Tryz.ntmps152 (Nat.le_of_ble_eq_true rfl) rfl fun w0 F0 fp pg hB=>?_
 dsimp only [number,Nat.reduceAdd]
 repeat (first|refine W.go rfl ?_|refine WL.ev rfl ?_|refine WL.len rfl rfl (by first|exact List.length_map _|exact List.length_replicate|rfl) ?_)
 refine (?_:W _ _ _ _ _)
 dsimp only [St.put,Nat.reduceAdd]
 first|refine W.tr (Tr.nil (t:=5) 36 6 rfl rfl) ?_|refine WL.tr (Tr.nil (t:=5) 36 6 rfl rfl) ?_
 dsimp only [St.put,St.new,St.upd,Nat.reduceAdd]
 refine (?_:W _ _ _ _ _)
 refine W.loop (fun k:Nat=>k≤evs.length) (fun k=>⟨[(1,.fn 153 [.pt 1 0 0]),(5,.sl 2),(8,.ls 6 (evs.map eEv)),(9,.sc (.int .i64 evs.length)),(10,.sc (.int .i64 k))],[(0,.box 33 (eSig (sgF evs k))),(1,.box 157 [.fn 88 [.pt 0 0 0]]),(2,.row 36 6 ((plN evs k).map eEv))],3⟩) (fun k=>evs.length - k) 0 (by omega) (Tr.ren id (by repeat (first|exact trivial|refine ⟨⟨?_,?_⟩,?_⟩|rfl)) (by repeat (first|exact trivial|refine ⟨⟨?_,?_,?_⟩,?_⟩|rfl)) rfl) fun k hk=>?_
 have hl:=plN_length hk
 by_cases hlt:k < evs.length
 ·have hC:=rewr1_FS evs[k] (sgF evs k) (by have:=h20 k hlt;omega)
  have hnx:nxS (sgF evs k) evs[k]=sgF evs (k+1):=by rw [← hK k hk,← hK (k+1) (by omega),nxK_at hlt]
  have hrow:(plN evs k).map eEv++[eEv (sgW evs[k] (sgF evs (k+1)))]=(plN evs (k+1)).map eEv:=by rw [plN_at hlt];simp
  rw [hnx] at hC
  obtain ⟨PL,hPL⟩:∃ z,plN evs k=z:=⟨_,rfl⟩
  rw [hPL] at hl hrow ⊢
  obtain ⟨S1,hS1⟩:∃ z,sgF evs (k+1)=z:=⟨_,rfl⟩
  rw [hS1] at hC hrow
  obtain ⟨S0,hS0⟩:∃ z,sgF evs k=z:=⟨_,rfl⟩
  rw [hS0] at hC ⊢
  repeat (first|refine W.gob rfl ?_|refine WL.nil ?_|refine WL.bt rfl rfl rfl (by omega) ?_|refine WL.e1 rfl ?_|refine WL.idx rfl rfl (by omega) (by first|exact map_at (by omega)|exact map_atZ (by omega) (by omega)) ?_|refine W.condT rfl ?_)
  refine (?_:WL _ _ _ _ _ _)
  dsimp only [St.put,Nat.reduceAdd]
  refine WL.cto (truH _) [0,1] rfl rfl (callF Tryz.func153 rfl rfl) hC rfl rfl rfl ⟨⟨rfl,rfl,rfl⟩,⟨rfl,rfl,rfl⟩,trivial⟩ rfl rfl rfl rfl ?_
  repeat (first|refine W.go rfl ?_|refine WL.ev rfl ?_|refine WL.ar rfl rfl (by unfold I64;omega) ?_|refine WL.app rfl rfl rfl (by first|omega|(simp;done)|(simp;omega)) ?_)
  dsimp only [St.put,Nat.reduceAdd]
  refine ⟨k+1,by omega,by omega,?_⟩
  rw [hS1]
  exact (Tr.ren (fun q=>bif Nat.beq q 2 then 6 else q) (by repeat (first|exact trivial|refine ⟨⟨?_,?_⟩,?_⟩|rfl)) (by repeat (first|exact trivial|refine ⟨⟨?_,?_,?_⟩,?_⟩|rfl|exact congrArg (fun q=>some (AO.row _ _ q)) hrow)) rfl)
 ·obtain rfl:k=evs.length:=by omega
  repeat (first|refine W.gob rfl ?_|refine WL.nil ?_|refine WL.bf rfl rfl rfl (by omega) ?_|refine WL.e1 rfl ?_|refine W.condF rfl ?_)
  refine (?_:W _ _ _ _ _)
  dsimp only [St.put,Nat.reduceAdd]
  refine W.tr (Tr.freeze 2 rfl) ?_
  refine W.tr (σ':=⟨[(4,.ls 6 ((plN evs evs.length).map eEv))],[(0,.box 33 (eSig (sgF evs evs.length))),(1,.box 157 [.fn 88 [.pt 0 0 0]])],2⟩) (Tr.ren id (by repeat (first|exact trivial|refine ⟨⟨?_,?_⟩,?_⟩|rfl)) (by repeat (first|exact trivial|refine ⟨⟨?_,?_,?_⟩,?_⟩|rfl)) rfl) ?_
  exact W.ret (finM rfl rfl rfl rfl rfl)
theorem copiedIns_FS (cs:List (Int×Int×Bool)) (st:List Int) (h1:cs.length≤64) (h2:st.length≤64):Ctr Tryz.prog 151 [.ag (eIns cs st)] (.ag (eIns cs st)):=by
 refine Ctr.intro Tryz.func151 rfl Tryz.ntmps151 (Nat.le_of_ble_eq_true rfl) (bd_all rfl) fun w0 F0=>?_;dsimp only [St.init,number,Nat.reduceAdd]
 repeat refine W.go rfl ?_
 refine (?_:W _ _ _ _ _)
 dsimp only [St.put,Nat.reduceAdd]
 refine W.of_wa (by kernel_rfl) ?_
 refine WA.ds [false,false,false,false,false,false,false,true] [0] (by kernel_rfl) (by kernel_rfl) ⟨rfl,trivial⟩ ?_
 refine DSK.st rfl rfl ?_
 refine DSK.st rfl rfl ?_
 refine DSK.v0 rfl (WV.call rfl (callF Tryz.func204 rfl rfl) rfl rfl (clnCrs_FS cs (by omega))) ?_
 refine DSK.st rfl rfl ?_
 refine DSK.st rfl rfl ?_
 refine DSK.v0 rfl (WV.call rfl (callF Tryz.func205 rfl rfl) rfl rfl (clnInt_FS st (by omega))) ?_
 refine DSK.st rfl rfl ?_
 refine DSK.sto rfl rfl rfl rfl rfl rfl rfl rfl rfl rfl rfl rfl rfl rfl ⟨rfl,trivial⟩ ?_
 refine DSK.nil ?_
 refine (?_:W _ _ _ _ _)
 dsimp only [St.put,Nat.reduceAdd]
 exact W.ret (fin_cell rfl rfl rfl rfl rfl rfl rfl rfl)
theorem rewritten_FS (p:Pce) (hO:PcOk p) :
  Cto truB 0 Tryz.prog 87 [ePce p,.fn 88 [.pt 0 0 0]] [(0,.box 33 (eSig (0,false,false)))] 1 (.tu [ePce (plP p),.sc (.int .i64 (pceE p))])
   [(0,.box 33 (eSig (if pceE p=0 then sgF p.evs p.evs.length else (0,false,false)))),(1,.box 28 (ePce (plP p)).cells)] 2:=by
 have hC:=pCheck_FS p hO
 by_cases h0:pceE p=0
 rotate_left
 ·have e1:plP p=noP:=if_neg h0
  rw [e1,if_neg h0]
  obtain ⟨E,hE⟩:∃ E,pceE p=E:=⟨_,rfl⟩
  rw [hE] at hC h0 ⊢
  refine Cto.intro truS Tryz.func87 rfl Tryz.ntmps87 (Nat.le_of_ble_eq_true rfl) rfl fun w0 F0 fp pg hB=>?_
  dsimp only [number,Nat.reduceAdd]
  repeat refine W.go rfl ?_
  refine (?_:WL _ _ _ _ _ _)
  dsimp only [St.put,Nat.reduceAdd]
  refine WL.vl rfl (WV.call rfl (callF Tryz.func52 rfl rfl) rfl rfl hC) ?_
  repeat (first|refine W.gob rfl ?_|refine WL.nil ?_|refine WL.nt rfl rfl rfl (by omega) ?_|refine WL.e1 rfl ?_|refine W.condT rfl ?_)
  refine (?_:W _ _ _ _ _)
  dsimp only [St.put,Nat.reduceAdd]
  refine W.tr (Tr.nilC 3 0 3 rfl rfl rfl) ?_
  refine W.tr (Tr.nilC 3 1 1 rfl rfl rfl) ?_
  refine W.tr (Tr.nilC 3 2 6 rfl rfl rfl) ?_
  refine W.tr (σ':=⟨[(4,.pt 1 0 0),(5,.sc (.int .i64 E))],[(0,.box 33 (eSig (0,false,false))),(1,.box 28 (ePce noP).cells)],2⟩) (Tr.ren (fun q=>bif Nat.beq q 1 then 3 else q) (by repeat (first|exact trivial|refine ⟨⟨?_,?_⟩,?_⟩|rfl)) (by repeat (first|exact trivial|refine ⟨⟨?_,?_,?_⟩,?_⟩|rfl|exact congrArg (fun q=>some (AO.row _ _ q)) (by first|rfl|(simp;done)|(simp [eInt];done)|(simp [eLk];done)))) rfl) ?_
  exact W.ret (finM rfl rfl rfl rfl rfl)
 have e1:plP p=⟨p.cs,p.st,plN p.evs p.evs.length⟩:=if_pos h0
 have hz:∀ k (h:k < p.evs.length),p.evs[k].val=0→p.evs[k].dot=false∧p.evs[k].three=false:=fun k h hv=>by
  have hok:=(evOk_of h0 h).sg
  unfold sgOk at hok
  rw [hv] at hok
  simpa using hok
 have hn3:=hO.n3
 have hM:=mapped_FS p.evs (by omega) hO.n4 hz
 have hI:=copiedIns_FS p.cs p.st hO.n1 hO.n2
 rw [e1,if_pos h0,h0]
 rw [h0] at hC
 refine Cto.intro truS Tryz.func87 rfl Tryz.ntmps87 (Nat.le_of_ble_eq_true rfl) rfl fun w0 F0 fp pg hB=>?_
 dsimp only [number,Nat.reduceAdd]
 repeat refine W.go rfl ?_
 refine (?_:WL _ _ _ _ _ _)
 dsimp only [St.put,Nat.reduceAdd]
 refine WL.vl rfl (WV.call rfl (callF Tryz.func52 rfl rfl) rfl rfl hC) ?_
 repeat (first|refine W.gob rfl ?_|refine WL.nil ?_|refine WL.nf rfl rfl rfl (by omega) ?_|refine WL.e1 rfl ?_|refine W.condF rfl ?_)
 refine (?_:WL _ _ _ _ _ _)
 dsimp only [St.put,Nat.reduceAdd]
 refine WL.vl rfl (WV.call rfl (callF Tryz.func151 rfl rfl) rfl rfl hI) ?_
 repeat (first|refine W.go rfl ?_|refine WL.ev rfl ?_)
 refine (?_:WL _ _ _ _ _ _)
 dsimp only [St.put,Nat.reduceAdd]
 refine WL.vl rfl (WV.mkf rfl rfl) ?_
 refine WL.cto (truH _) [0,2] rfl rfl (callF Tryz.func152 rfl rfl) hM rfl rfl rfl ⟨⟨rfl,rfl,rfl⟩,⟨rfl,rfl,rfl⟩,trivial⟩ rfl rfl rfl rfl ?_
 repeat (first|refine W.go rfl ?_|refine WL.ev rfl ?_)
 refine (?_:W _ _ _ _ _)
 dsimp only [St.put,Nat.reduceAdd]
 refine W.tr (σ':=⟨[(4,.pt 1 0 0),(5,.sc (.int .i64 0))],[(0,.box 33 (eSig (sgF p.evs p.evs.length))),(1,.box 28 (ePce ⟨p.cs,p.st,plN p.evs p.evs.length⟩).cells)],2⟩) (Tr.ren (fun q=>bif Nat.beq q 1 then 3 else q) (by repeat (first|exact trivial|refine ⟨⟨?_,?_⟩,?_⟩|rfl)) (by repeat (first|exact trivial|refine ⟨⟨?_,?_,?_⟩,?_⟩|rfl|exact congrArg (fun q=>some (AO.row _ _ q)) (by first|rfl|(simp;done)|(simp [eInt];done)|(simp [eLk];done)))) rfl) ?_
 exact W.ret (finM rfl rfl rfl rfl rfl)
theorem pPlain_FS (p:Pce) (hO:PcOk p):Ctr Tryz.prog 40 [ePce p] (.tu [ePce (plP p),.sc (.int .i64 (pceE p))]):=by
 have hR:=rewritten_FS p hO
 refine Ctr.intro Tryz.func40 rfl Tryz.ntmps40 (Nat.le_of_ble_eq_true rfl) (bd_all rfl) fun w0 F0=>?_;dsimp only [St.init,number,Nat.reduceAdd]
 repeat refine W.go rfl ?_
 refine (?_:WL _ _ _ _ _ _)
 dsimp only [St.put,Nat.reduceAdd]
 refine WL.vl rfl (WV.mkf rfl rfl) ?_
 refine WL.cto (truH _) [2] rfl rfl (callF Tryz.func87 rfl rfl) hR rfl rfl rfl ⟨⟨rfl,rfl,rfl⟩,trivial⟩ rfl rfl rfl rfl ?_
 repeat refine WL.ev rfl ?_
 refine (?_:W _ _ _ _ _)
 dsimp only [St.put,Nat.reduceAdd]
 exact W.ret (finN rfl rfl rfl rfl)
end Go.Proofs.YtgelfflighgajaaGreatDoor
