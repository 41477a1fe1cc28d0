/- The column of an event: the program's walk, over trees. -/
import Derived.Test.YtgelfflighgajaaGreatDoorLk1Uq
import Derived.Test.YtgelfflighgajaaGreatDoorLk2Uq
import Derived.Test.YtgelfflighgajaaGreatDoorLk3Uq
import Derived.Test.YtgelfflighgajaaGreatDoorLk4Uq
import Derived.Test.YtgelfflighgajaaGreatDoorCoPUq
set_option maxHeartbeats 4000000
set_option maxRecDepth 100000
set_option linter.unusedVariables false
set_option linter.unusedSimpArgs false
namespace Go.Proofs.YtgelfflighgajaaGreatDoor
open Go.RowKit
theorem Tr.nilLs {C:Cx} {σ:St} {t:Tmp} (n:Nat) (h:look t σ.t=some (.sc (.slice none 0 0))):Tr C σ (σ.put t (.ls n [])):=fun G a w ok=>by
 refine ⟨G,ok.sz,ok.df,fun i av hi=>?_,ok.bel,ok.fw,ok.f0,ok.f1,ok.ob,ok.my,ok.dj,ok.dF⟩
 by_cases e:i=t
 ·subst e
  rw [show look i (σ.put i (.ls n [])).t=some (.ls n []) from look_set_same] at hi
  cases hi
  obtain ⟨h1,h2,h3⟩:=ok.tm i _ h
  refine ⟨h1,.ls _ _,?_⟩
  rw [h3.sc_eq]
  exact .pu _ _ (.ls n [] none 0 ⟨0,0,none⟩ (fun _ _=>undef) (by simp) (by simp) (fun h=>absurd h (by simp)) (fun i r j av h=>by simp at h) (fun i r j av h=>by simp at h))
 ·rw [show look i (σ.put t (.ls n [])).t=look i σ.t from look_set_other e] at hi
  exact ok.tm i av hi
theorem args_pc {F:View} {w:World} {p:Pce} {pre post:List AV} {xs ys vs:List Value} (hs:scs pre=some xs) (hs2:scs post=some ys) (hF:∀ p u,F p=some u→w.cell? p=some u)
  (hR:vs.length=(pre++ePce p::post).length∧∀ (i:Nat) av u,(pre++ePce p::post)[i]?=some av→vs[i]?=some u→RP F av u):∃ M,PcAt w w.heap.size M p∧vs=xs++pcValue M p::ys:=by
 have hG:∀ i av u,(pre++ePce p::post)[i]?=some av→vs[i]?=some u→R ⟨F,fun _=>0,fun _=>0,fun _=>undef,fun _ _=>False⟩ av u:=fun i av u a b=>.pu _ _ (hR.2 i av u a b)
 have hlen:vs.length=pre.length+(post.length+1):=by rw [hR.1];simp
 have e1:vs.take pre.length=xs:=scs_of hs (by simp;omega) fun i av u a b=>by
  have hi:i<pre.length:=(List.getElem?_eq_some_iff.1 a).1
  rw [List.getElem?_take_of_lt hi] at b
  exact hG i av u (by rw [List.getElem?_append_left hi];exact a) b
 have e2:vs.drop (pre.length+1)=ys:=scs_of hs2 (by simp;omega) fun i av u a b=>by
  rw [List.getElem?_drop] at b
  exact hG (pre.length+1+i) av u (by rw [List.getElem?_append_right (by omega),show pre.length+1+i-pre.length=i+1 by omega];exact a) b
 have hp:vs[pre.length]?=some (vs[pre.length]'(by omega)):=List.getElem?_eq_getElem (by omega)
 obtain ⟨M,eM,hM⟩:=pc_of_rp hF (hR.2 pre.length _ _ (by rw [List.getElem?_append_right (Nat.le_refl _),Nat.sub_self];rfl) hp)
 refine ⟨M,hM,?_⟩
 rw [← e1,← e2,← eM]
 conv=>lhs;rw [← List.take_append_drop pre.length vs]
 congr 1
 rw [List.drop_eq_getElem_cons (by omega)]
theorem eLk_of(x:Lck)(j:Nat)(av:AV)(h:(eLk x)[j]?=some av):∃ u,av=.sc u∧(lckCells x)[j]?=some u∧u.oneCell'=true:=by
 match j with
 | 0=>cases h;exact⟨_,rfl,rfl,rfl⟩
 | 1=>cases h;exact⟨_,rfl,rfl,rfl⟩
 | 2=>cases h;exact⟨_,rfl,rfl,rfl⟩
 | j+3=>simp [eLk]at h
theorem Ctr.of_lk {P:Program} {f:FuncId} {p:Pce} {pre post:List AV} {xs ys:List Value} {l:List Lck} (hs:scs pre=some xs) (hs2:scs post=some ys)
  (h:∀ w M,PcAt w w.heap.size M p→Calls P f (xs++pcValue M p::ys).toArray w (LkPost l w)):Ctr P f (pre++ePce p::post) (.ls 3 (l.map eLk)):=by
 intro w F vs hF hR
 obtain ⟨M,hM,rfl⟩:=args_pc hs hs2 hF hR
 refine (h w M hM).mono fun e w' ⟨A,d,he,hb,hr,hA,hc⟩=>⟨_,newF F w w',he,hb,newF_le hF,newF_fw hF hb,newF_new,rp_of_rd hr hA hc (fun _=>rfl) eLk_of⟩
def sysV (s:Int):Value:=if s=1 then .iface 253 (.agg #[])else if s=2 then .iface 257 (.agg #[])else if s=3 then .iface 259 (.agg #[])else if s=4 then .iface 261 (.agg #[])else .nilIface
theorem sys_cases {s:Int} (h:1≤s∧s≤4):s=1∨s=2∨s=3∨s=4:=by omega
theorem of_FS (s:Int):Ctr Tryz.prog 122 [.sc (.int .u8 s)] (.tu [.sc (sysV s),.sc (.bool (decide (1≤s∧s≤4)))]):=by
 refine Ctr.of_sc (xs:=[.int .u8 s]) (v:=.tuple #[sysV s,.bool (decide (1≤s∧s≤4))]) rfl (fun F=>.tu _ _ rfl fun i av u a b=>?_) fun w=>?_
 ·match i with
  | 0=>cases a;cases b;exact .sc _
  | 1=>cases a;cases b;exact .sc _
  | i+2=>simp at a
 ·by_cases h:1≤s∧s≤4
  ·rcases sys_cases h with rfl|rfl|rfl|rfl
   ·exact (of_1 w).mono fun e w' ⟨he,hw⟩=>⟨he,hw ▸ Below.refl _ _⟩
   ·exact (of_2 w).mono fun e w' ⟨he,hw⟩=>⟨he,hw ▸ Below.refl _ _⟩
   ·exact (of_3 w).mono fun e w' ⟨he,hw⟩=>⟨he,hw ▸ Below.refl _ _⟩
   ·exact (of_4 w).mono fun e w' ⟨he,hw⟩=>⟨he,hw ▸ Below.refl _ _⟩
  ·have e:sysV s=.nilIface:=by
    unfold sysV
    rw [if_neg (by omega),if_neg (by omega),if_neg (by omega),if_neg (by omega)]
   rw [e,decide_eq_false h]
   exact (of_bad s w (by omega)).mono fun e w' ⟨he,hw⟩=>⟨he,hw ▸ Below.refl _ _⟩
theorem plack_FS (s:Int) (h:1≤s∧s≤4) (p:Pce) (i:Nat) (hi:i<p.evs.length) (hO:PcOk p) (hv:StopsIn p.evs[i]) :
  Ctr Tryz.prog 175 [.sc (sysV s),ePce p,.sc (.int .i64 i)] (.ls 3 ((lackE s p i p.evs[i]).map eLk)):=by
 rcases sys_cases h with rfl|rfl|rfl|rfl
 ·exact Ctr.of_lk (pre:=[.sc (sysV 1)]) (post:=[.sc (.int .i64 i)]) rfl rfl fun w M hM=>plack_1 M p i hi w hM hO hv
 ·exact Ctr.of_lk (pre:=[.sc (sysV 2)]) (post:=[.sc (.int .i64 i)]) rfl rfl fun w M hM=>plack_2 M p i hi w hM hO hv
 ·exact Ctr.of_lk (pre:=[.sc (sysV 3)]) (post:=[.sc (.int .i64 i)]) rfl rfl fun w M hM=>plack_3 M p i hi w hM hO hv
 ·exact Ctr.of_lk (pre:=[.sc (sysV 4)]) (post:=[.sc (.int .i64 i)]) rfl rfl fun w M hM=>plack_4 M p i hi w hM hO hv
theorem pCheck_FS (p:Pce) (hO:PcOk p):Ctr Tryz.prog 52 [ePce p] (.sc (.int .i64 (pceE p))) :=
 Ctr.of_pc (pre:=[]) (post:=[]) rfl rfl (fun _=>.sc _) fun w M hM=>pCheck_any M p w hM hO
def lksR(s:Int)(p:Pce):List Lck:=if(1≤s∧s≤4)∧pceE p=0 then lksTo s p p.evs.length else []
def lksE(s:Int)(p:Pce):Int:=if 1≤s∧s≤4 then pceE p else 30
theorem lks_bad {s:Int} {p:Pce} (h:¬ (1≤s∧s≤4)):lksR s p=[]∧lksE s p=30:=⟨if_neg fun x=>h x.1,if_neg h⟩
theorem lks_err {s:Int} {p:Pce} (h:1≤s∧s≤4)(h2:pceE p≠0):lksR s p=[]∧lksE s p=pceE p:=⟨if_neg fun x=>h2 x.2,if_pos h⟩
theorem lks_ok {s:Int} {p:Pce} (h:1≤s∧s≤4) (h2:pceE p=0):lksR s p=lksTo s p p.evs.length∧lksE s p=0:=⟨if_pos ⟨h,h2⟩,by rw [← h2];exact if_pos h⟩
theorem pLacks_FS (s:Int) (p:Pce) (hO:PcOk p):Ctr Tryz.prog 138 [.sc (.int .u8 s),ePce p] (.tu [.ls 3 ((lksR s p).map eLk),.sc (.int .i64 (lksE s p))]):=by
 refine Ctr.intro Tryz.func138 rfl Tryz.ntmps138 (Nat.le_of_ble_eq_true rfl) (bd_all rfl) fun w0 F0=>?_;dsimp only [St.init,number,Nat.reduceAdd]
 have hn3:=hO.n3
 repeat refine W.go rfl ?_
 refine (?_:WL _ _ _ _ _ _)
 dsimp only [St.put,Nat.reduceAdd]
 refine WL.vl rfl (WV.call rfl (callF Tryz.func122 rfl rfl) rfl rfl (of_FS s)) ?_
 repeat (first|refine W.go rfl ?_|refine WL.ev rfl ?_)
 refine (?_:W _ _ _ _ _)
 dsimp only [St.put,Nat.reduceAdd]
 (refine W.cond rfl (fun hif=>?_) (fun hif=>?_)<;>(try simp only [decide_eq_true_eq,decide_eq_false_iff_not,Int.not_lt,Int.not_le,Bool.not_eq_true',Bool.not_eq_false'] at hif))
 ·have hs:¬ (1≤s∧s≤4):=by simpa using hif
  rw [(lks_bad hs).1,(lks_bad hs).2]
  repeat refine W.go rfl ?_
  refine (?_:W _ _ _ _ _)
  refine W.tr (Tr.nilLs (t:=4) 3 rfl) ?_
  exact W.ret (fin2 rfl rfl rfl rfl rfl rfl rfl)
 have hs:1≤s∧s≤4:=by simpa using hif
 repeat refine W.go rfl ?_
 refine (?_:WL _ _ _ _ _ _)
 refine WL.vl rfl (WV.call rfl (callF Tryz.func52 rfl rfl) rfl rfl (pCheck_FS p hO)) ?_
 repeat (first|refine W.go rfl ?_|refine WL.ev rfl ?_)
 refine (?_:W _ _ _ _ _)
 dsimp only [St.put,Nat.reduceAdd]
 (refine W.cond rfl (fun hif=>?_) (fun hif=>?_)<;>(try simp only [decide_eq_true_eq,decide_eq_false_iff_not,Int.not_lt,Int.not_le,Bool.not_eq_true',Bool.not_eq_false'] at hif))
 ·have h0:pceE p≠0:=by simpa using hif
  rw [(lks_err hs h0).1,(lks_err hs h0).2]
  repeat refine W.go rfl ?_
  refine (?_:W _ _ _ _ _)
  dsimp only [St.put,Nat.reduceAdd]
  refine W.tr (Tr.nilLs (t:=4) 3 rfl) ?_
  exact W.ret (fin2 rfl rfl rfl rfl rfl rfl rfl)
 have h0:pceE p=0:=by simpa using hif
 rw [(lks_ok hs h0).1,(lks_ok hs h0).2]
 repeat (first|refine W.go rfl ?_|refine WL.ev rfl ?_|refine WL.len rfl rfl (by first|exact List.length_map _|exact List.length_replicate|rfl) ?_)
 refine (?_:W _ _ _ _ _)
 dsimp only [St.put,Nat.reduceAdd]
 refine W.tr (Tr.nil (t:=9) 308 3 rfl rfl) ?_
 refine W.loop (fun k:Nat=>k≤p.evs.length) (fun k=>⟨[(3,.pt 0 0 0),(6,.sc (sysV s)),(9,.sl 1),(25,.sc (.int .i64 p.evs.length)),(26,.sc (.int .i64 k))],[(0,.box 28 (ePce p).cells),(1,.row 308 3 ((lksTo s p k).map eLk))],2⟩) (fun k=>p.evs.length - k) 0 (by omega) (Tr.ren id (by repeat (first|exact trivial|refine ⟨⟨?_,?_⟩,?_⟩|rfl)) (by repeat (first|exact trivial|refine ⟨⟨?_,?_,?_⟩,?_⟩|rfl)) rfl) fun k hk=>?_
 repeat refine W.go rfl ?_
 refine (?_:W _ _ _ _ _)
 (refine W.cond rfl (fun hif=>?_) (fun hif=>?_)<;>(try simp only [decide_eq_true_eq,decide_eq_false_iff_not,Int.not_lt,Int.not_le,Bool.not_eq_true',Bool.not_eq_false'] at hif))
 ·have hk2:k < p.evs.length:=by omega
  have hl1:=lksTo_len s hO k hk
  have hl2:=lackE_len s p k p.evs[k] (hO.n4 k hk2)
  have hrow:(lksTo s p k).map eLk++(lackE s p k p.evs[k]).map eLk=(lksTo s p (k+1)).map eLk:=by rw [lksTo_at s p hk2,List.map_append]
  repeat refine W.go rfl ?_
  refine (?_:WL _ _ _ _ _ _)
  dsimp only [St.put,Nat.reduceAdd]
  refine WL.vl rfl (WV.call rfl (callF Tryz.func175 rfl rfl) rfl rfl (plack_FS s hs p k hk2 hO (stopsIn_of h0 k hk2))) ?_
  repeat (first|refine W.go rfl ?_|refine WL.ev rfl ?_|refine WL.ar rfl rfl (by unfold I64;omega) ?_|refine WL.app rfl rfl rfl (by first|omega|(simp;done)|(simp;omega)) ?_)
  dsimp only [St.put,Nat.reduceAdd]
  exact ⟨k+1,by omega,by omega,Tr.ren (fun q=>bif Nat.beq q 1 then 2 else q) (by repeat (first|exact trivial|refine ⟨⟨?_,?_⟩,?_⟩|rfl)) (by repeat (first|exact trivial|refine ⟨⟨?_,?_,?_⟩,?_⟩|exact congrArg (fun r=>some (AO.row _ _ r)) hrow|rfl)) rfl⟩
 ·have he:k=p.evs.length:=by omega
  subst he
  repeat refine W.go rfl ?_
  refine (?_:W _ _ _ _ _)
  dsimp only [St.put,Nat.reduceAdd]
  refine W.tr (Tr.freeze 1 rfl) ?_
  exact W.ret (fin2 rfl rfl rfl rfl rfl rfl rfl)
theorem pCan_FS (s:Int) (p:Pce) (hO:PcOk p):Ctr Tryz.prog 70 [.sc (.int .u8 s),ePce p] (.sc (.bool (lksE s p == 0 && ((lksR s p).length:Int) == 0))):=by
 refine Ctr.intro Tryz.func70 rfl Tryz.ntmps70 (Nat.le_of_ble_eq_true rfl) (bd_all rfl) fun w0 F0=>?_;dsimp only [St.init,number,Nat.reduceAdd]
 repeat refine W.go rfl ?_
 refine (?_:WL _ _ _ _ _ _)
 dsimp only [St.put,Nat.reduceAdd]
 refine WL.vl rfl (WV.call rfl (callF Tryz.func138 rfl rfl) rfl rfl (pLacks_FS s p hO)) ?_
 repeat (first|refine W.go rfl ?_|refine WL.ev rfl ?_)
 refine (?_:WL _ _ _ _ _ _)
 dsimp only [St.put,Nat.reduceAdd]
 have hl:(lksR s p).length≤27000:=by
  unfold lksR
  split
  ·exact lksTo_len s hO _ (Nat.le_refl _)
  ·simp
 refine WL.partG rfl rfl rfl rfl (fun hp=>?_) (fun hp=>?_)
 ·have e:lksE s p=0:=of_decide_eq_true hp
  repeat (first|refine WL.ev rfl ?_|refine WL.gyes rfl rfl rfl rfl ?_|refine WL.len rfl rfl (by first|exact List.length_map _|exact List.length_replicate|rfl) ?_)
  refine (?_:W _ _ _ _ _)
  dsimp only [St.put,Nat.reduceAdd]
  refine W.ret (fin1 rfl rfl (sc_bool ?_) rfl)
  rw [e];rfl
 ·have e:lksE s p≠0:=of_decide_eq_false hp
  repeat (first|refine WL.ev rfl ?_|refine WL.opno rfl rfl rfl rfl rfl rfl rfl ?_)
  refine (?_:W _ _ _ _ _)
  dsimp only [St.put,Nat.reduceAdd]
  refine W.ret (fin1 rfl rfl (sc_bool ?_) rfl)
  rw [show (lksE s p == 0)=false by simpa using e];rfl
end Go.Proofs.YtgelfflighgajaaGreatDoor
namespace Go.Proofs.YtgelfflighgajaaGreatDoor
open Go.RowKit
def plV:AV→Option Value
 | .sc v=>some v
 | .ag l =>
  match scs l with
  | some xs=>some (.agg xs.toArray)
  | none=>none
 | _=>none
def plL:List AV→Option (List Value)
 | []=>some []
 | x::r =>
  match plV x,plL r with
  | some v,some l=>some (v::l)
  | _,_=>none
theorem plV_of {F:View} {av:AV} {u v:Value} (h:plV av=some v) (r:RP F av u):u=v:=by
 cases av with
 | sc x=>cases h;exact r.sc_eq
 | ag l =>
  cases hs:scs l with
  | none=>simp [plV,hs] at h
  | some xs =>
   simp [plV,hs] at h
   subst h
   obtain ⟨cs,rfl,h1,h2⟩:=(R.pu (G:=⟨F,fun _=>0,fun _=>0,fun _=>undef,fun _ _=>False⟩) _ _ r).ag_of
   have e:cs.toList=xs:=scs_of (G:=⟨F,fun _=>0,fun _=>0,fun _=>undef,fun _ _=>False⟩) hs (by simpa using h1) (fun i av u p q=>h2 i av u p (by simpa using q))
   subst e
   simp
 | _=>cases h
theorem plL_of {F:View}:∀ {l:List AV} {xs vs:List Value},plL l=some xs→vs.length=l.length→(∀ (i:Nat) av u,l[i]?=some av→vs[i]?=some u→RP F av u)→vs=xs
 | [],xs,vs,h,hl,_=>by cases h;exact List.eq_nil_of_length_eq_zero hl
 | x::r,xs,[],h,hl,_=>by cases hl
 | x::r,xs,v::vs,h,hl,hq=>by
  unfold plL at h
  split at h
  ·rename_i u l h1 h2
   cases h
   rw [plV_of h1 (hq 0 x v rfl rfl),plL_of (F:=F) (vs:=vs) h2 (by simpa using hl) fun i av u a b=>hq (i+1) av u (by simpa using a) (by simpa using b)]
  ·cases h
theorem Ctr.of_pl {P:Program} {f:FuncId} {args:List AV} {xs:List Value} {res:AV} {v:Value} (hs:plL args=some xs)(hv:∀ F,RP F res v)(h:∀ w,Calls P f xs.toArray w (Ret v w)):Ctr P f args res:=by
 intro w F vs hF hR
 have:=plL_of hs hR.1 hR.2
 subst this
 exact (h w).mono fun e w'⟨he,hb⟩=>⟨v,F,he,hb,fun _ _ h=>h,fun p u x=>by rw [hb.cell (cell_block (hF p u x))];exact hF p u x,fun _ _ h=>.inl h,hv F⟩
theorem rp_tu2 {F:View} {u v:Value}:RP F (.tu [.sc u,.sc v]) (.tuple #[u,v]):=.tu _ _ rfl fun i av x a b=>by
 match i with
 | 0=>cases a;cases b;exact .sc _
 | 1=>cases a;cases b;exact .sc _
 | i+2=>simp at a
def eSg (e:Ev):AV:=.ag [.sc (.int .i64 e.val),.sc (.bool e.dot),.sc (.bool e.three)]
theorem sg_cases {v:Int} {d t:Bool} (h:sgOk v d t=true):0≤v∧v≤7∧sgI d t≤2∧d=sgD (sgI d t)∧t=sgT (sgI d t)∧(v=0→sgI d t=0):=by
 have hv:0≤v∧v≤7:=by
  unfold sgOk at h
  simp only [Bool.or_eq_true,Bool.and_eq_true,beq_iff_eq,decide_eq_true_eq]at h
  omega
 refine⟨hv.1,hv.2,?_⟩
 cases d<;>cases t
 ·exact⟨by decide,rfl,rfl,fun _=>rfl⟩
 ·refine⟨by decide,rfl,rfl,fun h0=>?_⟩
  subst h0;cases h
 ·refine⟨by decide,rfl,rfl,fun h0=>?_⟩
  subst h0;cases h
 ·exfalso
  unfold sgOk at h
  by_cases h1:1≤v<;>by_cases h2:v≤7<;>simp [h1,h2]at h
theorem timeWord_FS (s:Int) (hs:1≤s∧s≤4) (e:Ev) (h:sgOk e.val e.dot e.three=true):Ctr Tryz.prog 182 [.sc (sysV s),eSg e] (.tu [.sc (.string (bs (tW e.val (sgI e.dot e.three)))),.sc (.bool (tOk s e.val (sgI e.dot e.three)))]):=by
 obtain ⟨h1,h2,h3,h4,h5,h6⟩:=sg_cases h
 obtain ⟨i,hi⟩:∃ i,sgI e.dot e.three=i:=⟨_,rfl⟩
 rw [hi] at h3 h4 h5 h6 ⊢
 unfold eSg
 rw [h4,h5]
 rcases sys_cases hs with rfl|rfl|rfl|rfl
 ·exact Ctr.of_pl rfl (fun _=>rp_tu2) fun w=>ptw_1 e.val i w ⟨h1,h2⟩ h3 h6
 ·exact Ctr.of_pl rfl (fun _=>rp_tu2) fun w=>ptw_2 e.val i w ⟨h1,h2⟩ h3 h6
 ·exact Ctr.of_pl rfl (fun _=>rp_tu2) fun w=>ptw_3 e.val i w ⟨h1,h2⟩ h3 h6
 ·exact Ctr.of_pl rfl (fun _=>rp_tu2) fun w=>ptw_4 e.val i w ⟨h1,h2⟩ h3 h6
theorem cell_FS (s:Int)(hs:1≤s∧s≤4)(x:Stp)(L:Int)(hc:1≤x.1∧x.1≤14)(hf:0≤x.2.1∧x.2.1≤18)(hr:0≤x.2.2.1∧x.2.2.1≤3)(hg:0≤x.2.2.2.1∧x.2.2.2.1≤4)(hh:0≤x.2.2.2.2∧x.2.2.2.2≤15) :
  Ctr Tryz.prog 183 [.sc (sysV s),.ag (eStp x),.sc (.int .i64 L)] (.tu [.sc (.string (bs (cellS s x.1 x.2.1 x.2.2.1 x.2.2.2.1 x.2.2.2.2 L))),.sc (.bool (cellOk s x.1 x.2.1 x.2.2.1 x.2.2.2.1 x.2.2.2.2 L))]):=by
 rcases sys_cases hs with rfl|rfl|rfl|rfl
 ·exact Ctr.of_pl rfl (fun _=>rp_tu2) fun w=>pcell_1 _ _ _ _ _ _ w hc hf hr hg hh
 ·exact Ctr.of_pl rfl (fun _=>rp_tu2) fun w=>pcell_2 _ _ _ _ _ _ w hc hf hr hg hh
 ·exact Ctr.of_pl rfl (fun _=>rp_tu2) fun w=>pcell_3 _ _ _ _ _ _ w hc hf hr hg hh
 ·exact Ctr.of_pl rfl (fun _=>rp_tu2) fun w=>pcell_4 _ _ _ _ _ _ w hc hf hr hg hh
theorem pLong_FS (p:Pce) (hO:PcOk p) (i x:Int):Ctr Tryz.prog 144 [ePce p,.sc (.int .i64 i),.sc (.int .i64 x)] (.sc (.int .i64 (longestN p.evs i x))) :=
 Ctr.of_pc (pre:=[]) (post:=[.sc (.int .i64 i),.sc (.int .i64 x)]) rfl rfl (fun _=>.sc _) fun w M hM=>pLongest_any M p i x w hM hO
theorem pstaff_FS (cs:List (Int×Int×Bool)) (st:List Int) (h:cs.length≤64):Ctr Tryz.prog 139 [.ag (eIns cs st)] (.sc (.int .i64 ((min cs.length 6:Nat):Int))):=by
 refine Ctr.intro Tryz.func139 rfl Tryz.ntmps139 (Nat.le_of_ble_eq_true rfl) (bd_all rfl) fun w0 F0=>?_;dsimp only [St.init,number,Nat.reduceAdd]
 repeat (first|refine W.go rfl ?_|refine WL.len rfl rfl (by first|exact List.length_map _|exact List.length_replicate|rfl) ?_)
 refine (?_:WL _ _ _ _ _ _)
 dsimp only [St.put,Nat.reduceAdd]
 refine WL.mm rfl rfl (show _=((min cs.length 6:Nat):Int) by split<;>omega) ?_
 repeat refine WL.ev rfl ?_
 refine (?_:W _ _ _ _ _)
 dsimp only [St.put,Nat.reduceAdd]
 exact W.ret (fin1 rfl rfl rfl rfl)
theorem WV.sys {P:Program} {C:Cx} {o:Oper} {σ:St} {s:Int} (hs:1≤s∧s≤4) {x:Operand} {name:String} {xs:Array Operand} {ts:Array TypeId} {args:List AV} {res:AV} (fs:Int→FuncId) (ho:o.op=.call { callee:=.invoke x name,args:=xs,argTypes:=ts })
  (hr:σ.ev x=some (.sc (sysV s)))
  (h1:∀ vs w,(callMethod (sysV 1) name vs).run P w=.ok (.enter (fs 1) (#[.agg #[]]++vs)) w) (h2:∀ vs w,(callMethod (sysV 2) name vs).run P w=.ok (.enter (fs 2) (#[.agg #[]]++vs)) w)
  (h3:∀ vs w,(callMethod (sysV 3) name vs).run P w=.ok (.enter (fs 3) (#[.agg #[]]++vs)) w) (h4:∀ vs w,(callMethod (sysV 4) name vs).run P w=.ok (.enter (fs 4) (#[.agg #[]]++vs)) w)
  (hx:σ.evs xs.toList=some args) (hp:args.all AV.pu2=true) (h:Ctr P (fs s) (.ag []::args) res):WV P C o σ res:=by
 rcases sys_cases hs with rfl|rfl|rfl|rfl
 ·exact WV.inv (l:=[]) ho hr h1 rfl hx hp h
 ·exact WV.inv (l:=[]) ho hr h2 rfl hx hp h
 ·exact WV.inv (l:=[]) ho hr h3 rfl hx hp h
 ·exact WV.inv (l:=[]) ho hr h4 rfl hx hp h
def lineF(s:Int):FuncId:=if s=1 then 276 else if s=2 then 286 else if s=3 then 294 else 301
def behindF(s:Int):FuncId:=if s=1 then 278 else if s=2 then 288 else if s=3 then 296 else 303
theorem line_FS (s:Int) (hs:1≤s∧s≤4) (c n:Int) (hc:1≤c∧c≤14) (hn:0≤n∧n≤6):Ctr Tryz.prog (lineF s) [.ag [],.sc (.int .i64 c),.sc (.int .i64 n)] (.sc (.int .i64 (lineV s c n))):=by
 rcases sys_cases hs with rfl|rfl|rfl|rfl
 ·show Ctr Tryz.prog 276 _ _
  refine Ctr.intro Tryz.func276 rfl Tryz.ntmps276 (Nat.le_of_ble_eq_true rfl) (bd_all rfl) fun w0 F0=>?_;dsimp only [St.init,number,Nat.reduceAdd]
  repeat refine W.go rfl ?_
  refine (?_:W _ _ _ _ _)
  dsimp only [St.put,Nat.reduceAdd]
  exact W.ret (fin1 rfl rfl rfl rfl)
 ·show Ctr Tryz.prog 286 _ _
  refine Ctr.intro Tryz.func286 rfl Tryz.ntmps286 (Nat.le_of_ble_eq_true rfl) (bd_all rfl) fun w0 F0=>?_;dsimp only [St.init,number,Nat.reduceAdd]
  repeat (first|refine W.go rfl ?_|refine WL.ev rfl ?_|refine WL.ar rfl rfl (by unfold I64;omega) ?_)
  refine (?_:W _ _ _ _ _)
  dsimp only [St.put,Nat.reduceAdd]
  exact W.ret (fin1 rfl rfl rfl rfl)
 ·show Ctr Tryz.prog 294 _ _
  refine Ctr.intro Tryz.func294 rfl Tryz.ntmps294 (Nat.le_of_ble_eq_true rfl) (bd_all rfl) fun w0 F0=>?_;dsimp only [St.init,number,Nat.reduceAdd]
  repeat refine W.go rfl ?_
  refine (?_:W _ _ _ _ _)
  dsimp only [St.put,Nat.reduceAdd]
  exact W.ret (fin1 rfl rfl rfl rfl)
 ·show Ctr Tryz.prog 301 _ _
  refine Ctr.intro Tryz.func301 rfl Tryz.ntmps301 (Nat.le_of_ble_eq_true rfl) (bd_all rfl) fun w0 F0=>?_;dsimp only [St.init,number,Nat.reduceAdd]
  repeat refine W.go rfl ?_
  refine (?_:W _ _ _ _ _)
  dsimp only [St.put,Nat.reduceAdd]
  exact W.ret (fin1 rfl rfl rfl rfl)
theorem behind_FS (s:Int) (hs:1≤s∧s≤4):Ctr Tryz.prog (behindF s) [.ag []] (.sc (.bool (!decide (s=2)))):=by
 rcases sys_cases hs with rfl|rfl|rfl|rfl
 ·show Ctr Tryz.prog 278 _ _
  refine Ctr.intro Tryz.func278 rfl Tryz.ntmps278 (Nat.le_of_ble_eq_true rfl) (bd_all rfl) fun w0 F0=>?_;dsimp only [St.init,number,Nat.reduceAdd]
  repeat refine W.go rfl ?_
  refine (?_:W _ _ _ _ _)
  dsimp only [St.put,Nat.reduceAdd]
  exact W.ret (fin1 rfl rfl rfl rfl)
 ·show Ctr Tryz.prog 288 _ _
  refine Ctr.intro Tryz.func288 rfl Tryz.ntmps288 (Nat.le_of_ble_eq_true rfl) (bd_all rfl) fun w0 F0=>?_;dsimp only [St.init,number,Nat.reduceAdd]
  repeat refine W.go rfl ?_
  refine (?_:W _ _ _ _ _)
  dsimp only [St.put,Nat.reduceAdd]
  exact W.ret (fin1 rfl rfl rfl rfl)
 ·show Ctr Tryz.prog 296 _ _
  refine Ctr.intro Tryz.func296 rfl Tryz.ntmps296 (Nat.le_of_ble_eq_true rfl) (bd_all rfl) fun w0 F0=>?_;dsimp only [St.init,number,Nat.reduceAdd]
  repeat refine W.go rfl ?_
  refine (?_:W _ _ _ _ _)
  dsimp only [St.put,Nat.reduceAdd]
  exact W.ret (fin1 rfl rfl rfl rfl)
 ·show Ctr Tryz.prog 303 _ _
  refine Ctr.intro Tryz.func303 rfl Tryz.ntmps303 (Nat.le_of_ble_eq_true rfl) (bd_all rfl) fun w0 F0=>?_;dsimp only [St.init,number,Nat.reduceAdd]
  repeat refine W.go rfl ?_
  refine (?_:W _ _ _ _ _)
  dsimp only [St.put,Nat.reduceAdd]
  exact W.ret (fin1 rfl rfl rfl rfl)
def eStr (t:List UInt8):List AV:=[.sc (.string (bs t))]
theorem join_FS (l:List (List UInt8)) (h1:l.length≤1000) (h2:(joinW l).length≤1000000):Ctr Tryz.prog 114 [.ls 1 (l.map eStr),.sc (.string (bs [32]))] (.sc (.string (bs (joinW l)))):=by
 intro w F vs hF hR
 match vs,hR.1 with
 | [v,v2],_ =>
  obtain rfl:=(hR.2 1 _ v2 rfl rfl).sc_eq
  obtain ⟨A,c,rfl,hrd,hc⟩:=rd_of_rp (n:=1) (f:=fun t=>[Value.string (bs t)]) hF (by omega) (fun _=>rfl) (fun x j u h=>by
   match j with
   | 0=>cases h;rfl
   | j+1=>simp at h) (hR.2 0 _ v rfl rfl)
  have fin:∀ e w',e=Ending.returned (.string (bs (joinW l)))→Below w.heap.size w w'→∃ v F',e=.returned v∧Below w.heap.size w w'∧View.le F F'∧(∀ p u,F' p=some u→w'.cell? p=some u)∧(∀ p u,F' p=some u→F p=some u∨w.heap.size≤p.block)∧RP F' (.sc (.string (bs (joinW l)))) v :=
   fun e w' he hb=>⟨_,F,he,hb,fun _ _ h=>h,fun p u x=>by rw [hb.cell (cell_block (hF p u x))];exact hF p u x,fun _ _ h=>.inl h,.sc _⟩
  by_cases h0:l.length=0
  ·obtain rfl:=List.eq_nil_of_length_eq_zero h0
   exact (strings_Join_none A c (bs [32]) w).mono fun e w' ⟨he,hw⟩=>fin e w' he (hw ▸ Below.refl _ _)
  ·obtain ⟨ad,had,hlt,hcell⟩:=hrd (by simp;omega)
   subst had
   have hsp:ad.spot=none:=by
    have:=hcell 0 _ (List.getElem?_eq_getElem (by simp;omega)) 0 (.string (bs (l[0]'(by omega)))) (by simp)
    rw [Nat.zero_mul,Nat.add_zero,add_zero'] at this
    unfold World.cell? at this
    cases hs:ad.spot with
    | none=>rfl
    | some q =>
     split at this
     ·rw [hs] at this;simp at this
     ·cases this
   obtain ⟨bk,off,sp⟩:=ad
   simp only at hsp hlt
   subst hsp
   have hm:(l.map bs).map (fun b=>b.data.toList)=l:=by
    rw [List.map_map]
    exact (List.map_congr_left fun t _=>rfl).trans (List.map_id l)
   have:=strings_Join bk off c (l.map bs) (bs [32]) w (fun j x hx=>?_) hlt (by simp;omega) (by simpa using hc) (by rw [hm,bs_data,joinW_lib];omega)
   ·rw [hm,bs_data,joinW_lib,List.length_map] at this
    exact this.mono fun e w' ⟨he,hb⟩=>fin e w' he hb
   ·rw [List.getElem?_map] at hx
    cases hq:l[j]? with
    | none=>simp [hq] at hx
    | some t =>
     rw [hq] at hx
     obtain rfl:bs t=x:=by simpa using hx
     have:=hcell j _ (by rw [List.getElem?_map,hq];rfl) 0 (.string (bs t)) rfl
     rw [add_flat,Nat.mul_one,Nat.add_zero] at this
     exact this
end Go.Proofs.YtgelfflighgajaaGreatDoor
namespace Go.Proofs.YtgelfflighgajaaGreatDoor
open Go.RowKit
theorem headW_bar {s:Int} {e:Ev} (h:e.bar=true):headW s e=[[124],tW e.val (sgI e.dot e.three)]:=if_pos h
theorem headW_no {s:Int} {e:Ev} (h:e.bar=false):headW s e=[tW e.val (sgI e.dot e.three)]:=if_neg (by simp [h])
def fillL (n k:Nat):List (List UInt8):=(List.range n).map fun j=>if j<k then [45]else []
theorem fillL_zero (n:Nat):(fillL n 0).map eStr=List.replicate n [.sc (.string ⟨#[]⟩)]:=by
 unfold fillL
 rw [List.map_map]
 apply List.ext_getElem
 ·simp
 ·intro i h1 h2;simp [eStr,bs]
theorem fillL_len(n k:Nat):(fillL n k).length=n:=by simp [fillL]
theorem fillL_succ (n k:Nat)(h:k<n):(fillL n k).set k [45]=fillL n (k+1):=by
 unfold fillL
 apply List.ext_getElem
 ·simp
 ·intro i h1 h2
  rw [List.getElem_set]
  simp only [List.getElem_map,List.getElem_range]
  by_cases e:k=i
  ·rw [if_pos e,if_pos (by omega)]
  ·rw [if_neg e]
   by_cases e2:i<k
   ·rw [if_pos e2,if_pos (by omega)]
   ·rw [if_neg e2,if_neg (by omega)]
theorem fillL_all(s:Int)(L:Int→Nat)(n:Nat):fillL n n=staffL s L n []:=by
 rw [staffL_nil]
 unfold fillL
 apply List.ext_getElem
 ·simp
 ·intro i h1 h2
  have hi:i<n:=by simpa using h1
  simp [hi]
theorem headW_len(s:Int)(e:Ev):(headW s e).length≤2:=by unfold headW;split<;>simp
theorem staffN_le(s:Int)(p:Pce):staffN s p≤6:=by unfold staffN;split<;>omega
theorem staffL_len(s:Int)(L:Int→Nat)(n:Nat)(l:List Stp):(staffL s L n l).length=n:=by simp [staffL]
theorem tW_len (v:Int)(i:Nat)(h:0≤v∧v≤7):(tW v i).length≤2:=by
 unfold tW
 have hc:(cut tmLet (v-1) v).length≤1:=by simp only [cut,List.length_take,List.length_drop];omega
 split
 ·decide
 ·split
  ·omega
  ·split<;>simp<;>omega
theorem stF_len (s:Int)(hs:1≤s∧s≤4)(L:Int→Nat)(l:List Stp)(c:Int)(h:∀ x∈l,(1≤x.1∧x.1≤14)∧(0≤x.2.1∧x.2.1≤18)):(stF s L l c).length≤12:=by
 unfold stF
 split
 ·rename_i x hx
  have:=h x (stOn_eq hx).1
  exact cellS_len _ _ _ _ _ _ _ hs this.1 this.2
 ·simp
theorem in_of {e:Ev} (h:StopsIn e):∀ x∈e.stops,(1≤x.1∧x.1≤14)∧(0≤x.2.1∧x.2.1≤18):=fun x hx=>by
 obtain⟨k,hk,rfl⟩:=List.getElem_of_mem hx
 exact⟨(h k hk).1,(h k hk).2.1⟩
theorem joinW_len {n:Nat} (l:List (List UInt8))(h:∀ t∈l,t.length≤n):(joinW l).length≤(n+1)*l.length:=by
 cases l with
 | nil=>simp [joinW]
 | cons x r =>
  have h1:=spW_len (l:=r) fun t ht=>h t (by simp [ht])
  have h2:=h x (by simp)
  simp only [joinW,List.length_append,List.length_cons,Nat.mul_succ]
  omega
theorem joinW_bd (s:Int) (hs:1≤s∧s≤4) (p:Pce) (i:Int) (e:Ev) (hsg:sgOk e.val e.dot e.three=true) (hv:StopsIn e) (h20:e.stops.length≤20):(colW s p i e).length≤1000∧(joinW (colW s p i e)).length≤1000000:=by
 have hi:=in_of hv
 have hh:=headW_len s e
 have hst:∀ t∈staffL s (fun c=>longestN p.evs i c) (staffN s p) e.stops,t.length≤12:=fun t ht=>by
  unfold staffL at ht
  obtain ⟨j,_,rfl⟩:=List.mem_map.1 ht
  exact stF_len s hs _ _ _ hi
 have hou:∀ t∈outL s (fun c=>longestN p.evs i c) (staffN s p) e.stops,t.length≤12:=fun t ht=>by
  have:t∈(e.stops.filter fun x=>decide (((staffN s p:Nat):Int)<x.1)).map (stT s fun c=>longestN p.evs i c):=by
   unfold outL at ht
   split at ht
   ·simpa using ht
   ·exact ht
  obtain ⟨x,hx,rfl⟩:=List.mem_map.1 this
  have:=hi x (List.mem_filter.1 hx).1
  exact cellS_len _ _ _ _ _ _ _ hs this.1 this.2
 have hlo:=outL_len s (fun c=>longestN p.evs i c) (staffN s p) e.stops
 have hls:=staffL_len s (fun c=>longestN p.evs i c) (staffN s p) e.stops
 have hn6:=staffN_le s p
 have hall:∀ t∈colW s p i e,t.length≤12:=fun t ht=>by
  unfold colW at ht
  rcases List.mem_append.1 ht with ht|ht
  ·have htw:=tW_len e.val (sgI e.dot e.three) ⟨(sg_cases hsg).1,(sg_cases hsg).2.1⟩
   unfold headW at ht
   split at ht
   ·simp only [List.mem_cons,List.not_mem_nil,or_false] at ht
    rcases ht with rfl|rfl
    ·simp
    ·omega
   ·simp only [List.mem_cons,List.not_mem_nil,or_false] at ht
    subst ht;omega
  ·split at ht
   ·simp at ht;subst ht;simp
   ·split at ht
    ·simp at ht;subst ht;simp
    ·split at ht
     ·rcases List.mem_append.1 ht with ht|ht
      ·exact hou t ht
      ·exact hst t ht
     ·rcases List.mem_append.1 ht with ht|ht
      ·exact hst t ht
      ·exact hou t ht
 have hlen:(colW s p i e).length≤40:=by
  unfold colW
  rw [List.length_append]
  split
  ·simp;omega
  ·split
   ·simp;omega
   ·split
    ·rw [List.length_append];omega
    ·rw [List.length_append];omega
 refine ⟨by omega,?_⟩
 have:=joinW_len _ hall
 have h2:(12+1)*(colW s p i e).length≤13*40:=Nat.mul_le_mul_left 13 hlen
 omega
theorem column_FS (s:Int) (hs:1≤s∧s≤4) (p:Pce) (i:Nat) (hi:i < p.evs.length) (hO:PcOk p) (h0:pceE p=0) :
  Ctr Tryz.prog 124 [.sc (.int .u8 s),.sc (sysV s),ePce p,.sc (.int .i64 i)] (.sc (.string (bs (colS s p i p.evs[i])))):=by
 have hn3:=hO.n3
 have hE:=(pceE_zero h0).2.2 i hi
 have hv:=stopsIn_of h0 i hi
 have hsg:=(evE_zero hE).1
 refine Ctr.intro Tryz.func124 rfl Tryz.ntmps124 (Nat.le_of_ble_eq_true rfl) (bd_all rfl) fun w0 F0=>?_;dsimp only [St.init,number,Nat.reduceAdd]
 repeat (first|refine W.go rfl ?_|refine WL.ev rfl ?_|refine WL.idx rfl rfl (by omega) (by first|exact map_at (by omega)|exact map_atZ (by omega) (by omega)) ?_)
 refine (?_:WL _ _ _ _ _ _)
 dsimp only [St.put,Nat.reduceAdd]
 refine WL.vl rfl (WV.call rfl (callF Tryz.func182 rfl rfl) rfl rfl (timeWord_FS s hs p.evs[i] hsg)) ?_
 repeat (first|refine W.go rfl ?_|refine WL.ev rfl ?_)
 refine (?_:W _ _ _ _ _)
 dsimp only [St.put,Nat.reduceAdd]
 refine W.meet ⟨[(0,.sc (.int .u8 s)),(1,.sc (sysV s)),(3,.sc (.int .i64 i)),(6,.pt 0 0 0),(9,.pt 1 0 0),(12,.sl 2)],[(0,.box 28 (ePce p).cells),(1,.box 36 (eEv p.evs[i])),(2,.row 9 1 ((headW s p.evs[i]).map eStr))],3⟩ ?_ ?_
 ·(refine W.cond rfl (fun hif=>?_) (fun hif=>?_)<;>(try simp only [decide_eq_true_eq,decide_eq_false_iff_not,Int.not_lt,Int.not_le,Bool.not_eq_true',Bool.not_eq_false'] at hif))
  ·rw [headW_bar hif]
   repeat refine W.go rfl ?_
   refine (?_:Tr _ _ _)
   exact (Tr.ren (fun q=>bif Nat.beq q 2 then 3 else q) (by repeat (first|exact trivial|refine ⟨⟨?_,?_⟩,?_⟩|rfl)) (by repeat (first|exact trivial|refine ⟨⟨?_,?_,?_⟩,?_⟩|rfl|exact congrArg (fun q=>some (AO.row _ _ q)) (by first|rfl|(simp;done)|(simp [eInt];done)|(simp [eLk];done)))) rfl)
  ·rw [headW_no hif]
   repeat refine W.go rfl ?_
   refine (?_:Tr _ _ _)
   exact (Tr.ren (fun q=>q) (by repeat (first|exact trivial|refine ⟨⟨?_,?_⟩,?_⟩|rfl)) (by repeat (first|exact trivial|refine ⟨⟨?_,?_,?_⟩,?_⟩|rfl|exact congrArg (fun q=>some (AO.row _ _ q)) (by first|rfl|(simp;done)|(simp [eInt];done)|(simp [eLk];done)))) rfl)
 obtain ⟨L,hL⟩:∃ L:Int→Nat,L=fun c=>longestN p.evs i c:=⟨_,rfl⟩
 have hwl:=headW_len s p.evs[i]
 have hjl:=joinW_bd s hs p i p.evs[i] hsg hv (hO.n4 i hi)
 unfold colS at *
 obtain ⟨n,hn⟩:∃ n,staffN s p=n:=⟨_,rfl⟩
 have hn6:=staffN_le s p
 rw [hn] at hn6
 have hjoin:=join_FS (colW s p i p.evs[i]) hjl.1 hjl.2
 have e1:p.evs[i].tie=true→colW s p i p.evs[i]=headW s p.evs[i]++[[126]]:=fun h=>by unfold colW;rw [if_pos h]
 have e2:p.evs[i].tie=false→(p.evs[i].stops.length:Int)=0→colW s p i p.evs[i]=headW s p.evs[i]++[[37]]:=fun h h1=>by unfold colW;rw [if_neg (by simp [h]),if_pos (by omega)]
 have e3:p.evs[i].tie=false→¬ (p.evs[i].stops.length:Int)=0→s=2→colW s p i p.evs[i]=headW s p.evs[i]++outL s L n p.evs[i].stops++staffL s L n p.evs[i].stops:=fun h h1 h2=>by
  unfold colW;rw [if_neg (by simp [h]),if_neg (by omega),if_pos h2,hn,← hL,List.append_assoc]
 have e4:p.evs[i].tie=false→¬ (p.evs[i].stops.length:Int)=0→¬ s=2→colW s p i p.evs[i]=headW s p.evs[i]++staffL s L n p.evs[i].stops++outL s L n p.evs[i].stops:=fun h h1 h2=>by
  unfold colW;rw [if_neg (by simp [h]),if_neg (by omega),if_neg h2,hn,← hL,List.append_assoc]
 obtain ⟨hd,hhd⟩:∃ l,headW s p.evs[i]=l:=⟨_,rfl⟩
 obtain ⟨cw,hcw⟩:∃ l,colW s p i p.evs[i]=l:=⟨_,rfl⟩
 rw [hhd] at e1 e2 e3 e4 hwl ⊢
 rw [hcw] at e1 e2 e3 e4 hjoin ⊢
 clear hcw hjl
 repeat refine W.go rfl ?_
 refine (?_:W _ _ _ _ _)
 dsimp only [St.put,Nat.reduceAdd]
 (refine W.cond rfl (fun hif=>?_) (fun hif=>?_)<;>(try simp only [decide_eq_true_eq,decide_eq_false_iff_not,Int.not_lt,Int.not_le,Bool.not_eq_true',Bool.not_eq_false'] at hif))
 ·have e:=e1 hif
  rw [e,List.map_append] at hjoin
  rw [e]
  repeat (first|refine W.go rfl ?_|refine WL.app rfl rfl rfl (by first|omega|(simp;done)|(simp;omega)) ?_)
  refine (?_:WL _ _ _ _ _ _)
  dsimp only [St.put,Nat.reduceAdd]
  refine WL.tr (Tr.freeze 4 rfl) ?_
  refine WL.vl rfl (WV.call rfl (callF Tryz.func114 rfl rfl) rfl rfl hjoin) ?_
  repeat refine WL.ev rfl ?_
  refine (?_:W _ _ _ _ _)
  dsimp only [St.put,Nat.reduceAdd]
  exact W.ret (fin1 rfl rfl rfl rfl)
 have htie:=hif
 repeat (first|refine W.go rfl ?_|refine WL.ev rfl ?_|refine WL.len rfl rfl (by first|exact List.length_map _|exact List.length_replicate|rfl) ?_)
 refine (?_:W _ _ _ _ _)
 dsimp only [St.put,Nat.reduceAdd]
 (refine W.cond rfl (fun hif=>?_) (fun hif=>?_)<;>(try simp only [decide_eq_true_eq,decide_eq_false_iff_not,Int.not_lt,Int.not_le,Bool.not_eq_true',Bool.not_eq_false'] at hif))
 ·have e:=e2 htie hif
  rw [e,List.map_append] at hjoin
  rw [e]
  repeat (first|refine W.go rfl ?_|refine WL.app rfl rfl rfl (by first|omega|(simp;done)|(simp;omega)) ?_)
  refine (?_:WL _ _ _ _ _ _)
  dsimp only [St.put,Nat.reduceAdd]
  refine WL.tr (Tr.freeze 4 rfl) ?_
  refine WL.vl rfl (WV.call rfl (callF Tryz.func114 rfl rfl) rfl rfl hjoin) ?_
  repeat refine WL.ev rfl ?_
  refine (?_:W _ _ _ _ _)
  dsimp only [St.put,Nat.reduceAdd]
  exact W.ret (fin1 rfl rfl rfl rfl)
 have hne:=hif
 have e3:=e3 htie hne
 have e4:=e4 htie hne
 repeat refine W.go rfl ?_
 refine (?_:W _ _ _ _ _)
 dsimp only [St.put,Nat.reduceAdd]
 refine W.meet ⟨[(0,.sc (.int .u8 s)),(1,.sc (sysV s)),(3,.sc (.int .i64 i)),(6,.pt 0 0 0),(9,.pt 1 0 0),(12,.sl 2),(13,.sc (.int .i64 (n:Int)))],[(0,.box 28 (ePce p).cells),(1,.box 36 (eEv p.evs[i])),(2,.row 9 1 (hd.map eStr))],3⟩ ?_ ?_
 ·(refine W.cond rfl (fun hif=>?_) (fun hif=>?_)<;>(try simp only [decide_eq_true_eq,decide_eq_false_iff_not,Int.not_lt,Int.not_le,Bool.not_eq_true',Bool.not_eq_false'] at hif))
  ·have hsn:¬ s=4:=by simpa using hif
   have hc0:n=min p.cs.length 6:=by rw [← hn];exact if_neg hsn
   rw [hc0]
   repeat refine W.go rfl ?_
   refine (?_:WL _ _ _ _ _ _)
   dsimp only [St.put,Nat.reduceAdd]
   refine WL.vl rfl (WV.call rfl (callF Tryz.func139 rfl rfl) rfl rfl (pstaff_FS p.cs p.st hO.n1)) ?_
   repeat refine WL.ev rfl ?_
   dsimp only [St.put,Nat.reduceAdd]
   refine (?_:Tr _ _ _)
   exact (Tr.ren (fun q=>q) (by repeat (first|exact trivial|refine ⟨⟨?_,?_⟩,?_⟩|rfl)) (by repeat (first|exact trivial|refine ⟨⟨?_,?_,?_⟩,?_⟩|rfl|exact congrArg (fun q=>some (AO.row _ _ q)) (by first|rfl|(simp;done)|(simp [eInt];done)|(simp [eLk];done)))) rfl)
  ·have hsn:s=4:=by simpa using hif
   have hc0:n=0:=by rw [← hn];exact if_pos hsn
   rw [hc0]
   repeat refine W.go rfl ?_
   refine (?_:Tr _ _ _)
   exact (Tr.ren (fun q=>q) (by repeat (first|exact trivial|refine ⟨⟨?_,?_⟩,?_⟩|rfl)) (by repeat (first|exact trivial|refine ⟨⟨?_,?_,?_⟩,?_⟩|rfl|exact congrArg (fun q=>some (AO.row _ _ q)) (by first|rfl|(simp;done)|(simp [eInt];done)|(simp [eLk];done)))) rfl)
 repeat refine W.go rfl ?_
 refine (?_:WL _ _ _ _ _ _)
 dsimp only [St.put,Nat.reduceAdd]
 refine WL.op rfl (WO.make1 (k:=n) rfl rfl rfl rfl rfl rfl (fun k=>by rw [Nat.mul_one];exact toList_madeCells_one _ _) rfl rfl rfl rfl rfl (by omega) rfl) ?_
 repeat (first|refine W.go rfl ?_|refine WL.ev rfl ?_|refine WL.len rfl rfl (by first|exact List.length_map _|exact List.length_replicate|rfl) ?_)
 refine (?_:W _ _ _ _ _)
 dsimp only [St.put,Nat.reduceAdd]
 have hz:=fillL_zero n
 refine W.loop (fun k:Nat=>k≤n) (fun k=>⟨[(0,.sc (.int .u8 s)),(1,.sc (sysV s)),(3,.sc (.int .i64 i)),(6,.pt 0 0 0),(9,.pt 1 0 0),(12,.sl 2),(13,.sc (.int .i64 (n:Int))),(14,.sl 3),(63,.sc (.int .i64 (n:Int))),(64,.sc (.int .i64 k))],[(0,.box 28 (ePce p).cells),(1,.box 36 (eEv p.evs[i])),(2,.row 9 1 (hd.map eStr)),(3,.row 9 1 ((fillL n k).map eStr))],4⟩) (fun k=>n - k) 0 (by omega) (Tr.ren (fun q=>q) (by repeat (first|exact trivial|refine ⟨⟨?_,?_⟩,?_⟩|rfl)) (by repeat (first|exact trivial|refine ⟨⟨?_,?_,?_⟩,?_⟩|rfl|exact congrArg (fun q=>some (AO.row _ _ q)) hz.symm)) rfl) fun k hk=>?_
 repeat refine W.go rfl ?_
 refine (?_:W _ _ _ _ _)
 (refine W.cond rfl (fun hif=>?_) (fun hif=>?_)<;>(try simp only [decide_eq_true_eq,decide_eq_false_iff_not,Int.not_lt,Int.not_le,Bool.not_eq_true',Bool.not_eq_false'] at hif))
 ·have hk2:k < n:=by omega
  have hl:=fillL_len n k
  have hset:((fillL n k).map eStr).set k (eStr [45])=(fillL n (k+1)).map eStr:=by rw [← List.map_set,fillL_succ n k hk2]
  have hix:0≤(k:Int)∧(k:Int) < ((fillL n k).map eStr).length:=⟨by omega,by simp [hl];omega⟩
  have hat:((fillL n k).map eStr)[((k:Nat):Int).toNat]?=some (eStr ((fillL n k)[k]'(by omega))):=map_at (by omega)
  repeat (first|refine W.go rfl ?_|refine WL.ixs rfl rfl (by first|omega|(simp;done)|(simp;omega)) ?_)
  refine (?_:WL _ _ _ _ _ _)
  dsimp only [St.put,Nat.reduceAdd]
  refine WL.sto rfl rfl rfl rfl hat (by exact Nat.le_refl _) ?_
  repeat (first|refine W.go rfl ?_|refine WL.nil ?_|refine WL.ev rfl ?_|refine WL.ar rfl rfl (by unfold I64;omega) ?_)
  dsimp only [St.put,Nat.reduceAdd]
  refine ⟨k+1,by omega,by omega,?_⟩
  exact (Tr.ren (fun q=>q) (by repeat (first|exact trivial|refine ⟨⟨?_,?_⟩,?_⟩|rfl)) (by repeat (first|exact trivial|refine ⟨⟨?_,?_,?_⟩,?_⟩|rfl|exact congrArg (fun q=>some (AO.row _ _ q)) hset)) rfl)
 have hkn:k=n:=by omega
 rw [hkn,fillL_all s L n]
 repeat (first|refine W.go rfl ?_|refine WL.ev rfl ?_|refine WL.len rfl rfl (by first|exact List.length_map _|exact List.length_replicate|rfl) ?_)
 refine (?_:W _ _ _ _ _)
 dsimp only [St.put,Nat.reduceAdd]
 refine W.tr (Tr.nil (t:=16) 9 1 rfl rfl) ?_
 have hasc:asc 0 p.evs[i].stops:=asc_of (evE_zero hE).2.2.2
 refine W.loop (fun k:Nat=>k≤p.evs[i].stops.length) (fun k=>⟨[(0,.sc (.int .u8 s)),(1,.sc (sysV s)),(3,.sc (.int .i64 i)),(6,.pt 0 0 0),(9,.pt 1 0 0),(12,.sl 2),(13,.sc (.int .i64 (n:Int))),(14,.sl 3),(16,.sl 4),(72,eStps p.evs[i].stops),(73,.sc (.int .i64 p.evs[i].stops.length)),(74,.sc (.int .i64 k))],[(0,.box 28 (ePce p).cells),(1,.box 36 (eEv p.evs[i])),(2,.row 9 1 (hd.map eStr)),(3,.row 9 1 ((staffL s L n (p.evs[i].stops.take k)).map eStr)),(4,.row 9 1 ((outL s L n (p.evs[i].stops.take k)).map eStr))],5⟩) (fun k=>p.evs[i].stops.length - k) 0 (by omega) (Tr.ren (fun q=>q) (by repeat (first|exact trivial|refine ⟨⟨?_,?_⟩,?_⟩|rfl)) (by repeat (first|exact trivial|refine ⟨⟨?_,?_,?_⟩,?_⟩|rfl|exact congrArg (fun q=>some (AO.row _ _ q)) (by rw [List.take_zero];unfold outL;split<;>rfl))) rfl) fun k hk=>?_
 repeat refine W.go rfl ?_
 refine (?_:W _ _ _ _ _)
 (refine W.cond rfl (fun hif=>?_) (fun hif=>?_)<;>(try simp only [decide_eq_true_eq,decide_eq_false_iff_not,Int.not_lt,Int.not_le,Bool.not_eq_true',Bool.not_eq_false'] at hif))
 ·have hk2:k < p.evs[i].stops.length:=by omega
  have hb:=hv k hk2
  have hlt:=asc_take k hk2 hasc
  have htk:=List.take_succ_eq_append_getElem hk2
  have hLx:(longestN p.evs i p.evs[i].stops[k].1:Int)=L p.evs[i].stops[k].1:=by rw [hL]
  obtain ⟨x,hx⟩:∃ x,p.evs[i].stops[k]=x:=⟨_,rfl⟩
  obtain ⟨tk,htkk⟩:∃ l,p.evs[i].stops.take k=l:=⟨_,rfl⟩
  obtain ⟨tk1,htk1⟩:∃ l,p.evs[i].stops.take (k+1)=l:=⟨_,rfl⟩
  have h20:=hO.n4 i hi
  have hol:=outL_len s L n (p.evs[i].stops.take k)
  rw [List.length_take] at hol
  repeat (first|refine W.go rfl ?_|refine WL.ev rfl ?_|refine WL.idx rfl rfl (by omega) (by first|exact map_at (by omega)|exact map_atZ (by omega) (by omega)) ?_)
  refine (?_:W _ _ _ _ _)
  dsimp only [St.put,Nat.reduceAdd]
  rw [hx] at hb hlt htk hLx ⊢
  rw [htkk] at hlt htk hol ⊢
  rw [htk1] at htk
  refine W.drawK (by kernel_rfl) (by kernel_rfl) ?_
  repeat refine DK.st rfl ?_
  refine DK.vl rfl (WV.call rfl (callF Tryz.func144 rfl rfl) rfl rfl (pLong_FS p hO i _)) ?_
  refine DK.vl rfl (WV.call rfl (callF Tryz.func183 rfl rfl) rfl rfl (cell_FS s hs x _ hb.1 hb.2.1 hb.2.2.1 hb.2.2.2.1 hb.2.2.2.2)) ?_
  repeat (first|refine DK.st rfl ?_|refine DK.nil ?_)
  rw [hLx]
  repeat refine W.go rfl ?_
  refine (?_:W _ _ _ _ _)
  dsimp only [St.put,Nat.reduceAdd]
  (refine W.cond rfl (fun hif=>?_) (fun hif=>?_)<;>(try simp only [decide_eq_true_eq,decide_eq_false_iff_not,Int.not_lt,Int.not_le,Bool.not_eq_true',Bool.not_eq_false'] at hif))
  ·have hxn:x.1≤n:=hif
   have hs4:s≠4:=fun e=>by rw [← hn,staffN,if_pos e] at hxn;omega
   have hli:1≤lineV s x.1 n∧lineV s x.1 n≤n:=by
    unfold lineV
    rw [if_neg hs4]
    split<;>omega
   have hst:=staffL_snoc s L n tk x hs4 hlt hb.1.1 hxn
   have hou:=outL_in s L n tk x hxn
   rw [← htk] at hst hou
   have hsl:=staffL_len s L n tk
   obtain ⟨lv,hlv⟩:∃ z,lineV s x.1 n=z:=⟨_,rfl⟩
   rw [hlv] at hli hst
   have hix:0≤lv - 1∧lv - 1 < ((staffL s L n tk).map eStr).length:=⟨by omega,by rw [List.length_map,hsl];omega⟩
   have hat:((staffL s L n tk).map eStr)[(lv - 1).toNat]?=some (eStr ((staffL s L n tk)[(lv - 1).toNat]'(by omega))):=map_atZ (by omega) (by rw [hsl];omega)
   have hset:((staffL s L n tk).map eStr).set (lv - 1).toNat (eStr (stT s L x))=(staffL s L n tk1).map eStr:=by rw [hst,List.map_set]
   have hlf:=line_FS s hs x.1 n hb.1 ⟨by omega,by omega⟩
   rw [hlv] at hlf
   repeat refine W.go rfl ?_
   refine (?_:WL _ _ _ _ _ _)
   dsimp only [St.put,Nat.reduceAdd]
   refine WL.vl rfl (WV.sys hs lineF rfl rfl (fun vs w=>by kernel_rfl) (fun vs w=>by kernel_rfl) (fun vs w=>by kernel_rfl) (fun vs w=>by kernel_rfl) rfl rfl hlf) ?_
   repeat (first|refine WL.ev rfl ?_|refine WL.ar rfl rfl (by unfold I64;omega) ?_|refine WL.ixs rfl rfl (by first|omega|(simp;done)|(simp;omega)) ?_)
   refine (?_:WL _ _ _ _ _ _)
   dsimp only [St.put,Nat.reduceAdd]
   refine WL.sto rfl rfl rfl rfl hat (by exact Nat.le_refl _) ?_
   repeat (first|refine W.go rfl ?_|refine WL.nil ?_|refine WL.ev rfl ?_|refine WL.ar rfl rfl (by unfold I64;omega) ?_)
   dsimp only [St.put,Nat.reduceAdd]
   refine ⟨k+1,by omega,by omega,?_⟩
   rw [htk1]
   exact (Tr.ren (fun q=>q) (by repeat (first|exact trivial|refine ⟨⟨?_,?_⟩,?_⟩|rfl)) (by repeat (first|exact trivial|refine ⟨⟨?_,?_,?_⟩,?_⟩|rfl|exact congrArg (fun q=>some (AO.row _ _ q)) hset|exact congrArg (fun q=>some (AO.row _ _ q)) (congrArg (List.map eStr) hou.symm))) rfl)
  have hxn:¬ x.1≤n:=by omega
  have hst:staffL s L n tk1=staffL s L n tk:=by
   rw [htk]
   unfold staffL
   apply List.map_congr_left
   intro j hj
   rw [stF_snoc s L tk x _ hlt,if_neg]
   have hj:j < n:=by simpa using hj
   unfold cAt
   split<;>omega
  have hou:=outL_out s L n tk x hxn
  rw [← htk] at hou
  have happ1:¬ s=2→(outL s L n tk).map eStr++[eStr (stT s L x)]=(outL s L n tk1).map eStr:=fun h=>by rw [hou,if_neg h,List.map_append];rfl
  have happ2:s=2→[eStr (stT s L x)]++(outL s L n tk).map eStr=(outL s L n tk1).map eStr:=fun h=>by rw [hou,if_pos h];rfl
  repeat refine W.go rfl ?_
  refine (?_:WL _ _ _ _ _ _)
  dsimp only [St.put,Nat.reduceAdd]
  refine WL.vl rfl (WV.sys hs behindF rfl rfl (fun vs w=>by kernel_rfl) (fun vs w=>by kernel_rfl) (fun vs w=>by kernel_rfl) (fun vs w=>by kernel_rfl) rfl rfl (behind_FS s hs)) ?_
  repeat refine WL.ev rfl ?_
  refine (?_:W _ _ _ _ _)
  dsimp only [St.put,Nat.reduceAdd]
  (refine W.cond rfl (fun hif=>?_) (fun hif=>?_)<;>(try simp only [decide_eq_true_eq,decide_eq_false_iff_not,Int.not_lt,Int.not_le,Bool.not_eq_true',Bool.not_eq_false'] at hif))
  ·have hs2:s≠2:=by simpa using hif
   have happ1:=happ1 hs2
   repeat (first|refine W.go rfl ?_|refine WL.ev rfl ?_|refine WL.ar rfl rfl (by unfold I64;omega) ?_|refine WL.app rfl rfl rfl (by first|omega|(simp;done)|(simp;omega)) ?_)
   dsimp only [St.put,Nat.reduceAdd]
   refine ⟨k+1,by omega,by omega,?_⟩
   rw [htk1]
   exact (Tr.ren (fun q=>bif Nat.beq q 4 then 7 else q) (by repeat (first|exact trivial|refine ⟨⟨?_,?_⟩,?_⟩|rfl)) (by repeat (first|exact trivial|refine ⟨⟨?_,?_,?_⟩,?_⟩|rfl|exact congrArg (fun q=>some (AO.row _ _ q)) (congrArg (List.map eStr) hst.symm)|exact congrArg (fun q=>some (AO.row _ _ q)) happ1)) rfl)
  have hs2:s=2:=by simpa using hif
  have happ2:=happ2 hs2
  repeat (first|refine W.go rfl ?_|refine WL.ev rfl ?_|refine WL.ar rfl rfl (by unfold I64;omega) ?_|refine WL.app rfl rfl rfl (by first|omega|(simp;done)|(simp;omega)) ?_)
  dsimp only [St.put,Nat.reduceAdd]
  refine ⟨k+1,by omega,by omega,?_⟩
  rw [htk1]
  exact (Tr.ren (fun q=>bif Nat.beq q 4 then 7 else q) (by repeat (first|exact trivial|refine ⟨⟨?_,?_⟩,?_⟩|rfl)) (by repeat (first|exact trivial|refine ⟨⟨?_,?_,?_⟩,?_⟩|rfl|exact congrArg (fun q=>some (AO.row _ _ q)) (congrArg (List.map eStr) hst.symm)|exact congrArg (fun q=>some (AO.row _ _ q)) happ2)) rfl)
 have hke:k=p.evs[i].stops.length:=by omega
 rw [hke,List.take_length]
 have hsl:=staffL_len s L n p.evs[i].stops
 have hol:=outL_len s L n p.evs[i].stops
 have h20:=hO.n4 i hi
 repeat refine W.go rfl ?_
 refine (?_:WL _ _ _ _ _ _)
 dsimp only [St.put,Nat.reduceAdd]
 refine WL.vl rfl (WV.sys hs behindF rfl rfl (fun vs w=>by kernel_rfl) (fun vs w=>by kernel_rfl) (fun vs w=>by kernel_rfl) (fun vs w=>by kernel_rfl) rfl rfl (behind_FS s hs)) ?_
 repeat refine WL.nil ?_
 refine (?_:W _ _ _ _ _)
 dsimp only [St.put,Nat.reduceAdd]
 (refine W.cond rfl (fun hif=>?_) (fun hif=>?_)<;>(try simp only [decide_eq_true_eq,decide_eq_false_iff_not,Int.not_lt,Int.not_le,Bool.not_eq_true',Bool.not_eq_false'] at hif))
 ·have e:=e4 (by simpa using hif)
  rw [e,List.map_append,List.map_append] at hjoin
  rw [e]
  repeat (first|refine W.go rfl ?_|refine WL.ev rfl ?_|refine WL.app rfl rfl rfl (by first|omega|(simp;done)|(simp;omega)) ?_)
  refine (?_:WL _ _ _ _ _ _)
  dsimp only [St.put,Nat.reduceAdd]
  refine WL.tr (Tr.freeze 6 rfl) ?_
  refine WL.vl rfl (WV.call rfl (callF Tryz.func114 rfl rfl) rfl rfl hjoin) ?_
  repeat refine WL.ev rfl ?_
  refine (?_:W _ _ _ _ _)
  dsimp only [St.put,Nat.reduceAdd]
  exact W.ret (fin1 rfl rfl rfl rfl)
 have e:=e3 (by simpa using hif)
 rw [e,List.map_append,List.map_append] at hjoin
 rw [e]
 repeat (first|refine W.go rfl ?_|refine WL.ev rfl ?_|refine WL.app rfl rfl rfl (by first|omega|(simp;done)|(simp;omega)) ?_)
 refine (?_:WL _ _ _ _ _ _)
 dsimp only [St.put,Nat.reduceAdd]
 refine WL.tr (Tr.freeze 6 rfl) ?_
 refine WL.vl rfl (WV.call rfl (callF Tryz.func114 rfl rfl) rfl rfl hjoin) ?_
 repeat refine WL.ev rfl ?_
 refine (?_:W _ _ _ _ _)
 dsimp only [St.put,Nat.reduceAdd]
 exact W.ret (fin1 rfl rfl rfl rfl)
end Go.Proofs.YtgelfflighgajaaGreatDoor
