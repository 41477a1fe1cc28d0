/- piece.Onsets as a contract over trees. -/
import Derived.Test.YtaeelcfjkhfpkaaGreatSgFubPq
import Derived.RangeFuncNested
import Derived.RangeFuncBound
import Derived.Shelf.RegionOpen
import Derived.OwnWalkIn
import Derived.LoopNIn
import Derived.LoopIn
import Derived.Test.YtaeelcfjkhfpkaaGreatYAPq
import Derived.Test.YtaeelcfjkhfpkaaGreatREePq
set_option maxHeartbeats 8000000
set_option maxRecDepth 100000
set_option linter.unusedVariables false
set_option linter.unusedSimpArgs false
namespace Go.Proofs.YtaeelcfjkhfpkaaGreat
section
open Go.RowKit
theorem znH_bd {s:Int} {evs:List Ev} {i:Nat} {y:Stp} (h:0≤y.2.2.2.2):0≤znH s evs i y∧znH s evs i y≤longestN evs i y.1∧(0<znH s evs i y→y.2.1≠0):=by
 have hb:=ftH_bd (evs:=evs) (i:=i) h
 unfold znH
 split
 ·exact hb
 ·exact ⟨by omega,by omega,fun h=>by omega⟩
end
section
open Go.RowKit
theorem pCan_FS (s:Int) (p:Pce) (hO:PcOk p):Ctr Tryz.prog 28 [.sc (.int .u8 s),ePce p] (.sc (.bool (lksE s p == 0 && ((lksR s p).length:Int) == 0))):=by
 refine zqe Tryz.func28 Tryz.ntmps28 fun w0 F0=>?_;dsimp only [St.init,number,Nat.reduceAdd]
 repeat refine W.go rfl ?_
 refine (?_:WL _ _ _ _ _ _)
 refine WL.vl rfl (WV.call rfl (callF Tryz.func46 rfl rfl) rfl rfl (pLacks_FS s p hO)) ?_
 repeat (first|refine W.go rfl ?_|refine WL.ev rfl ?_)
 refine (?_:WL _ _ _ _ _ _)
 have hl:(lksR s p).length≤27000:=by
  unfold lksR
  split
  ·exact lksTo_len s hO _ (Nat.le_refl _)
  ·simp
 refine WL.partG rfl rfl rfl rfl (fun hp=>?_) (fun hp=>?_)
 ·have e:lksE s p=0:=of_decide_eq_true hp
  repeat (first|refine WL.ev rfl ?_|refine WL.gyes rfl rfl rfl rfl ?_|refine WL.len rfl rfl zql ?_)
  refine (?_:W _ _ _ _ _)
  refine W.ret (fin1 rfl rfl (sc_bool ?_) rfl)
  rw [e];rfl
 ·have e:lksE s p≠0:=of_decide_eq_false hp
  repeat (first|refine WL.ev rfl ?_|refine WL.opno rfl rfl rfl rfl rfl rfl rfl ?_)
  refine (?_:W _ _ _ _ _)
  refine W.ret (fin1 rfl rfl (sc_bool ?_) rfl)
  rw [show (lksE s p == 0)=false by simpa using e];rfl
end
section
open Go.RowKit
theorem redC_yes {s:Int} {x:Stp} (h:pOk s x.1 x.2.1=true):(redC s).mv x=some ((redC s).mr x):=by
 unfold Cg.mv
 rw [if_neg (by show ¬ (!pOk s x.1 x.2.1)=true;rw [h];simp)];rfl
theorem red_valid {s:Int} {p:Pce} (h:redX s p=0):pceE (redP s p)=0:=by
 have e:redP s p=⟨p.cs,p.st,fnL (znH s (redN s p)) (redN s p)⟩:=if_pos h
 rw [e]
 unfold redX at h
 by_cases hs:1≤s∧s≤4
 rotate_left
 ·rw [if_pos hs] at h;cases h
 rw [if_neg (fun x=>x hs)] at h
 by_cases h0:pceE p=0
 rotate_left
 ·rw [if_pos h0] at h;exact absurd h h0
 rw [if_neg (fun x=>x h0)] at h
 by_cases h4:s=4∧thrB p.evs=true
 ·rw [if_pos h4] at h;cases h
 rw [if_neg h4] at h
 by_cases h3:s=3∧frsB (redC s) p.evs=true
 ·rw [if_pos h3] at h;cases h
 exact cv_ok (p:=redI s p) (redI_valid h0) (pceE_zero h0).1 (redC_ok hs h0 h3) fun i y hy=>znH_bd hy
theorem thr_sg {evs:List Ev}:∀ n,n≤evs.length→(∀ k (h:k<evs.length),evs[k].val=0→evs[k].three=false)→(thrB (plN evs n)=thrB (evs.take n))∧((sgF evs n).2.2=true→thrB (evs.take n)=true)
 | 0,_,_=>⟨rfl,fun h=>by cases h⟩
 | n+1,hn,hz=>by
  obtain ⟨a,b⟩:=thr_sg n zqo hz
  have e:=sgF_at (evs:=evs) (k:=n) zqo
  rw [plN_at (by omega),List.take_succ_eq_append_getElem (by omega)]
  have e2:thrB (evs.take n++[evs[n]])=(thrB (evs.take n)|| evs[n].three):=by unfold thrB;rw [List.any_append];simp
  have e3:thrB (plN evs n++[sgW evs[n] (sgF evs (n+1))])=(thrB (plN evs n)|| (sgF evs (n+1)).2.2):=by unfold thrB;rw [List.any_append];simp [sgW]
  rw [e2,e3,a,e]
  by_cases hv:evs[n].val=0
  ·rw [if_pos hv,hz n (by omega) hv]
   constructor
   ·cases h:(sgF evs n).2.2 with
    | true=>rw [b h];rfl
    | false=>rfl
   ·intro h;rw [b h];rfl
  ·rw [if_neg hv]
   exact ⟨rfl,fun h=>by rw [show evs[n].three=true from h];simp⟩
theorem thr_plE {p:Pce} (h0:pceE p=0):thrB (plE p)=thrB p.evs:=by
 have:=(thr_sg (evs:=p.evs) p.evs.length (Nat.le_refl _) fun k hk hv=>by
  have hok:=(evOk_of h0 hk).sg
  unfold sgOk at hok
  rw [hv] at hok
  have:p.evs[k].dot=false∧p.evs[k].three=false:=by simpa using hok
  exact this.2).1
 rw [List.take_length] at this
 exact this
end
section
open Go.RowKit
theorem frsB_0 {C:Cg} {evs:List Ev} (h:0<evs.length):frsB C evs=decide ((nwS C evs[0].stops).length=0):=by
 cases evs with
 | nil=>cases h
 | cons e r=>rfl
theorem okR_mr (s r:Int):okR s (if okR s r=true then r else 0)=true:=by
 by_cases h:okR s r=true
 ·rw [if_pos h];exact h
 ·rw [if_neg h];rfl
theorem okG_mr (s r:Int):okG s (if okG s r=true then r else 0)=true:=by
 by_cases h:okG s r=true
 ·rw [if_pos h];exact h
 ·rw [if_neg h];rfl
end
section
open Go.RowKit
theorem redX_0 {s:Int} {p:Pce} (h:redX s p=0):(1≤s∧s≤4)∧pceE p=0∧¬ (s=4∧thrB p.evs=true)∧¬ (s=3∧frsB (redC s) p.evs=true):=by
 unfold redX at h
 by_cases hs:1≤s∧s≤4
 rotate_left
 ·rw [if_pos hs] at h;cases h
 rw [if_neg (fun x=>x hs)] at h
 by_cases h0:pceE p=0
 rotate_left
 ·rw [if_pos h0] at h;exact absurd h h0
 rw [if_neg (fun x=>x h0)] at h
 by_cases h4:s=4∧thrB p.evs=true
 ·rw [if_pos h4] at h;cases h
 rw [if_neg h4] at h
 by_cases h3:s=3∧frsB (redC s) p.evs=true
 ·rw [if_pos h3] at h;cases h
 exact⟨hs,h0,h4,h3⟩
theorem redP_evs {s:Int} {p:Pce} (h:redX s p=0):(redP s p).evs=fnL (znH s (redN s p)) (redN s p):=by rw [show redP s p=_ from if_pos h]
theorem redQ_4 {s:Int} {p:Pce} (h:redX s p=0) (h4:s=4):∀ e∈redQ s p,e.val≠0∧e.three=false:=by
 obtain ⟨hs,h0,ht,_⟩:=redX_0 h
 intro e he
 rw [show redQ s p=plE p from if_pos h4] at he
 have hth:e.three=false:=by
  cases hb:e.three with
  | false=>rfl
  | true=>exact absurd ⟨h4,by rw [← thr_plE h0];exact List.any_eq_true.2 ⟨e,he,hb⟩⟩ ht
 refine ⟨?_,hth⟩
 obtain ⟨k,hk,rfl⟩:=List.getElem_of_mem he
 have hk':k<p.evs.length:=by rw [← plE_length p];exact hk
 rw [show (plE p)[k]=sgW p.evs[k] (sgF p.evs (k+1)) from plN_get hk' (Nat.le_refl _)]
 exact (sgF_val h0 k hk').1
theorem red_tie {s:Int} {p:Pce} (h:redX s p=0) {k:Nat} (hk:k<(redQ s p).length):(s=4→nwT (redC s) k (redQ s p)[k]=false)∧(s=3→(nwS (redC s) (redQ s p)[k].stops).length=0→nwT (redC s) k (redQ s p)[k]=true):=by
 obtain ⟨hs,h0,_,h3⟩:=redX_0 h
 have hE:=evOk_of (redI_valid (s:=s) h0) (k:=k) hk
 have hE:EvOk (redI s p) k (redQ s p)[k]:=hE
 have hq:s=3→redQ s p=p.evs:=fun h=>redQ_first h
 generalize hQ:(redQ s p)[k]=e at hE
 constructor
 ·intro h4
  subst h4
  unfold nwT
  by_cases hl:e.stops.length=0
  ·rw [if_pos hl]
   show (if e.tie=true∧hasS 4 7=false then false else if e.tie=false∧hasS 4 8=false then true else e.tie)=false
   cases e.tie<;>rfl
  ·rw [if_neg hl]
   split
   ·show (decide (0<k) && hasS 4 7)=false
    rw [show hasS 4 7=false from rfl,Bool.and_false]
   ·cases ht:e.tie with
    | false=>rfl
    | true=>rw [(hE.tie ht).1] at hl;exact absurd rfl hl
 ·intro h3' hn
  subst h3'
  have hk0:0<k:=by
   rcases Nat.eq_zero_or_pos k with hk0|hk0
   ·exfalso
    subst hk0
    refine h3 ⟨rfl,?_⟩
    have hp:0<p.evs.length:=by rw [← hq rfl];exact hk
    rw [frsB_0 hp]
    have e2:p.evs[0]=e:=by
     rw [← hQ]
     have:p.evs[0]?=(redQ 3 p)[0]?:=by rw [hq rfl]
     rw [List.getElem?_eq_getElem hp,List.getElem?_eq_getElem hk] at this
     exact Option.some.inj this
    rw [e2]
    exact decide_eq_true hn
   ·exact hk0
  unfold nwT
  by_cases hl:e.stops.length=0
  ·rw [if_pos hl]
   show (if e.tie=true∧hasS 3 7=false then false else if e.tie=false∧hasS 3 8=false then true else e.tie)=true
   cases e.tie<;>rfl
  ·rw [if_neg hl,if_pos hn]
   show (decide (0<k) && hasS 3 7)=true
   rw [decide_eq_true hk0];rfl
theorem okH_zn (s:Int) (N:List Ev) (i:Nat) (y:Stp):okH s (znH s N i y) (longestN N i y.1)=true:=by
 unfold znH
 split
 ·assumption
 ·rfl
theorem red_lackE {s:Int} {p:Pce} (h:redX s p=0) {k:Nat} (hk:k<(redQ s p).length):lackE s (redP s p) k (fnE (znH s (redN s p)) k (nwE (redC s) k (redQ s p)[k]))=[]:=by
 obtain ⟨hs,h0,_,h3⟩:=redX_0 h
 obtain ⟨t4,t3⟩:=red_tie h hk
 have hq4:=fun h4=>redQ_4 h h4 _ (List.getElem_mem hk)
 have hL:∀ c:Int,longestN (redP s p).evs k c=longestN (redN s p) k c:=fun c=>by rw [redP_evs h,longestN_fn]
 unfold lackE
 generalize (redQ s p)[k]=e at t4 t3 hq4
 rw [List.append_eq_nil_iff]
 constructor
 ·unfold lackHead
  show (if e.val=0 then lkIf (hasS s 6) k 0 6 else [])++((if e.three=true then lkIf (hasS s 5) k 0 5 else [])++(if nwT (redC s) k e=true then lkIf (hasS s 7) k 0 7 else if ((nwS (redC s) e.stops).map fun y=>stH y (znH s (redN s p) k y)).length=0 then lkIf (hasS s 8) k 0 8 else []))=[]
  rw [List.length_map]
  rcases sys_cases hs with rfl|rfl|rfl|rfl
  ·simp [lkIf,hasS]
  ·simp [lkIf,hasS]
  ·by_cases hn:(nwS (redC 3) e.stops).length=0
   ·rw [t3 rfl hn];simp [lkIf,hasS]
   ·rw [if_neg hn];simp [lkIf,hasS]
  ·obtain ⟨v,t⟩:=hq4 rfl
   rw [t4 rfl,t,if_neg v];simp [lkIf,hasS]
 ·rw [List.flatMap_eq_nil_iff]
  intro x hx
  obtain ⟨y,hy,rfl⟩:=List.mem_map.1 hx
  obtain ⟨z,hz,hm⟩:=nwS_mem hy
  obtain ⟨hp,rfl⟩:=redC_mv hm
  unfold lackStop
  have hp2:pOk s (stH ((redC s).mr z) (znH s (redN s p) k ((redC s).mr z))).1 (stH ((redC s).mr z) (znH s (redN s p) k ((redC s).mr z))).2.1=true:=hp
  rw [if_neg (by rw [hp2];simp)]
  have a1:okR s (stH ((redC s).mr z) (znH s (redN s p) k ((redC s).mr z))).2.2.1=true:=okR_mr s z.2.2.1
  have a2:okG s (stH ((redC s).mr z) (znH s (redN s p) k ((redC s).mr z))).2.2.2.1=true:=okG_mr s z.2.2.2.1
  have a3:okH s (stH ((redC s).mr z) (znH s (redN s p) k ((redC s).mr z))).2.2.2.2 (longestN (redP s p).evs k (stH ((redC s).mr z) (znH s (redN s p) k ((redC s).mr z))).1)=true:=by
   rw [hL];exact okH_zn s (redN s p) k ((redC s).mr z)
  rw [a1,a2,a3];rfl
theorem red_can {s:Int} {p:Pce} (h:redX s p=0):lksE s (redP s p)=0∧lksR s (redP s p)=[]:=by
 obtain⟨hs,h0,_,_⟩:=redX_0 h
 obtain⟨e1,e2⟩:=lks_ok hs (red_valid h)
 refine⟨e2,?_⟩
 rw [e1]
 have key:∀ n,n≤(redP s p).evs.length→lksTo s (redP s p) n=[]:=by
  intro n
  induction n with
  | zero=>intro _;rfl
  | succ n ih =>
   intro hn
   rw [lksTo_at s _ (by omega),ih (by omega),List.nil_append]
   have hk1:n<(redN s p).length:=by rw [redP_evs h,fnL_len] at hn;omega
   have hk2:n<(redQ s p).length:=by unfold redN at hk1;rw [nwL_len] at hk1;exact hk1
   have e3:(redP s p).evs[n]' zqo=fnE (znH s (redN s p)) n (nwE (redC s) n (redQ s p)[n]):=by
    have e4:(redP s p).evs[n]?=some (fnE (znH s (redN s p)) n (nwE (redC s) n (redQ s p)[n])):=by
     rw [redP_evs h,List.getElem?_eq_getElem (by rw [fnL_len];exact hk1),fnL_get hk1,show (redN s p)[n]=nwE (redC s) n (redQ s p)[n] from nwL_get hk2]
    rw [List.getElem?_eq_getElem (by omega)] at e4
    exact Option.some.inj e4
   rw [e3]
   exact red_lackE h hk2
 exact key _ (Nat.le_refl _)
end
section
open Go.RowKit
theorem red_get {s:Int} {p:Pce} (h:redX s p=0) {k:Nat} (hk:k<(redP s p).evs.length):∃ hk2:k<(redQ s p).length,(redP s p).evs[k]=fnE (znH s (redN s p)) k (nwE (redC s) k (redQ s p)[k]):=by
 have hk1:k<(redN s p).length:=by rw [redP_evs h,fnL_len] at hk;exact hk
 have hk2:k<(redQ s p).length:=by unfold redN at hk1;rw [nwL_len] at hk1;exact hk1
 refine⟨hk2,?_⟩
 have e4:(redP s p).evs[k]?=some (fnE (znH s (redN s p)) k (nwE (redC s) k (redQ s p)[k])):=by
  rw [redP_evs h,List.getElem?_eq_getElem (by rw [fnL_len];exact hk1),fnL_get hk1,show (redN s p)[k]=nwE (redC s) k (redQ s p)[k] from nwL_get hk2]
 rw [List.getElem?_eq_getElem hk] at e4
 exact Option.some.inj e4
theorem plE_id {p:Pce} (h:∀ e∈p.evs,e.val≠0):plE p=p.evs:=by
 apply List.ext_getElem (plE_length p)
 intro k h1 h2
 rw [show (plE p)[k]=sgW p.evs[k] (sgF p.evs (k+1))from plN_get h2 (Nat.le_refl _),sgF_at h2,if_neg (h _ (List.getElem_mem h2))]
 rfl
theorem redQ_stay {s:Int} {p:Pce} (h:redX s p=0):redQ s (redP s p)=(redP s p).evs:=by
 by_cases h4:s=4
 ·rw [show redQ s (redP s p)=plE (redP s p)from if_pos h4]
  refine plE_id fun e he=>?_
  obtain⟨k,hk,rfl⟩:=List.getElem_of_mem he
  obtain⟨hk2,e1⟩:=red_get h hk
  rw [e1]
  exact (redQ_4 h h4 _ (List.getElem_mem hk2)).1
 ·exact if_neg h4
theorem red_stop {s:Int} {p:Pce} (h:redX s p=0) {k:Nat} (hk:k<(redP s p).evs.length) {x:Stp} (hx:x∈(redP s p).evs[k].stops) :
  pOk s x.1 x.2.1=true∧okR s x.2.2.1=true∧okG s x.2.2.2.1=true∧okH s x.2.2.2.2 (longestN (redP s p).evs k x.1)=true:=by
 obtain⟨hk2,e1⟩:=red_get h hk
 rw [e1] at hx
 obtain⟨y,hy,rfl⟩:=List.mem_map.1 hx
 obtain⟨z,hz,hm⟩:=nwS_mem hy
 obtain⟨hp,rfl⟩:=redC_mv hm
 refine⟨hp,okR_mr s z.2.2.1,okG_mr s z.2.2.2.1,?_⟩
 rw [redP_evs h,longestN_fn]
 exact okH_zn s (redN s p) k ((redC s).mr z)
theorem mr_id {s:Int} {x:Stp} (h1:okR s x.2.2.1=true)(h2:okG s x.2.2.2.1=true):(redC s).mr x=x:=by
 show(x.1,x.2.1,if okR s x.2.2.1=true then x.2.2.1 else 0,if okG s x.2.2.2.1=true then x.2.2.2.1 else 0,x.2.2.2.2)=x
 rw [if_pos h1,if_pos h2]
theorem nwS_id {C:Cg}:∀ {l:List Stp},(∀ x∈l,C.mv x=some x)→nwS C l=l
 | [],_=>rfl
 | x::r,h=>by
  have ih:=nwS_id (C:=C) (l:=r) fun y hy=>h y (by simp [hy])
  unfold nwS at ih ⊢
  rw [List.filterMap_cons,h x (by simp),ih]
theorem red_mv {s:Int} {p:Pce} (h:redX s p=0) {k:Nat} (hk:k<(redP s p).evs.length):∀ x∈(redP s p).evs[k].stops,(redC s).mv x=some x:=fun x hx=>by
 obtain⟨a,b,c,_⟩:=red_stop h hk hx
 rw [redC_yes a,mr_id b c]
theorem red_nwT {s:Int} {p:Pce} (h:redX s p=0) {k:Nat} (hk:k<(redP s p).evs.length):nwT (redC s) k (redP s p).evs[k]=(redP s p).evs[k].tie:=by
 obtain ⟨hs,_⟩:=redX_0 h
 obtain ⟨hk2,e1⟩:=red_get h hk
 obtain ⟨t4,t3⟩:=red_tie h hk2
 have hn:=nwS_id (red_mv h hk)
 have ht:(redP s p).evs[k].tie=nwT (redC s) k (redQ s p)[k]:=by rw [e1];rfl
 have hl:(redP s p).evs[k].stops.length=(nwS (redC s) (redQ s p)[k].stops).length:=by
  rw [e1]
  show ((nwS (redC s) (redQ s p)[k].stops).map _).length=_
  rw [List.length_map]
 rw [← ht] at t4 t3
 rw [← hl] at t3
 generalize (redP s p).evs[k]=e at t4 t3 hn
 unfold nwT
 rw [hn]
 by_cases h0:e.stops.length=0
 ·rw [if_pos h0]
  show (if e.tie=true∧hasS s 7=false then false else if e.tie=false∧hasS s 8=false then true else e.tie)=e.tie
  rcases sys_cases hs with rfl|rfl|rfl|rfl
  ·cases e.tie<;>rfl
  ·cases e.tie<;>rfl
  ·rw [t3 rfl h0];rfl
  ·rw [t4 rfl];rfl
 ·rw [if_neg h0,if_neg h0]
theorem redN_stay {s:Int} {p:Pce} (h:redX s p=0):redN s (redP s p)=(redP s p).evs:=by
 unfold redN
 rw [redQ_stay h]
 apply List.ext_getElem (nwL_len _ _)
 intro k h1 h2
 rw [nwL_get h2]
 unfold nwE
 rw [nwS_id (red_mv h h2),red_nwT h h2]
theorem red_hold {s:Int} {p:Pce} (h:redX s p=0) {k:Nat} (hk:k<(redP s p).evs.length) {x:Stp} (hx:x∈(redP s p).evs[k].stops):znH s (redP s p).evs k x=x.2.2.2.2:=by
 obtain⟨_,_,_,o⟩:=red_stop h hk hx
 have hS:=(evOk_of (red_valid h) hk).stops x hx
 have e:ftH (redP s p).evs k x=x.2.2.2.2:=by
  have hh:=hS.hold
  have h0:=hS.h0
  unfold ftH
  by_cases hf:x.2.1=0
  ·rw [if_pos hf]
   rcases Int.lt_or_le 0 x.2.2.2.2 with q|q
   ·exact absurd hf (h0 q)
   ·omega
  ·rw [if_neg hf];omega
 unfold znH
 rw [e,if_pos o]
theorem red_stay {s:Int} {p:Pce} (h:redX s p=0):redX s (redP s p)=0∧redP s (redP s p)=redP s p∧redL s (redP s p)=[]:=by
 obtain ⟨hs,h0,h4,h3⟩:=redX_0 h
 have hv:=red_valid h
 have hX:redX s (redP s p)=0:=by
  unfold redX
  rw [if_neg (fun x=>x hs),if_neg (fun x=>x hv),if_neg,if_neg]
  ·rintro ⟨rfl,hf⟩
   have hp:0<(redP 3 p).evs.length:=by
    cases hq:(redP 3 p).evs with
    | nil=>rw [hq] at hf;cases hf
    | cons e r=>exact Nat.zero_lt_succ _
   rw [frsB_0 hp,nwS_id (red_mv h hp)] at hf
   obtain ⟨hk2,e1⟩:=red_get h hp
   have hf:=of_decide_eq_true hf
   rw [e1] at hf
   have hf:((nwS (redC 3) (redQ 3 p)[0].stops).map fun y=>stH y (znH 3 (redN 3 p) 0 y)).length=0:=hf
   rw [List.length_map] at hf
   refine h3 ⟨rfl,?_⟩
   have hq:redQ 3 p=p.evs:=redQ_first rfl
   have hk3:0<p.evs.length:=by rw [← hq];exact hk2
   rw [frsB_0 hk3]
   have e2:p.evs[0]=(redQ 3 p)[0]:=by
    have:p.evs[0]?=(redQ 3 p)[0]?:=by rw [hq]
    rw [List.getElem?_eq_getElem hk3,List.getElem?_eq_getElem hk2] at this
    exact Option.some.inj this
   rw [e2]
   exact decide_eq_true hf
  ·rintro ⟨rfl,ht⟩
   obtain ⟨e,he,hb⟩:=List.any_eq_true.1 ht
   obtain ⟨k,hk,rfl⟩:=List.getElem_of_mem he
   obtain ⟨hk2,e1⟩:=red_get h hk
   rw [e1] at hb
   have:=(redQ_4 h rfl _ (List.getElem_mem hk2)).2
   have hb:(redQ 4 p)[k].three=true:=hb
   rw [this] at hb;cases hb
 refine ⟨hX,?_,?_⟩
 ·rw [show redP s (redP s p)=_ from if_pos hX,redN_stay h]
  have e:fnL (znH s (redP s p).evs) (redP s p).evs=(redP s p).evs:=by
   apply List.ext_getElem (fnL_len _ _)
   intro k h1 h2
   rw [fnL_get h2]
   unfold fnE
   have:(redP s p).evs[k].stops.map (fun y=>stH y (znH s (redP s p).evs k y))=(redP s p).evs[k].stops:=by
    refine (List.map_congr_left fun x hx=>?_).trans (List.map_id _)
    rw [red_hold h h2 hx];rfl
   rw [this]
  rw [e]
 ·rw [show redL s (redP s p)=_ from if_pos hX,redN_stay h,redQ_stay h]
  have key:∀ n,n≤(redP s p).evs.length→lsL (redC s) (znH s (redP s p).evs) (redP s p).evs n=[]:=by
   intro n
   induction n with
   | zero=>intro _;rfl
   | succ n ih =>
    intro hn
    have hk:n<(redP s p).evs.length:=by omega
    rw [lsL_at hk,ih (by omega),List.nil_append]
    unfold lsE
    rw [List.append_eq_nil_iff]
    constructor
    ·unfold lsH
     have ht:=red_nwT h hk
     unfold nwT at ht
     have:evT (redC s) n (redP s p).evs[n]=0:=by
      unfold evT
      by_cases hl:(redP s p).evs[n].stops.length=0
      ·rw [if_pos hl] at ht ⊢
       rw [ht]
       cases (redP s p).evs[n].tie<;>rfl
      ·rw [if_neg hl]
     rw [if_pos this]
    ·rw [List.flatMap_eq_nil_iff]
     intro x hx
     obtain ⟨a,b,c,_⟩:=red_stop h hk hx
     have hm:=red_mv h hk x hx
     unfold lsS
     rw [hm]
     show ((if okR s x.2.2.1=true then [] else [2])++(if okG s x.2.2.2.1=true then [] else [3]):List Int).map (fun w=>((n:Int),x.1,w))++(if znH s (redP s p).evs n x=x.2.2.2.2 then [] else [((n:Int),x.1,4)])=[]
     rw [if_pos b,if_pos c,if_pos (red_hold h hk hx)];rfl
  exact key _ (Nat.le_refl _)
end
section
open Go.RowKit Go.Shelf
attribute [local go_sem]Oper.semAt_some
def frc:Int→List Ev→Int
 | t,[]=>t
 | t,e::r=>frc (if 0<tkV e.val e.dot e.three then tkV e.val e.dot e.three else t) r
theorem frc_snoc (e:Ev):∀ (t:Int)(l:List Ev),frc t (l++[e])=if 0<tkV e.val e.dot e.three then tkV e.val e.dot e.three else frc t l
 | t,[]=>rfl
 | t,x::l=>frc_snoc e _ l
theorem frc_take {evs:List Ev} {k:Nat} (h:k<evs.length)(t:Int):frc t (evs.take (k+1))=if 0<tkV evs[k].val evs[k].dot evs[k].three then tkV evs[k].val evs[k].dot evs[k].three else frc t (evs.take k):=by
 rw [List.take_succ_eq_append_getElem h,frc_snoc]
theorem grown_of_below {a b:World} (h:Below a.heap.size a b)(row:Option Nat):a.grownBy b row:=⟨h.os,h.tape,h.output,h.size,fun k hk _=>h.block k hk⟩
theorem timed1_in (n:Nat) (hn:1≤n) (l Bp n₀ len c:Nat) (A:Option Addr) (evs:List Ev) (hlen:evs.length=len) (hO:len≤420) (B0:Nat) (J:Nat→World→Prop) (hJ:AbidesFrom B0 J)
  (hY:∀ k W,J k W→k < len→YieldAt Fence.wide (n - 1) Tryz.prog l #[.int .i64 (k:Int),.int .i64 (frc 0 (evs.take (k+1)))] W fun e W'=>e=.returned (.bool true)∧J (k+1) W'∧Below n₀ W W')
  (W:World) (hn₀:n₀≤W.heap.size) (hc:W.cell? ⟨Bp,2,none⟩=some (.slice A len c)) (hE:EvsAt W n₀ A evs) (h0:J 0 W) :
  CallsIn Fence.wide n Tryz.prog 120 #[.func (.yield l) #[] #[],.pointer (some ⟨Bp,0,none⟩)] W fun e W'=>(∃ v,e=.returned v)∧J len W':=by
 have HE:=Lib.hid hE
 have HJ:=Lib.hid hJ
 have HL:=Lib.hid hlen
 clear hE hlen
 refine callsIn_of_wp Tryz.func120 rfl trivial ?_ rfl
 simp only [Tryz.ntmps120,List.size_toArray,List.length_cons,List.length_nil,Nat.reduceAdd,Nat.reduceSub,Array.replicate_succ,Array.replicate_zero,List.push_toArray,List.append_toArray,List.nil_append,List.cons_append]
 gi_wp2
 gi_loopw [3,10] (fun t i wr=>∃ k:Nat,k≤len∧i=.int .i64 k∧t=.int .i64 (frc 0 (evs.take k))∧J k wr∧Below n₀ W wr)
  (fun _ i _=>len - (intOf i).toNat)
 case atStart=>exact ⟨0,Nat.zero_le _,rfl,rfl,h0,Below.refl _ _⟩
 case round =>
  obtain ⟨k,hk,rfl,rfl,hJs,hnx⟩:=hrel
  have HX:=Lib.hid hnx
  by_cases hlt:k < len
  ·have hk2:k < evs.length:=by have:=HL.out;omega
   obtain ⟨ad,S,c',hA,hb,e0,e1,e2,e3,e4,e5,hS⟩:=(HE.out.below hnx).ev hk2
   subst hA
   have hfr:=frc_take hk2 0
   have KT:=Lib.hid (fun w=>ticks_any evs[k].val evs[k].dot evs[k].three w)
   obtain ⟨T,hT⟩:∃ T,tkV evs[k].val evs[k].dot evs[k].three=T:=⟨_,rfl⟩
   rw [hT] at hfr KT
   obtain ⟨e,he⟩:∃ e,evs[k]=e:=⟨_,rfl⟩
   rw [he] at e0 e1 e2 e3 e4 e5 KT
   obtain ⟨m,hm⟩:∃ m,e.stops.length=m:=⟨_,rfl⟩
   rw [hm] at e5
   clear hS hT
   have HFR:=Lib.hid hfr
   have HY:=hY k
   by_cases hT0:0 < T
   ·rw [if_pos hT0] at HFR
    gi_wp2_with (refine ⟨trivial,?_⟩;gi_at_call 121;refine (callsIn_wide.2 (KT.out _)).mono ?_;rintro e' w1 ⟨rfl,hb1⟩;have hbb:Below wr.heap.size wr w1:=((Below.refl _ wr).alloc (Nat.le_refl _) _).trans (hb1.mono (by simp));have HBB:=Lib.hid hbb;obtain ⟨fn,tmps,assign,body,hy,hR⟩:=HY w1 (HJ.out _ wr w1 none hJs (grown_of_below hbb _) (fun r h=>by cases h)) hlt;clear hbb;rw [HFR.out] at hy)
    refine hR.mono ?_
    rintro e W3 ⟨rfl,hJ3,hk3⟩
    gi_wp2
    go_roundw
    case rel=>exact ⟨k+1,by omega,by go_num,by rw [HFR.out],hJ3,(HX.out.trans (HBB.out.mono (by have:=HX.out.size;omega))).trans hk3⟩
    case measure=>simp [intOf];omega
   ·rw [if_neg hT0] at HFR
    obtain ⟨T0,hT0'⟩:∃ T0,frc 0 (evs.take k)=T0:=⟨_,rfl⟩
    rw [hT0'] at HFR
    rw [hT0']
    gi_wp2_with (refine ⟨trivial,?_⟩;gi_at_call 121;refine (callsIn_wide.2 (KT.out _)).mono ?_;rintro e' w1 ⟨rfl,hb1⟩;have hbb:Below wr.heap.size wr w1:=((Below.refl _ wr).alloc (Nat.le_refl _) _).trans (hb1.mono (by simp));have HBB:=Lib.hid hbb;obtain ⟨fn,tmps,assign,body,hy,hR⟩:=HY w1 (HJ.out _ wr w1 none hJs (grown_of_below hbb _) (fun r h=>by cases h)) hlt;clear hbb;rw [HFR.out] at hy)
    refine hR.mono ?_
    rintro e W3 ⟨rfl,hJ3,hk3⟩
    gi_wp2
    go_roundw
    case rel=>exact ⟨k+1,by omega,by go_num,by rw [HFR.out],hJ3,(HX.out.trans (HBB.out.mono (by have:=HX.out.size;omega))).trans hk3⟩
    case measure=>simp [intOf];omega
  ·obtain rfl:k=len:=by omega
   gi_wp2
   go_end0
   exact ⟨⟨_,rfl⟩,hJs⟩
theorem timed_any (M:PM) (p:Pce) (w:World):Calls Tryz.prog 78 #[pcValue M p] w fun e w'=>e=.returned (.func (.func 120) #[] #[.pointer (some ⟨w.heap.size,0,none⟩)]) ∧
  w'=w.alloc (.cells #[.slice M.A1 p.cs.length M.c1,.slice M.A2 p.st.length M.c2,.slice M.A3 p.evs.length M.c3] 29):=by
 unfold pcValue
 go_enter Tryz.func78,Tryz.ntmps78
 go_wp2
 go_ret
 exact ⟨rfl,rfl⟩
def rngPost (n₀:Nat)(I:Nat→World→Prop)(k:Nat)(W:World):Exit→Act→World→Prop
 | .normal,_,W'=>KeepsOthers W W'∧Below n₀ W W'∧I (k+1) W'
 | _,_,_=>False
theorem wp_range {P:Program} {n:Nat} {g:Operand} {ps:Array Tmp} {assign body:Code} {Q:Exit→Act→World→Prop} {a:Act} {w:World} {gf:Nat} {lb:Array Value}
  (hg:a.eval g=.func (.func gf) #[] lb) (eg:∀ args w,(callFunc gf args).run P w=.ok (.enter gf args) w) {encs:Nat→Array Value} {len n₀:Nat} (hn₀:n₀≤w.heap.size)
  (hit:∀ (l:Nat) (J:Nat→World→Prop) (W:World),Below w.heap.size w W→AbidesFrom W.heap.size J →
   (∀ k W1,J k W1→k < len→YieldAt Fence.wide (n - 1 - 1) P l (encs k) W1 fun e W'=>e=.returned (.bool true)∧J (k+1) W'∧Below n₀ W1 W')→J 0 W →
   CallsIn Fence.wide (n - 1) P gf (#[.func (.yield l) #[] #[]]++lb) W fun e W'=>(∃ v,e=.returned v)∧J len W')
  (hps:∀ k,(encs k).size=ps.size) (I:Nat→World→Prop) (hI:OwnFrom w.heap.size I) (h0:I 0 w) (a₁:Nat→Act)
  (hassign:∀ (l k:Nat) (W:World) (K:Act→World→Prop),K (a₁ k) W →
   assign.wpIn (Fence.wide.inRound l) (n - 1 - 1) P (Exit.then K (fun _ _ _=>False)) { tmps:=(ps.zip (encs k)).foldl (fun t (p,v)=>t.setIfInBounds p v) a.tmps,defers:=[] } W)
  (hbody:∀ (l k:Nat) (W:World),I k W→k < len→body.wpIn (Fence.wide.inRound l) (n - 1 - 1) P (rngPost n₀ I k W) (a₁ k) W)
  (hdone:∀ (D:Nat) (W:World),w.heap.size≤D→I len W→W.heap[D]?=some (.deferred (some []))→Q .normal { a with defers:={ target:=.collected D,args:=#[] }::a.defers } W) :
  (Code.rangeFunc g ps assign body).wpIn Fence.wide n P Q a w:=by
 refine wpIn_rangeFunc fun fn hfn=>?_
 obtain ⟨rec,hrec⟩:∃ rec:LoopState→Option Code→Loop,rec=fun st pe=>{ state:=st,pending:=pe,fn,tmps:=a.tmps,params:=ps,assign,body,defers:=w.heap.size }:=⟨_,rfl⟩
 obtain ⟨W1,hW1⟩:∃ W1,(w.alloc (.deferred (some []))).alloc (.loop (rec .ready none))=W1:=⟨_,rfl⟩
 have hL:W1.heap[w.heap.size+1]?=some (.loop (rec .ready none)):=by
  have:=World.alloc_heap_new (w.alloc (.deferred (some []))) (.loop (rec .ready none))
  rwa [World.size_alloc,hW1] at this
 have hD:W1.heap[w.heap.size]?=some (.deferred (some [])):=by
  rw [← hW1];exact (Below.heap_alloc _ _ _ (by simp)).trans (World.alloc_heap_new w _)
 have hB1:Below w.heap.size w W1:=by rw [← hW1];exact ((Below.refl _ w).alloc (Nat.le_refl _) _).alloc (by simp) _
 have hS1:w.heap.size≤W1.heap.size:=hB1.size
 refine ⟨w.heap.size+1,[{ target:=.collected w.heap.size,args:=#[] }],W1,{ target:=.fn (.func gf) lb,args:=#[.func (.yield (w.heap.size+1)) #[] #[]] },W1,gf,
  #[.func (.yield (w.heap.size+1)) #[] #[]]++lb,W1,?_,?_,fun _ _=>trivial,?_,fun h=>?_,?_⟩
 ·rw [← hW1,hrec];exact run_enterLoop_outer _ _ _ _ _
 ·simp only [resolve,hg]
  simp [go_sem]
 ·simp [invoke,go_sem,eg]
 ·simp [Fence.wide] at h
 ·have turn:∀ {A B:World} {row:Option Nat} {k:Nat} {o:Obj},A.grownBy B row→(∀ r,row=some r→W1.heap.size≤r∧∃ o:Obj,A.heap[r]?=some o∧o.isWalk=true)→A.heap[k]?=some o→o.isWalk=false→B.heap[k]?=some o :=
   fun hg' hr hk ho=>(grownBy_keeps hg' (fun r e=>(hr r e).2) hk ho).trans hk
  refine (hit (w.heap.size+1) (fun k W=>I k W∧W.heap[w.heap.size+1]?=some (.loop (rec .ready none))∧W.heap[w.heap.size]?=some (.deferred (some []))) W1 hB1
   (fun s A B row hs hg' hr=>⟨hI s A B row hs.1 hg' fun r e=>⟨Nat.le_trans hS1 (hr r e).1,(hr r e).2.imp fun o h=>⟨h.1,Obj.not_cells_of_walk h.2⟩⟩,turn hg' hr hs.2.1 rfl,turn hg' hr hs.2.2 rfl⟩)
   ?_ ⟨by rw [← hW1];exact hI.alloc _ (hI.alloc _ h0),hL,hD⟩).mono ?_
  ·rintro k W ⟨hi,hl,hd⟩ hk
   have hlt:w.heap.size+1 < W.heap.size:=(Array.getElem?_eq_some_iff.1 hl).1
   have hy:=run_yield (P:=P) (args:=encs k) hl (by rw [hrec];exact hps k)
   rw [hrec] at hy
   refine ⟨fn,_,assign,body,hy,roundIn_of_wpIn hfn (hassign _ k W _ ⟨_,run_beginRound hl (by rw [hrec]),?_⟩)⟩
   obtain ⟨W2,hW2⟩:∃ W2,W.putObj (w.heap.size+1) (.loop { rec .ready none with state:=.busy })=W2:=⟨_,rfl⟩
   have hl2:W2.heap[w.heap.size+1]?=some (.loop { rec .ready none with state:=.busy }):=by rw [← hW2];exact World.putObj_heap_same hlt
   have hd2:W2.heap[w.heap.size]?=some (.deferred (some [])):=by rw [← hW2];exact (World.putObj_heap_other (by omega)).trans hd
   have hb2:Below n₀ W W2:=by rw [← hW2];exact belowK_b hn₀ W _ _ _ (by omega) hl rfl rfl
   have hi2:I k W2:=by rw [← hW2];exact hI.putObj _ hi (by omega) hl rfl
   rw [hW2]
   refine wpIn_mono (hbody _ k W2 hi2 hk) ?_
   rintro e a3 W3 hp
   cases e with
   | normal =>
    obtain ⟨hk3,hb3,hi3⟩:=hp
    have hl3:=hk3.same _ _ hl2 rfl
    have hr:=run_endRound (P:=P) none hl3
    rw [hrec] at hr
    refine ⟨_,_,hr,rfl,⟨hI.putObj _ hi3 zqo hl3 rfl,?_,(World.putObj_heap_other zqo).trans (hk3.same _ _ hd2 rfl)⟩,(hb2.trans hb3).trans (belowK_b hn₀ W3 _ _ _ zqo hl3 rfl rfl)⟩
    rw [hrec]
    exact World.putObj_heap_same (Array.getElem?_eq_some_iff.1 hl3).1
   | ret=>exact hp.elim
   | exit id=>exact hp.elim
   | goto t=>exact hp.elim
   | panic ch=>exact hp.elim
   | outgrown=>exact hp.elim
  ·rintro e W2 ⟨⟨v,rfl⟩,hi,hl,hd⟩
   have hr:=run_endLoop (P:=P) hl (by rw [hrec];simp)
   rw [hrec] at hr
   exact ⟨none,_,hr,hdone _ _ (Nat.le_refl _) (hI.putObj _ hi zqo hl rfl) ((World.putObj_heap_other zqo).trans hd)⟩
end
section
open Go.RowKit Go.Shelf
attribute [local go_sem]Oper.semAt_some
attribute [-go_sem]Builtin.append_
theorem tkAll2:((List.range' 1 7).all fun v=>[(false,false),(true,false),(false,true)].all fun p=>decide (tkV (v:Nat) p.1 p.2≤1000))=true:=by decide +kernel
theorem tkV_le (v:Int) (d t:Bool):0≤tkV v d t∧tkV v d t≤1000:=by
 by_cases hb:v<1∨7<v∨(d && t)=true
 ·have:tkV v d t=0:=if_pos hb
  omega
 ·have hv:1≤v∧v≤7:=by omega
  have hdt:(d && t)=false:=by cases h:(d && t) with|false=>rfl|true=>exact absurd (.inr (.inr h)) hb
  have h0:=tkV_pos v d t hv hdt
  obtain ⟨n,rfl⟩:∃ n:Nat,v=n:=⟨v.toNat,by omega⟩
  have h1:=List.all_eq_true.1 tkAll2 n (by rw [List.mem_range'_1];omega)
  have h2:=List.all_eq_true.1 h1 (d,t) (by cases d<;>cases t<;>simp_all)
  have h3:=of_decide_eq_true h2
  exact ⟨by omega,h3⟩
theorem frc_le:∀ (t:Int)(l:List Ev),0≤t∧t≤1000→0≤frc t l∧frc t l≤1000
 | t,[],h=>h
 | t,e::r,h=>by
  unfold frc
  exact frc_le _ r (by split<;>first|exact tkV_le _ _ _|exact h)
def onsAt (evs:List Ev):Nat→Int
 | 0=>0
 | k+1=>onsAt evs k+frc 0 (evs.take (k+1))
theorem onsAt_le (evs:List Ev):∀ k,0≤onsAt evs k∧onsAt evs k≤1000*k
 | 0=>⟨Int.le_refl 0,Int.le_refl 0⟩
 | k+1=>by have h:=onsAt_le evs k;have h2:=frc_le 0 (evs.take (k+1)) (by decide);unfold onsAt;omega
def onsL (evs:List Ev)(k:Nat):List Int:=(List.range (k+1)).map (onsAt evs)
theorem onsL_succ (evs:List Ev)(k:Nat):onsL evs (k+1)=onsL evs k++[onsAt evs (k+1)]:=by simp [onsL,List.range_succ]
theorem onsL_length(evs:List Ev)(k:Nat):(onsL evs k).length=k+1:=by simp [onsL]
theorem Tryz.infoInt:(Tryz.prog.info? 3).map (fun i=>(i.zero,i.size,i.bytes))=some (some (.int .i64 0),1,8):=by kernel_rfl
theorem pOnsets_ok (M:PM) (p:Pce) (w:World) (hP:PcAt w w.heap.size M p) (hO:PcOk p) (h0:pceE p=0):Calls Tryz.prog 30 #[pcValue M p] w fun e w' =>
  ∃ v,e=.returned (.tuple #[v,.int .i64 0])∧w'.ownsRow w.heap.size 3 1 v (p.evs.length+1) ((onsL p.evs p.evs.length).map fun x=>.int .i64 x)∧Below w.heap.size w w':=by
 have hC:=fun (w':World) (hb:Below w.heap.size w w')=>pCheck_any M p w' (hP.after hb) hO
 rw [h0] at hC
 have hn3:=hO.n3
 have hT:=fun w'=>timed_any M p w'
 obtain ⟨A1,A2,A3,c1,c2,c3⟩:=M
 obtain ⟨n1,hn1⟩:∃ n,p.cs.length=n:=⟨_,rfl⟩
 obtain ⟨n2,hn2⟩:∃ n,p.st.length=n:=⟨_,rfl⟩
 obtain ⟨n3,hnn⟩:∃ n,p.evs.length=n:=⟨_,rfl⟩
 unfold pcValue at *
 simp only at *
 rw [hn1,hn2,hnn] at hC hT
 rw [hnn] at hn3
 rw [hn1,hn2,hnn]
 have HC:=Lib.hid hC
 have HT:=Lib.hid hT
 have HP:=Lib.hid hP
 have HN:=Lib.hid hnn
 obtain ⟨i0,hi,hz0,hz1,hz2⟩:=info_parts Tryz.infoInt
 clear hC hT hP hnn hn1 hn2 hO h0
 refine (callsIn_wide (n:=4)).1 ?_
 refine callsIn_of_wp_marks Tryz.func30 rfl trivial ?_ rfl
 simp only [Tryz.ntmps30,List.size_toArray,List.length_cons,List.length_nil,Nat.reduceAdd,Nat.reduceSub,Array.replicate_succ,Array.replicate_zero,List.push_toArray,List.append_toArray,List.nil_append,List.cons_append]
 gi_wp2_with (first
  | (refine ⟨trivial,?_⟩;gi_at_call 45;refine (callsIn_wide.2 (HC.out _ zqb)).mono ?_;rintro e' w1 ⟨rfl,hb1⟩;have k1:=(Blk.new _ _ _).after hb1;have x0:w1.cell? ⟨w.heap.size,0,none⟩=some (.slice A1 n1 c1):=k1.cell 0;have x1:w1.cell? ⟨w.heap.size,1,none⟩=some (.slice A2 n2 c2):=k1.cell 1;have x2:w1.cell? ⟨w.heap.size,2,none⟩=some (.slice A3 n3 c3):=k1.cell 2;have l1:w.heap.size < w1.heap.size:=k1.lt;have K1:=Lib.hid k1;clear k1)
  | (refine ⟨trivial,?_⟩;gi_at_call 78;refine (callsIn_wide.2 (HT.out _)).mono ?_;rintro e' w2 ⟨rfl,rfl⟩))
 have hB0:Below w.heap.size w w1:=((Below.refl _ w).alloc (Nat.le_refl _) _).trans (hb1.mono (by simp))
 have hB3:Below w.heap.size w (((w1.alloc (Obj.cells #[Value.int IntKind.i64 0] 3)).alloc (Obj.cells #[Value.slice (some { block:=w1.heap.size,off:=0 }) 1 1] 24)).alloc (Obj.cells #[Value.slice A1 n1 c1,Value.slice A2 n2 c2,Value.slice A3 n3 c3] 29)):=((hB0.alloc (by omega) _).alloc (by simp;omega) _).alloc (by simp;omega) _
 have kb:Blk (((w1.alloc (Obj.cells #[Value.int IntKind.i64 0] 3)).alloc (Obj.cells #[Value.slice (some { block:=w1.heap.size,off:=0 }) 1 1] 24)).alloc (Obj.cells #[Value.slice A1 n1 c1,Value.slice A2 n2 c2,Value.slice A3 n3 c3] 29)) (w1.heap.size+1+1) 29 #[Value.slice A1 n1 c1,Value.slice A2 n2 c2,Value.slice A3 n3 c3]:=by
  have:=Blk.new ((w1.alloc (Obj.cells #[Value.int IntKind.i64 0] 3)).alloc (Obj.cells #[Value.slice (some { block:=w1.heap.size,off:=0 }) 1 1] 24)) 29 #[Value.slice A1 n1 c1,Value.slice A2 n2 c2,Value.slice A3 n3 c3]
  rwa [World.size_alloc,World.size_alloc] at this
 refine wp_range (n:=4) (gf:=120) (lb:=#[Value.pointer (some ⟨w1.heap.size+1+1,0,none⟩)]) rfl (enters_of Tryz.func120 zqk rfl)
  (encs:=fun k=>#[.int .i64 (k:Int),.int .i64 (frc 0 (p.evs.take (k+1)))]) (len:=n3) (n₀:=w.heap.size) (by simp;omega)
  (fun l J W hW hJ hY h0=>timed1_in 3 (by omega) l (w1.heap.size+1+1) w.heap.size n3 c3 A3 p.evs HN.out hn3 _ J hJ hY W (by have:=hW.size;simp at this;omega)
   ((hW.cell (p:=⟨w1.heap.size+1+1,2,none⟩) (by simp)).trans (kb.cell 2))
   (HP.out.2.1.below (hB3.trans (hW.mono hB3.size))) h0)
  (fun _=>rfl)
  (fun k W=>(∃ v,Boxed W (w1.heap.size+1) 24 v∧W.ownsRow w.heap.size 3 1 v (k+1) ((onsL p.evs k).map fun x=>.int .i64 x)∧True)∧Below w.heap.size w W)
  (OwnFrom.and (Own.from (holdsRow_own w.heap.size (w1.heap.size+1) 24 3 1 (fun k=>k+1) (fun k=>(onsL p.evs k).map fun x=>Value.int .i64 x) (fun _ _=>True)) _) (ownFrom_below (Nat.le_refl _) (by simp;omega)))
  ⟨⟨.slice (some ⟨w1.heap.size,0,none⟩) 1 1,?_,?_,trivial⟩,hB3⟩
  (fun k=>{ tmps:=#[Value.agg #[Value.slice A1 n1 c1,Value.slice A2 n2 c2,Value.slice A3 n3 c3],
     Value.pointer (some { block:=w.heap.size,off:=0 }),Value.slice none 0 0,Value.int IntKind.i64 0,
     Value.int IntKind.i64 0,Value.pointer (some { block:=w1.heap.size+1,off:=0 }),.int .i64 (k:Int),.int .i64 (frc 0 (p.evs.take (k+1))),
     Value.agg #[Value.slice A1 n1 c1,Value.slice A2 n2 c2,Value.slice A3 n3 c3],Value.int IntKind.i64 0,
     Value.int IntKind.i64 0,Value.bool false,undef,Value.slice (some { block:=w1.heap.size,off:=0 }) 1 1,
     Value.agg #[Value.slice A1 n1 c1,Value.slice A2 n2 c2,Value.slice A3 n3 c3],
     Value.func (Fn.func 120) #[] #[Value.pointer (some { block:=w1.heap.size+1+1,off:=0 })],.int .i64 (k:Int),
     .int .i64 (frc 0 (p.evs.take (k+1))),undef,undef,undef,undef,undef,undef,undef,undef,undef,undef],defers:=[] }) ?assign ?body ?done
 ·have:=Boxed.new (w1.alloc (Obj.cells #[Value.int IntKind.i64 0] 3)) 24 (.slice (some ⟨w1.heap.size,0,none⟩) 1 1)
  rw [World.size_alloc] at this
  exact this.alloc _
 ·refine ((World.ownsRow.alloc ?_ _).alloc _)
  exact ⟨by simp [onsL],.inr ⟨w1.heap.size,1,#[.int .i64 0],rfl,by omega,World.alloc_heap_new _ _,Nat.le_refl _,by decide,rfl,by simp [onsL,onsAt]⟩⟩
 case assign =>
  intro l k W K hK
  gi_wp2
  exact hK
 case body =>
  rintro l k W ⟨⟨v,hv,hrow,_⟩,hB⟩ hlt
  obtain ⟨g,cap,rfl⟩:=ownsRow_succ hrow
  have hc:=hv.cell
  obtain ⟨T,hT⟩:∃ T,frc 0 (p.evs.take (k+1))=T:=⟨_,rfl⟩
  have hx:W.cell? ⟨g,k,none⟩=some (.int .i64 (onsAt p.evs k)):=by
   rw [hrow.cellAt k (by omega)]
   simp [onsL]
  have hbd:=onsAt_le p.evs k
  have hTb:=frc_le 0 (p.evs.take (k+1)) ⟨by decide,by decide⟩
  rw [hT] at hTb
  rw [hT]
  gi_wp2
  have hwr:IntKind.i64.wrap (onsAt p.evs k+T)=onsAt p.evs k+T:=Go.IntWalk.i64_in _ ⟨by omega,by omega⟩
  have hk1:((k:Int) < (k:Int)+1):=by omega
  have hfo:Tryz.prog.follows .mixedOrders=true:=by kernel_rfl
  obtain ⟨v',w4,hrun,r1,r2,r3⟩:=run_append_own (P:=Tryz.prog) ((W.alloc (Obj.cells #[.int .i64 (onsAt p.evs k+T)] 3)).drew) w.heap.size 24 24 3 i0 (.int .i64 0) 1 8 Tryz.underlying24 hi hz0 hz1 hz2 rfl (by decide) _ (k+1) _ (show (W.alloc _).ownsRow _ _ _ _ _ _ from hrow.alloc _) ⟨W.heap.size,0,none⟩ 1 1 [.int .i64 (onsAt p.evs k+T)] rfl (cell_one_new W _ _) (by simp [Value.oneCell']) (by unfold maxLen;omega) (by omega) (by have:=hB.size;simp;omega)
  obtain ⟨g',cap',rfl⟩:=ownsRow_succ r1
  obtain ⟨hv1,hv2,hr2,hk2,hb2⟩:=hv.appended (tmp:=Obj.cells #[.int .i64 (onsAt p.evs k+T)] 3) (by decide) hrow hB.size zqo r1 ⟨r2.os,r2.tape,r2.output,r2.size,r2.block⟩
  have hc1:=hv1.cell
  have hlW:=hv.lt
  have hf1:=hv1.frozen
  gi_region_with_o (fail)
  all_goals exact ⟨hk2,hb2,⟨_,hv2,by rw [onsL_succ];simpa [onsAt,hT] using hr2,trivial⟩,hB.trans hb2⟩
 case done =>
  rintro D W hD ⟨⟨v,hv,hrow,_⟩,hB⟩ hK
  have hc:=hv.cell
  gi_wp2
  refine ⟨by simp,.inl ⟨_,_,rfl,run_takeDeferred hK,?_⟩⟩
  refine ⟨_,results_tmp2 rfl _ _ _,v,rfl,?_,hB.trans (belowK_b (w:=w) (Nat.le_refl _) W D _ _ (by simp at hD;omega) hK rfl rfl)⟩
  exact ownsRow_putObj hrow _ hK rfl
end
section
open Go.RowKit
theorem rCopyO_FS (p:Pce) (hO:PcOk p):Cto truB 0 Tryz.prog 15 [ePce p] [] 0 (.ag [.ls 3 (p.cs.map eCrs),.ls 1 (p.st.map eInt),.sl 0])
  [(0,.row 45 6 (p.evs.map eEv)),(1,.box 29 [.ls 3 (p.cs.map eCrs),.ls 1 (p.st.map eInt),.sl 0])] 2:=by
 have hn3:=hO.n3
 refine Cto.intro truS Tryz.func15 rfl Tryz.ntmps15 (Nat.le_of_ble_eq_true rfl) rfl fun w0 F0 fp pg hB=>?_
 dsimp only [number,Nat.reduceAdd]
 repeat refine W.go rfl ?_
 refine (?_:WL _ _ _ _ _ _)
 refine WL.vl rfl (WV.call rfl (callF Tryz.func35 rfl rfl) rfl rfl (insCopy_FS p.cs p.st hO.n1 hO.n2)) ?_
 repeat (first|refine W.go rfl ?_|refine WL.ev rfl ?_)
 refine (?_:W _ _ _ _ _)
 refine W.tr (Tr.nilBox (k:=2) (j:=2) 45 6 rfl rfl rfl rfl) ?_
 refine W.loop (fun k:Nat=>k≤p.evs.length) (fun k=>⟨[(1,.pt 0 0 0),(2,.pt 1 0 0),(3,.pt 2 0 0),(4,.sc (.int .i64 k))],[(0,.box 29 [.ls 3 (p.cs.map eCrs),.ls 1 (p.st.map eInt),.ls 6 (p.evs.map eEv)]),(1,.box 29 [.sc (.slice none 0 0),.sc (.slice none 0 0),.sc (.slice none 0 0)]),(2,.box 29 [.ls 3 (p.cs.map eCrs),.ls 1 (p.st.map eInt),.sl 3]),(3,.row 45 6 ((p.evs.take k).map eEv))],4⟩) (fun k=>p.evs.length - k) 0 zqo (zqt id) fun k hk=>?_
 by_cases hk2:k < p.evs.length
 ·have h20:=hO.n4 k hk2
  repeat (first|refine W.gob rfl ?_|refine WL.nil ?_|refine WL.bt rfl rfl rfl zqo ?_|refine WL.e1 rfl ?_|refine WL.len rfl rfl zql ?_|refine WL.idx rfl rfl zqo zqm ?_|refine WL.app rfl rfl rfl zqs ?_|refine W.condT rfl ?_)
  refine (?_:WL _ _ _ _ _ _)
  refine WL.tr (Tr.freeze 6 rfl) ?_
  repeat (first|refine W.go rfl ?_|refine WL.ev rfl ?_|refine WL.ar rfl rfl (by unfold I64;omega) ?_|refine WL.app rfl rfl rfl zqs ?_)
  exact ⟨k+1,by omega,by omega,(zqu (fun q=>bif Nat.beq q 3 then 8 else q) (by repeat (first|exact trivial|refine ⟨⟨?_,?_,?_⟩,?_⟩|rfl|exact congrArg (fun q=>some (AO.row _ _ q)) (take_map_succ hk2))) rfl)⟩
 ·obtain rfl:k=p.evs.length:=by omega
  rw [List.take_length]
  repeat (first|refine W.gob rfl ?_|refine WL.nil ?_|refine WL.bf rfl rfl rfl zqo ?_|refine WL.e1 rfl ?_|refine WL.len rfl rfl zql ?_|refine W.condF rfl ?_)
  refine (?_:W _ _ _ _ _)
  refine W.tr (σ':=⟨[(2,.pt 1 0 0)],[(0,.row 45 6 (p.evs.map eEv)),(1,.box 29 [.ls 3 (p.cs.map eCrs),.ls 1 (p.st.map eInt),.sl 0])],2⟩) (zqu (fun q=>bif Nat.beq q 0 then 3 else q) (by repeat (first|exact trivial|refine ⟨⟨?_,?_,?_⟩,?_⟩|rfl|exact congrArg (fun q=>some (AO.row _ _ q)) (by first|rfl|(simp;done)|(simp [eInt];done)|(simp [eLk];done)))) rfl) ?_
  exact W.ret (finM rfl rfl rfl rfl rfl)
theorem plK_len {evs:List Ev} {k:Nat} (h:k≤evs.length):(plN evs k++evs.drop k).length=evs.length:=by rw [List.length_append,plN_length h,List.length_drop];omega
theorem plK_at {evs:List Ev} {k:Nat} (h:k<evs.length):((plN evs k++evs.drop k).map eEv)[k]?=some (eEv evs[k]):=by
 have e:(plN evs k++evs.drop k)[k]?=some evs[k]:=by
  rw [List.getElem?_append_right (by rw [plN_length (by omega)];exact Nat.le_refl _),plN_length (by omega),Nat.sub_self,List.getElem?_drop]
  simp [h]
 rw [List.getElem?_map,e];rfl
theorem plK_set {evs:List Ev} {k:Nat} (h:k<evs.length):((plN evs k++evs.drop k).map eEv).set k (putL 1 (eSig (sgF evs (k+1))) (eEv evs[k]))=(plN evs (k+1)++evs.drop (k+1)).map eEv:=by
 have e:putL 1 (eSig (sgF evs (k+1))) (eEv evs[k])=eEv (sgW evs[k] (sgF evs (k+1))):=rfl
 rw [e,← List.map_set,plN_at h]
 congr 1
 have hl:(plN evs k).length=k:=plN_length zqo
 rw [List.set_append_right _ _ (by omega),hl,Nat.sub_self,List.drop_eq_getElem_cons h,List.set_cons_zero,List.append_assoc];rfl
theorem sgL_at {evs:List Ev} {k n:Nat} (h:k<n):((sgL evs n).map eSig)[k]?=some (eSig (sgF evs (k+1))):=by
 unfold sgL
 rw [List.getElem?_map,List.getElem?_map,List.getElem?_range h];rfl
theorem rPlain_FS (p:Pce) (hO:PcOk p):Ctr Tryz.prog 33 [ePce p] (.tu [ePce (plP p),.sc (.int .i64 (pceE p))]):=by
 have hC:=rCheck_FS p hO
 have hn3:=hO.n3
 by_cases h0:pceE p=0
 rotate_left
 ·have e1:plP p=noP:=if_neg h0
  rw [e1]
  obtain ⟨E,hE⟩:∃ E,pceE p=E:=⟨_,rfl⟩
  rw [hE] at hC h0 ⊢
  refine zqe Tryz.func33 Tryz.ntmps33 fun w0 F0=>?_;dsimp only [St.init,number,Nat.reduceAdd]
  repeat refine W.go rfl ?_
  refine (?_:WL _ _ _ _ _ _)
  refine WL.vl rfl (zqc Tryz.func20 hC) ?_
  repeat (first|refine W.gob rfl ?_|refine WL.nil ?_|refine WL.nt rfl rfl rfl zqo ?_|refine WL.e1 rfl ?_|refine W.condT rfl ?_)
  refine (?_:W _ _ _ _ _)
  refine W.tr (Tr.nilC 1 0 3 rfl rfl rfl) ?_
  refine W.tr (Tr.nilC 1 1 1 rfl rfl rfl) ?_
  refine W.tr (Tr.nilC 1 2 6 rfl rfl rfl) ?_
  exact W.ret (finN rfl rfl rfl rfl)
 have e1:plP p=⟨p.cs,p.st,plN p.evs p.evs.length⟩:=if_pos h0
 have hF:=rForces_FS p hO
 have hsl:=sgL_length p.evs p.evs.length
 rw [e1,h0]
 rw [h0] at hC
 obtain ⟨SL,hSL⟩:∃ z,(sgL p.evs p.evs.length).map eSig=z:=⟨_,rfl⟩
 have hSLl:SL.length=p.evs.length:=by rw [← hSL,List.length_map,hsl]
 rw [hSL] at hF
 refine zqe Tryz.func33 Tryz.ntmps33 fun w0 F0=>?_;dsimp only [St.init,number,Nat.reduceAdd]
 repeat refine W.go rfl ?_
 refine (?_:WL _ _ _ _ _ _)
 refine WL.vl rfl (zqc Tryz.func20 hC) ?_
 repeat (first|refine W.gob rfl ?_|refine WL.nil ?_|refine WL.nf rfl rfl rfl zqo ?_|refine WL.e1 rfl ?_|refine W.condF rfl ?_)
 refine (?_:WL _ _ _ _ _ _)
 refine WL.cto (truH _) [] rfl rfl (callF Tryz.func15 rfl rfl) (rCopyO_FS p hO) rfl rfl rfl trivial rfl rfl rfl rfl ?_
 repeat (first|refine W.go rfl ?_|refine WL.ev rfl ?_)
 refine (?_:WL _ _ _ _ _ _)
 refine WL.vl rfl (zqc Tryz.func79 hF) ?_
 repeat (first|refine W.go rfl ?_|refine WL.ev rfl ?_)
 refine (?_:W _ _ _ _ _)
 refine W.loop (fun k:Nat=>k≤p.evs.length) (fun k=>⟨[(2,.pt 1 0 0),(5,.pt 2 0 0),(6,.ls 3 SL),(7,.sc (.int .i64 k))],[(1,.box 29 [.sc (.slice none 0 0),.sc (.slice none 0 0),.sc (.slice none 0 0)]),(2,.box 29 [.ls 3 (p.cs.map eCrs),.ls 1 (p.st.map eInt),.sl 3]),(3,.row 45 6 ((plN p.evs k++p.evs.drop k).map eEv))],4⟩) (fun k=>p.evs.length - k) 0 (by omega) (zqu (fun q=>bif Nat.beq q 2 then 4 else bif Nat.beq q 3 then 2 else q) (by repeat (first|exact trivial|refine ⟨⟨?_,?_,?_⟩,?_⟩|rfl|exact congrArg (fun q=>some (AO.row _ _ q)) (by simp [plN]))) rfl) fun k hk=>?_
 have hkl:=plK_len hk
 by_cases hlt:k < p.evs.length
 ·have hat:=plK_at hlt
  have hset:=plK_set hlt
  have hsg:=sgL_at (evs:=p.evs) hlt
  rw [hSL] at hsg
  obtain ⟨R,hR⟩:∃ z,plN p.evs k++p.evs.drop k=z:=⟨_,rfl⟩
  rw [hR] at hkl hat hset ⊢
  repeat (first|refine W.gob rfl ?_|refine WL.nil ?_|refine WL.bt rfl rfl rfl zqo ?_|refine WL.e1 rfl ?_|refine WL.len rfl rfl zql ?_|refine W.condT rfl ?_)
  refine (?_:W _ _ _ _ _)
  refine W.dkT 9 zqk zqk zqk zqk ?_
  repeat refine DK.st rfl ?_
  refine DK.idx rfl rfl (by omega) (r:=eSig (sgF p.evs (k+1))) (by rw [Int.toNat_natCast];exact hsg) ?_
  repeat (first|refine DK.st rfl ?_|refine DK.ixs rfl rfl zqs ?_|refine DK.nil ?_)
  refine ⟨rfl,?_⟩
  rw [Int.toNat_natCast]
  refine WL.sto rfl rfl rfl rfl hat (by show 1+3≤6;omega) ?_
  repeat (first|refine W.go rfl ?_|refine WL.nil ?_|refine WL.ev rfl ?_|refine WL.ar rfl rfl (by unfold I64;omega) ?_)
  exact ⟨k+1,by omega,by omega,(zqu (fun q=>q) (by repeat (first|exact trivial|refine ⟨⟨?_,?_,?_⟩,?_⟩|rfl|exact congrArg (fun q=>some (AO.row _ _ q)) hset)) rfl)⟩
 ·obtain rfl:k=p.evs.length:=by omega
  rw [List.drop_length,List.append_nil]
  repeat (first|refine W.gob rfl ?_|refine WL.nil ?_|refine WL.bf rfl rfl rfl zqo ?_|refine WL.e1 rfl ?_|refine WL.len rfl rfl zql ?_|refine W.condF rfl ?_)
  refine (?_:W _ _ _ _ _)
  refine W.tr (Tr.freeze 3 rfl) ?_
  exact W.ret (finN rfl rfl rfl rfl)
end
section
open Go.RowKit
theorem pOnsets_bad (M:PM)(p:Pce)(w:World)(hP:PcAt w w.heap.size M p)(hO:PcOk p)(h0:pceE p≠0):Calls Tryz.prog 30 #[pcValue M p] w (Ret (.tuple #[.slice none 0 0,.int .i64 (pceE p)]) w):=by
 have hC:=fun (w':World)(hb:Below w.heap.size w w')=>pCheck_any M p w' (hP.after hb) hO
 obtain⟨E,hE⟩:∃ E,pceE p=E:=⟨_,rfl⟩
 rw [hE] at hC h0 ⊢
 obtain⟨A1,A2,A3,c1,c2,c3⟩:=M
 unfold pcValue at *
 simp only at *
 have HC:=Lib.hid hC
 have e1:(E == 0)=false:=by simpa using h0
 have e2:(E != 0)=true:=by simpa using h0
 clear hC hP hO h0 hE
 go_enter Tryz.func30,Tryz.ntmps30
 go_wp2_with (go_at_call 45;refine (HC.out _ zqb).mono ?_;rintro e' w1⟨rfl,hb1⟩;have k1:=(Blk.new _ _ _).after hb1;have l1:w.heap.size < w1.heap.size:=k1.lt;clear k1)
 go_ret2
 exact Ret.mk' rfl zqb
end
section
open Go.RowKit
theorem rd_of_ints {w:World} {base e n cap B:Nat} {g:Nat} {l:List Int} (h:w.ownsRow base e 1 (.slice (some ⟨g,0,none⟩) n cap) n (l.map fun x=>.int .i64 x)) (hn:l.length=n) (hg:g<B):Rd w B 1 (some ⟨g,0,none⟩) (l.map intCell):=by
 intro _
 refine ⟨⟨g,0,none⟩,rfl,hg,fun k r hr j y hy=>?_⟩
 rw [List.getElem?_map] at hr
 cases hk:l[k]? with
 | none=>simp [hk] at hr
 | some x =>
  simp only [hk,Option.map_some,Option.some.injEq] at hr
  subst hr
  have hkl:=(List.getElem?_eq_some_iff.1 hk).1
  match j with
  | 0 =>
   cases hy
   have:=h.cellAt k zqo
   rw [List.getElem?_map,hk] at this
   have e:(⟨g,0,none⟩:Addr).add (k*1+0)=⟨g,k,none⟩:=by
    by_cases hz:k=0
    ·subst hz;rfl
    ·simp [Addr.add,hz]
   rw [e]
   simpa using this
  | j+1=>simp [intCell] at hy
theorem pOnsets_FS (p:Pce) (hO:PcOk p):Ctr Tryz.prog 30 [ePce p] (.tu [.ls 1 (if pceE p=0 then (onsL p.evs p.evs.length).map eInt else []),.sc (.int .i64 (pceE p))]):=by
 intro w F vs hF hR
 match vs,hR.1 with
 | [v],_ =>
  obtain ⟨M,rfl,hM⟩:=pc_of_rp hF (hR.2 0 _ v rfl rfl)
  by_cases h0:pceE p=0
  ·rw [if_pos h0,h0]
   refine (pOnsets_ok M p w hM hO h0).mono fun e w' ⟨v,he,hrow,hb⟩=>?_
   obtain ⟨g,cap,rfl⟩:∃ g cap,v=.slice (some ⟨g,0,none⟩) (p.evs.length+1) cap:=by
    rcases hrow.2 with⟨_,h⟩|⟨g,cap,cur,e,_⟩
    ·omega
    ·exact ⟨g,cap,e⟩
   have hlt:=hrow.lt g rfl
   have hcap:p.evs.length+1≤cap:=by
    rcases hrow.2 with⟨h,_⟩|⟨g',cap',cur,e,_,_,h,_⟩
    ·cases h
    ·cases e;exact h
   have hlen:(onsL p.evs p.evs.length).length=p.evs.length+1:=onsL_length _ _
   refine ⟨_,newF F w w',he,hb,newF_le hF,newF_fw hF hb,newF_new,.tu _ _ rfl fun i av u a b=>?_⟩
   match i with
   | 0 =>
    cases a;cases b
    have:=rp_of_rd (F:=F) (w:=w) (rd_of_ints (B:=w'.heap.size) hrow hlen hlt.2) (fun ad e=>by cases e;exact hlt.1) (c:=cap) zqo (e:=eInt) (fun _=>rfl) eInt_of
    rw [hlen] at this
    exact this
   | 1=>cases a;cases b;exact .sc _
   | i+2=>simp at a
  ·rw [if_neg h0]
   refine (pOnsets_bad M p w hM hO h0).mono fun e w' ⟨he,hb⟩=>?_
   refine ⟨_,newF F w w',he,hb,newF_le hF,newF_fw hF hb,newF_new,.tu _ _ rfl fun i av u a b=>?_⟩
   match i with
   | 0=>cases a;cases b;exact .ls 1 [] none 0 ⟨0,0,none⟩ (fun _ _=>undef) (by simp) (by simp) (by simp) (by simp) (by simp)
   | 1=>cases a;cases b;exact .sc _
   | i+2=>simp at a
end
end Go.Proofs.YtaeelcfjkhfpkaaGreat
