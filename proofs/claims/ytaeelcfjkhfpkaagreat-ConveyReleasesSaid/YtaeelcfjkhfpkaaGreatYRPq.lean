/- A piece reduced to what a system can say: plain. -/
import Derived.Test.YtaeelcfjkhfpkaaGreatLkEPq
import Derived.Test.YtaeelcfjkhfpkaaGreatPChPq
import Derived.Test.YtaeelcfjkhfpkaaGreatG8Pq
set_option maxHeartbeats 8000000
set_option maxRecDepth 100000
set_option linter.unusedVariables false
set_option linter.unusedSimpArgs false
namespace Go.Proofs.YtaeelcfjkhfpkaaGreat
section
open Go.RowKit
theorem Tr.nilLs {C:Cx} {σ:St} {t:Tmp} (n:Nat) (h:look t σ.t=some (.sc (.slice none 0 0))):Tr C σ (σ.put t (.ls n [])):=fun G a w ok=>by
 refine ⟨G,ok.sz,ok.df,fun i av hi=>?_,ok.bel,ok.fw,ok.f0,ok.f1,ok.ob,ok.my,ok.dj,ok.dF⟩
 by_cases e:i=t
 ·subst e
  rw [show look i (σ.put i (.ls n [])).t=some (.ls n []) from look_set_same] at hi
  cases hi
  obtain ⟨h1,h2,h3⟩:=ok.tm i _ h
  refine ⟨h1,.ls _ _,?_⟩
  rw [h3.sc_eq]
  exact .pu _ _ (.ls n [] none 0 ⟨0,0,none⟩ (fun _ _=>undef) (by simp) (by simp) (fun h=>absurd h (by simp)) (fun i r j av h=>by simp at h) (fun i r j av h=>by simp at h))
 ·rw [show look i (σ.put t (.ls n [])).t=look i σ.t from look_set_other e] at hi
  exact ok.tm i av hi
theorem of_FS (s:Int):Ctr Tryz.prog 92 [.sc (.int .u8 s)] (.tu [.sc (sysV s),.sc (.bool (decide (1≤s∧s≤4)))]):=by
 refine Ctr.of_sc (xs:=[.int .u8 s]) (v:=.tuple #[sysV s,.bool (decide (1≤s∧s≤4))]) rfl (fun F=>.tu _ _ rfl fun i av u a b=>?_) fun w=>?_
 ·match i with
  | 0=>cases a;cases b;exact .sc _
  | 1=>cases a;cases b;exact .sc _
  | i+2=>simp at a
 ·by_cases h:1≤s∧s≤4
  ·rcases sys_cases h with rfl|rfl|rfl|rfl
   ·exact (of_1 w).mono fun e w' ⟨he,hw⟩=>⟨he,hw ▸ Below.refl _ _⟩
   ·exact (of_2 w).mono fun e w' ⟨he,hw⟩=>⟨he,hw ▸ Below.refl _ _⟩
   ·exact (of_3 w).mono fun e w' ⟨he,hw⟩=>⟨he,hw ▸ Below.refl _ _⟩
   ·exact (of_4 w).mono fun e w' ⟨he,hw⟩=>⟨he,hw ▸ Below.refl _ _⟩
  ·have e:sysV s=.nilIface:=by
    unfold sysV
    rw [if_neg (by omega),if_neg (by omega),if_neg (by omega),if_neg (by omega)]
   rw [e,decide_eq_false h]
   exact (of_bad s w zqo).mono fun e w' ⟨he,hw⟩=>⟨he,hw ▸ Below.refl _ _⟩
theorem pCheck_FS (p:Pce) (hO:PcOk p):Ctr Tryz.prog 45 [ePce p] (.sc (.int .i64 (pceE p))) :=
 Ctr.of_pc (pre:=[]) (post:=[]) rfl rfl (fun _=>.sc _) fun w M hM=>pCheck_any M p w hM hO
def lksR(s:Int)(p:Pce):List Lck:=if(1≤s∧s≤4)∧pceE p=0 then lksTo s p p.evs.length else []
def lksE(s:Int)(p:Pce):Int:=if 1≤s∧s≤4 then pceE p else 30
theorem lks_bad {s:Int} {p:Pce} (h:¬ (1≤s∧s≤4)):lksR s p=[]∧lksE s p=30:=⟨if_neg fun x=>h x.1,if_neg h⟩
theorem lks_err {s:Int} {p:Pce} (h:1≤s∧s≤4)(h2:pceE p≠0):lksR s p=[]∧lksE s p=pceE p:=⟨if_neg fun x=>h2 x.2,if_pos h⟩
theorem lks_ok {s:Int} {p:Pce} (h:1≤s∧s≤4) (h2:pceE p=0):lksR s p=lksTo s p p.evs.length∧lksE s p=0:=⟨if_pos ⟨h,h2⟩,by rw [← h2];exact if_pos h⟩
theorem pLacks_FS (s:Int) (p:Pce) (hO:PcOk p):Ctr Tryz.prog 46 [.sc (.int .u8 s),ePce p] (.tu [.ls 3 ((lksR s p).map eLk),.sc (.int .i64 (lksE s p))]):=by
 refine zqe Tryz.func46 Tryz.ntmps46 fun w0 F0=>?_;dsimp only [St.init,number,Nat.reduceAdd]
 have hn3:=hO.n3
 repeat refine W.go rfl ?_
 refine (?_:WL _ _ _ _ _ _)
 refine WL.vl rfl (WV.call rfl (callF Tryz.func92 rfl rfl) rfl rfl (of_FS s)) ?_
 repeat (first|refine W.go rfl ?_|refine WL.ev rfl ?_)
 refine (?_:W _ _ _ _ _)
 (refine W.cond rfl (fun hif=>?_) (fun hif=>?_)<;>(try simp only [decide_eq_true_eq,decide_eq_false_iff_not,Int.not_lt,Int.not_le,Bool.not_eq_true',Bool.not_eq_false'] at hif))
 ·have hs:¬ (1≤s∧s≤4):=by simpa using hif
  rw [(lks_bad hs).1,(lks_bad hs).2]
  repeat refine W.go rfl ?_
  refine (?_:W _ _ _ _ _)
  refine W.tr (Tr.nilLs (t:=4) 3 rfl) ?_
  exact W.ret (fin2 rfl rfl rfl rfl rfl rfl rfl)
 have hs:1≤s∧s≤4:=by simpa using hif
 repeat refine W.go rfl ?_
 refine (?_:WL _ _ _ _ _ _)
 refine WL.vl rfl (WV.call rfl (callF Tryz.func45 rfl rfl) rfl rfl (pCheck_FS p hO)) ?_
 repeat (first|refine W.go rfl ?_|refine WL.ev rfl ?_)
 refine (?_:W _ _ _ _ _)
 (refine W.cond rfl (fun hif=>?_) (fun hif=>?_)<;>(try simp only [decide_eq_true_eq,decide_eq_false_iff_not,Int.not_lt,Int.not_le,Bool.not_eq_true',Bool.not_eq_false'] at hif))
 ·have h0:pceE p≠0:=by simpa using hif
  rw [(lks_err hs h0).1,(lks_err hs h0).2]
  repeat refine W.go rfl ?_
  refine (?_:W _ _ _ _ _)
  refine W.tr (Tr.nilLs (t:=4) 3 rfl) ?_
  exact W.ret (fin2 rfl rfl rfl rfl rfl rfl rfl)
 have h0:pceE p=0:=by simpa using hif
 rw [(lks_ok hs h0).1,(lks_ok hs h0).2]
 repeat (first|refine W.go rfl ?_|refine WL.ev rfl ?_|refine WL.len rfl rfl zql ?_)
 refine (?_:W _ _ _ _ _)
 refine W.tr (Tr.nil (t:=9) 72 3 rfl rfl) ?_
 refine W.loop (fun k:Nat=>k≤p.evs.length) (fun k=>⟨[(3,.pt 0 0 0),(6,.sc (sysV s)),(9,.sl 1),(25,.sc (.int .i64 p.evs.length)),(26,.sc (.int .i64 k))],[(0,.box 29 (ePce p).cells),(1,.row 72 3 ((lksTo s p k).map eLk))],2⟩) (fun k=>p.evs.length - k) 0 zqo (zqt id) fun k hk=>?_
 repeat refine W.go rfl ?_
 refine (?_:W _ _ _ _ _)
 (refine W.cond rfl (fun hif=>?_) (fun hif=>?_)<;>(try simp only [decide_eq_true_eq,decide_eq_false_iff_not,Int.not_lt,Int.not_le,Bool.not_eq_true',Bool.not_eq_false'] at hif))
 ·have hk2:k < p.evs.length:=by omega
  have hl1:=lksTo_len s hO k hk
  have hl2:=lackE_len s p k p.evs[k] (hO.n4 k hk2)
  have hrow:(lksTo s p k).map eLk++(lackE s p k p.evs[k]).map eLk=(lksTo s p (k+1)).map eLk:=by rw [lksTo_at s p hk2,List.map_append]
  repeat refine W.go rfl ?_
  refine (?_:WL _ _ _ _ _ _)
  refine WL.vl rfl (WV.call rfl (callF Tryz.func96 rfl rfl) rfl rfl (plack_FS s hs p k hk2 hO (stopsIn_of h0 k hk2))) ?_
  repeat (first|refine W.go rfl ?_|refine WL.ev rfl ?_|refine WL.ar rfl rfl (by unfold I64;omega) ?_|refine WL.app rfl rfl rfl zqs ?_)
  exact ⟨k+1,by omega,by omega,zqu (fun q=>bif Nat.beq q 1 then 2 else q) (by repeat (first|exact trivial|refine ⟨⟨?_,?_,?_⟩,?_⟩|exact congrArg (fun r=>some (AO.row _ _ r)) hrow|rfl)) rfl⟩
 ·have he:k=p.evs.length:=by omega
  subst he
  repeat refine W.go rfl ?_
  refine (?_:W _ _ _ _ _)
  refine W.tr (Tr.freeze 1 rfl) ?_
  exact W.ret (fin2 rfl rfl rfl rfl rfl rfl rfl)
end
section
open Go.RowKit
def redC (s:Int):Cg where
 ch x:=(x,!pOk s x.1 x.2.1)
 mr x:=(x.1,x.2.1,if okR s x.2.2.1=true then x.2.2.1 else 0,if okG s x.2.2.2.1=true then x.2.2.2.1 else 0,x.2.2.2.2)
 ml x:=(if okR s x.2.2.1=true then []else [2])++(if okG s x.2.2.2.1=true then []else [3])
 tie i e:=if e.tie=true∧hasS s 7=false then false else if e.tie=false∧hasS s 8=false then true else e.tie
 bare i:=decide (0<i) && hasS s 7
def redQ(s:Int)(p:Pce):List Ev:=if s=4 then plE p else p.evs
def redI(s:Int)(p:Pce):Pce:=⟨p.cs,p.st,redQ s p⟩
def thrB(evs:List Ev):Bool:=evs.any fun e=>e.three
def frsB (C:Cg)(evs:List Ev):Bool:=match evs with
 | []=>false
 | e::_=>decide ((nwS C e.stops).length=0)
def redX (s:Int)(p:Pce):Int:=if ¬ (1≤s∧s≤4) then 30 else if pceE p≠0 then pceE p else if s=4∧thrB p.evs=true then 31 else if s=3∧frsB (redC s) p.evs=true then 31 else 0
def redN (s:Int) (p:Pce):List Ev:=nwL (redC s) (redQ s p)
def redP (s:Int) (p:Pce):Pce:=if redX s p=0 then ⟨p.cs,p.st,fnL (znH s (redN s p)) (redN s p)⟩else noP
def redL (s:Int) (p:Pce):List Lck:=if redX s p=0 then lsL (redC s) (znH s (redN s p)) (redQ s p) (redQ s p).length else []
theorem redQ_len(s:Int)(p:Pce):(redQ s p).length=p.evs.length:=by
 unfold redQ;split
 ·exact plE_length p
 ·rfl
theorem redQ_20 {s:Int} {p:Pce} (hO:PcOk p):∀ e∈redQ s p,e.stops.length≤20:=by
 have h0:∀ e∈p.evs,e.stops.length≤20:=fun e he=>by
  obtain⟨i,hi,rfl⟩:=List.getElem_of_mem he
  exact hO.n4 i hi
 unfold redQ
 split
 ·intro e he
  obtain⟨f,hf,e1⟩:=plN_stops (Nat.le_refl _) e he
  rw [e1];exact h0 f hf
 ·exact h0
theorem redI_ok {s:Int} {p:Pce} (hO:PcOk p):PcOk (redI s p) :=
 ⟨hO.n1,hO.n2,by show (redQ s p).length≤420;rw [redQ_len];exact hO.n3,fun k hk=>redQ_20 hO _ (List.getElem_mem _)⟩
theorem redI_valid {s:Int} {p:Pce} (h0:pceE p=0):pceE (redI s p)=0:=by
 unfold redI redQ
 split
 ·exact pceE_pl h0
 ·exact h0
theorem redC_mv {s:Int} {x y:Stp} (h:(redC s).mv x=some y):pOk s x.1 x.2.1=true∧y=(redC s).mr x:=by
 unfold Cg.mv at h
 by_cases hp:pOk s x.1 x.2.1=true
 ·rw [if_neg (by show ¬ (!pOk s x.1 x.2.1)=true;rw [hp];simp)]at h
  exact⟨hp,(Option.some.inj h).symm⟩
 ·rw [if_pos (by show (!pOk s x.1 x.2.1)=true;simpa using hp)]at h
  cases h
theorem redC_crs {s:Int} (x y:Stp)(h:(redC s).mv x=some y):y.1=x.1∧y.2.2.2.2=x.2.2.2.2:=by
 obtain⟨_,rfl⟩:=redC_mv h;exact⟨rfl,rfl⟩
theorem redC_ml(s:Int)(y:Stp):((redC s).ml y).length≤2:=by
 show(_++_:List Int).length≤2
 rw [List.length_append]
 split<;>split<;>simp
theorem redQ_first {s:Int} {p:Pce} (h3:s=3):redQ s p=p.evs:=by
 unfold redQ;rw [if_neg (by omega)]
theorem redC_ok {s:Int} {p:Pce} (hs:1≤s∧s≤4) (h0:pceE p=0) (hf:¬ (s=3∧frsB (redC s) p.evs=true)):CgOk (redC s) (redI s p) p.cs:=by
 have hv:=redI_valid (s:=s) h0
 refine ⟨redC_crs,rfl,fun k hk x hx y hy=>?_,fun k hk ht=>?_⟩
 ·obtain ⟨hp,rfl⟩:=redC_mv hy
  have hE:=evOk_of hv hk
  have hS:=hE.stops x hx
  obtain ⟨j,hj,rfl⟩:=List.getElem_of_mem hx
  obtain ⟨_,_,b3,b4,_⟩:=stopsIn_of hv k hk j hj
  refine ⟨hS.fret,?_,?_⟩
  ·show 0≤(if _ then _ else _:Int)∧(if _ then _ else _:Int)≤3
   split<;>omega
  ·show 0≤(if _ then _ else _:Int)∧(if _ then _ else _:Int)≤4
   split<;>omega
 ·have hE:=evOk_of hv hk
  unfold nwT at ht
  by_cases hl:(redI s p).evs[k].stops.length=0
  ·rw [if_pos hl] at ht
   have hnil:nwS (redC s) (redI s p).evs[k].stops=[]:=by rw [List.eq_nil_of_length_eq_zero hl];rfl
   refine ⟨?_,hnil⟩
   cases hti:(redI s p).evs[k].tie with
   | true=>exact (hE.tie hti).2
   | false =>
    have ht:(if (redI s p).evs[k].tie=true∧hasS s 7=false then false else if (redI s p).evs[k].tie=false∧hasS s 8=false then true else (redI s p).evs[k].tie)=true:=ht
    rw [hti,if_neg (by simp)] at ht
    by_cases h8:hasS s 8=false
    ·rcases Nat.lt_or_ge 0 k with h|h
     ·exact h
     ·exfalso
      obtain rfl:k=0:=by omega
      have h3:s=3:=by
       unfold hasS at h8
       by_cases a:s=3
       ·exact a
       ·rw [if_neg a] at h8
        by_cases b:s=4
        ·rw [if_pos b] at h8;cases h8
        ·rw [if_neg b] at h8;cases h8
      refine hf ⟨h3,?_⟩
      have e:(redI s p).evs=p.evs:=redQ_first h3
      have hk':0<p.evs.length:=by rw [← e];exact hk
      cases hev:p.evs with
      | nil=>rw [hev] at hk';cases hk'
      | cons a r =>
       have e2:(redI s p).evs[0]=a:=by
        have:(redI s p).evs[0]?=some a:=by rw [e,hev];rfl
        rw [List.getElem?_eq_getElem hk] at this
        exact Option.some.inj this
       rw [e2] at hnil
       show decide _=true
       rw [hnil];rfl
    ·rw [if_neg (fun h=>h8 h.2)] at ht
     cases ht
  ·rw [if_neg hl] at ht
   by_cases hn:(nwS (redC s) (redI s p).evs[k].stops).length=0
   ·rw [if_pos hn] at ht
    have ht:(decide (0<k) && hasS s 7)=true:=ht
    rw [Bool.and_eq_true] at ht
    exact ⟨of_decide_eq_true ht.1,List.eq_nil_of_length_eq_zero hn⟩
   ·rw [if_neg hn] at ht
    have:=(hE.tie ht).1
    rw [this] at hl
    exact absurd rfl hl
theorem red_mid {s:Int} {p:Pce} (hs:1≤s∧s≤4) (h0:pceE p=0) (hf:¬ (s=3∧frsB (redC s) p.evs=true)):pceE ⟨p.cs,p.st,fnL (ftH (redN s p)) (redN s p)⟩=0 :=
 cv_ok (p:=redI s p) (redI_valid h0) (pceE_zero h0).1 (redC_ok hs h0 hf) fun i y hy=>ftH_bd hy
theorem redN_asc {s:Int} {p:Pce} (h0:pceE p=0):∀ e∈redN s p,e.stops.Pairwise fun x y=>x.1<y.1:=by
 intro e he
 obtain⟨i,hi,rfl⟩:=List.getElem_of_mem he
 have hi':i<(redQ s p).length:=by unfold redN at hi;rw [nwL_len] at hi;exact hi
 have e1:(redN s p)[i]=nwE (redC s) i (redQ s p)[i]:=nwL_get hi'
 rw [e1]
 exact nwS_asc redC_crs (evOk_of (redI_valid (s:=s) h0) hi').asc
theorem redN_pok {s:Int} {p:Pce}:∀ e∈redN s p,∀ x∈e.stops,pOk s x.1 x.2.1=true:=by
 intro e he x hx
 obtain⟨i,hi,rfl⟩:=List.getElem_of_mem he
 have hi':i<(redQ s p).length:=by unfold redN at hi;rw [nwL_len] at hi;exact hi
 have e1:(redN s p)[i]=nwE (redC s) i (redQ s p)[i]:=nwL_get hi'
 rw [e1] at hx
 obtain⟨z,_,hm⟩:=nwS_mem hx
 obtain⟨hp,rfl⟩:=redC_mv hm
 exact hp
theorem fnL_asc {H:Nat→Stp→Int} {evs:List Ev} (h:∀ e∈evs,e.stops.Pairwise fun x y=>x.1<y.1):∀ e∈fnL H evs,e.stops.Pairwise fun x y=>x.1<y.1:=by
 intro e he
 obtain⟨i,hi,rfl⟩:=List.getElem_of_mem he
 have hi':i<evs.length:=by rw [fnL_len]at hi;exact hi
 rw [fnL_get hi']
 exact map_stH_asc (h _ (List.getElem_mem hi'))
theorem fnL_pok {s:Int} {H:Nat→Stp→Int} {evs:List Ev} (h:∀ e∈evs,∀ x∈e.stops,pOk s x.1 x.2.1=true):∀ e∈fnL H evs,∀ x∈e.stops,pOk s x.1 x.2.1=true:=by
 intro e he x hx
 obtain⟨i,hi,rfl⟩:=List.getElem_of_mem he
 have hi':i<evs.length:=by rw [fnL_len] at hi;exact hi
 rw [fnL_get hi'] at hx
 obtain⟨y,hy,rfl⟩:=List.mem_map.1 hx
 exact h _ (List.getElem_mem hi') y hy
theorem mem_three {s:Int} {p:Pce} {i:Nat} {e:Ev}:(∃ x∈lackE s p i e,x.2.2=(5:Int))↔e.three=true∧hasS s 5=false:=by
 unfold lackE lackHead
 constructor
 ·rintro ⟨x,hx,h5⟩
  rcases List.mem_append.1 hx with hx|hx
  ·rcases List.mem_append.1 hx with hx|hx
   ·split at hx
    ·rw [mem_lkIf]at hx;rw [hx.2]at h5;simp at h5
    ·cases hx
   rcases List.mem_append.1 hx with hx|hx
   ·split at hx
    ·rename_i ht
     rw [mem_lkIf]at hx;exact ⟨ht,hx.1⟩
    ·cases hx
   ·split at hx
    ·rw [mem_lkIf]at hx;rw [hx.2]at h5;simp at h5
    ·split at hx
     ·rw [mem_lkIf]at hx;rw [hx.2]at h5;simp at h5
     ·cases hx
  ·obtain ⟨y,hy,hx⟩:=List.mem_flatMap.1 hx
   unfold lackStop at hx
   split at hx
   ·rw [List.mem_singleton]at hx;rw [hx]at h5;simp at h5
   ·rcases List.mem_append.1 hx with hx|hx
    ·rw [mem_lkIf]at hx;rw [hx.2]at h5;simp at h5
    rcases List.mem_append.1 hx with hx|hx
    ·rw [mem_lkIf]at hx;rw [hx.2]at h5;simp at h5
    ·rw [mem_lkIf]at hx;rw [hx.2]at h5;simp at h5
 ·rintro ⟨ht,hh⟩
  refine ⟨((i:Int),0,5),?_,rfl⟩
  refine List.mem_append.2 (.inl (List.mem_append.2 (.inr (List.mem_append.2 (.inl ?_)))))
  rw [if_pos ht]
  exact mem_lkIf.2 ⟨hh,rfl⟩
def hasW(l:List Lck)(w:Int):Bool:=l.any fun x=>x.2.2 == w
theorem hasW_app (l m:List Lck)(w:Int):hasW (l++m) w=(hasW l w|| hasW m w):=List.any_append
theorem hasW_three {s:Int} {p:Pce} (h5:hasS s 5=false):∀ n,n≤p.evs.length→hasW (lksTo s p n) 5=thrB (p.evs.take n)
 | 0,_=>rfl
 | n+1,hn=>by
  rw [lksTo_at s p (by omega),hasW_app,hasW_three h5 n (by omega),List.take_succ_eq_append_getElem (by omega)]
  unfold thrB
  rw [List.any_append]
  congr 1
  rw [List.any_cons,List.any_nil,Bool.or_false]
  have hm:=mem_three (s:=s) (p:=p) (i:=n) (e:=p.evs[n])
  cases ht:p.evs[n].three with
  | true =>
   obtain ⟨x,hx,h⟩:=hm.2 ⟨ht,h5⟩
   unfold hasW
   rw [List.any_eq_true]
   exact ⟨x,hx,by rw [h];rfl⟩
  | false =>
   unfold hasW
   rw [List.any_eq_false]
   intro x hx h
   have:=hm.1 ⟨x,hx,by simpa using h⟩
   rw [ht] at this;cases this.1
theorem hasW_no {s:Int} {p:Pce} (h5:hasS s 5=true):∀ n,n≤p.evs.length→hasW (lksTo s p n) 5=false
 | 0,_=>rfl
 | n+1,hn=>by
  rw [lksTo_at s p (by omega),hasW_app,hasW_no h5 n (by omega),Bool.false_or]
  unfold hasW
  rw [List.any_eq_false]
  intro x hx h
  have:=(mem_three (s:=s) (p:=p) (i:=n) (e:=p.evs[n])).1 ⟨x,hx,by simpa using h⟩
  rw [h5] at this;cases this.2
theorem has_three {s:Int} {p:Pce} (hs:1≤s∧s≤4)(h0:pceE p=0):hasW (lksR s p) 5=decide (s=4∧thrB p.evs=true):=by
 rw [(lks_ok hs h0).1]
 by_cases h4:s=4
 ·rw [hasW_three (by rw [h4];rfl) _ (Nat.le_refl _),List.take_length]
  cases ht:thrB p.evs<;>simp [h4]
 ·rw [hasW_no (by unfold hasS;rw [if_neg h4];split<;>simp) _ (Nat.le_refl _)]
  simp [h4]
end
end Go.Proofs.YtaeelcfjkhfpkaaGreat
