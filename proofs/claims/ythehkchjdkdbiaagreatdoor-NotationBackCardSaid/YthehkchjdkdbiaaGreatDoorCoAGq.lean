/- The column of an event: the program, over trees. -/
import Derived.Test.YthehkchjdkdbiaaGreatDoorLkEGq
import Derived.Test.YthehkchjdkdbiaaGreatDoorPChGq
set_option maxHeartbeats 4000000
set_option maxRecDepth 100000
set_option linter.unusedVariables false
set_option linter.unusedSimpArgs false
namespace Go.Proofs.YthehkchjdkdbiaaGreatDoor
section
open Go.RowKit
theorem Tr.nilLs {C:Cx} {σ:St} {t:Tmp} (n:Nat) (h:look t σ.t=some (.sc (.slice none 0 0))):Tr C σ (σ.put t (.ls n [])):=fun G a w ok=>by
 refine ⟨G,ok.sz,ok.df,fun i av hi=>?_,ok.bel,ok.fw,ok.f0,ok.f1,ok.ob,ok.my,ok.dj,ok.dF⟩
 by_cases e:i=t
 ·subst e
  rw [show look i (σ.put i (.ls n [])).t=some (.ls n []) from look_set_same] at hi
  cases hi
  obtain ⟨h1,h2,h3⟩:=ok.tm i _ h
  refine ⟨h1,.ls _ _,?_⟩
  rw [h3.sc_eq]
  exact .pu _ _ (.ls n [] none 0 ⟨0,0,none⟩ (fun _ _=>undef) (by simp) (by simp) (fun h=>absurd h (by simp)) (fun i r j av h=>by simp at h) (fun i r j av h=>by simp at h))
 ·rw [show look i (σ.put t (.ls n [])).t=look i σ.t from look_set_other e] at hi
  exact ok.tm i av hi
theorem of_FS (s:Int):Ctr Tryz.prog 50 [.sc (.int .u8 s)] (.tu [.sc (sysV s),.sc (.bool (decide (1≤s∧s≤4)))]):=by
 refine Ctr.of_sc (xs:=[.int .u8 s]) (v:=.tuple #[sysV s,.bool (decide (1≤s∧s≤4))]) rfl (fun F=>.tu _ _ rfl fun i av u a b=>?_) fun w=>?_
 ·match i with
  | 0=>cases a;cases b;exact .sc _
  | 1=>cases a;cases b;exact .sc _
  | i+2=>simp at a
 ·by_cases h:1≤s∧s≤4
  ·rcases sys_cases h with rfl|rfl|rfl|rfl
   ·exact (of_1 w).mono fun e w' ⟨he,hw⟩=>⟨he,hw ▸ Below.refl _ _⟩
   ·exact (of_2 w).mono fun e w' ⟨he,hw⟩=>⟨he,hw ▸ Below.refl _ _⟩
   ·exact (of_3 w).mono fun e w' ⟨he,hw⟩=>⟨he,hw ▸ Below.refl _ _⟩
   ·exact (of_4 w).mono fun e w' ⟨he,hw⟩=>⟨he,hw ▸ Below.refl _ _⟩
  ·have e:sysV s=.nilIface:=by
    unfold sysV
    rw [if_neg (by omega),if_neg (by omega),if_neg (by omega),if_neg (by omega)]
   rw [e,decide_eq_false h]
   exact (of_bad s w zqo).mono fun e w' ⟨he,hw⟩=>⟨he,hw ▸ Below.refl _ _⟩
theorem pCheck_FS (p:Pce) (hO:PcOk p):Ctr Tryz.prog 51 [ePce p] (.sc (.int .i64 (pceE p))) :=
 Ctr.of_pc (pre:=[]) (post:=[]) rfl rfl (fun _=>.sc _) fun w M hM=>pCheck_any M p w hM hO
def lksR(s:Int)(p:Pce):List Lck:=if(1≤s∧s≤4)∧pceE p=0 then lksTo s p p.evs.length else []
def lksE(s:Int)(p:Pce):Int:=if 1≤s∧s≤4 then pceE p else 30
theorem lks_bad {s:Int} {p:Pce} (h:¬ (1≤s∧s≤4)):lksR s p=[]∧lksE s p=30:=⟨if_neg fun x=>h x.1,if_neg h⟩
theorem lks_err {s:Int} {p:Pce} (h:1≤s∧s≤4)(h2:pceE p≠0):lksR s p=[]∧lksE s p=pceE p:=⟨if_neg fun x=>h2 x.2,if_pos h⟩
theorem lks_ok {s:Int} {p:Pce} (h:1≤s∧s≤4) (h2:pceE p=0):lksR s p=lksTo s p p.evs.length∧lksE s p=0:=⟨if_pos ⟨h,h2⟩,by rw [← h2];exact if_pos h⟩
theorem pLacks_FS (s:Int) (p:Pce) (hO:PcOk p):Ctr Tryz.prog 59 [.sc (.int .u8 s),ePce p] (.tu [.ls 3 ((lksR s p).map eLk),.sc (.int .i64 (lksE s p))]):=by
 refine zqe Tryz.func59 Tryz.ntmps59 fun w0 F0=>?_;dsimp only [St.init,number,Nat.reduceAdd]
 have hn3:=hO.n3
 refine zqg2 ?_
 refine WL.vl rfl (WV.call rfl (callF Tryz.func50 rfl rfl) rfl rfl (of_FS s)) ?_
 refine zqg2 ?_
 (refine W.cond rfl (fun hif=>?_) (fun hif=>?_)<;>(try simp only [decide_eq_true_eq,decide_eq_false_iff_not,Int.not_lt,Int.not_le,Bool.not_eq_true',Bool.not_eq_false'] at hif))
 ·have hs:¬ (1≤s∧s≤4):=by simpa using hif
  rw [(lks_bad hs).1,(lks_bad hs).2]
  refine zqg2 ?_
  refine W.tr (Tr.nilLs (t:=4) 3 rfl) ?_
  exact W.ret (fin2 rfl rfl rfl rfl rfl rfl rfl)
 have hs:1≤s∧s≤4:=by simpa using hif
 refine zqg2 ?_
 refine WL.vl rfl (WV.call rfl (callF Tryz.func51 rfl rfl) rfl rfl (pCheck_FS p hO)) ?_
 refine zqg2 ?_
 (refine W.cond rfl (fun hif=>?_) (fun hif=>?_)<;>(try simp only [decide_eq_true_eq,decide_eq_false_iff_not,Int.not_lt,Int.not_le,Bool.not_eq_true',Bool.not_eq_false'] at hif))
 ·have h0:pceE p≠0:=by simpa using hif
  rw [(lks_err hs h0).1,(lks_err hs h0).2]
  refine zqg2 ?_
  refine W.tr (Tr.nilLs (t:=4) 3 rfl) ?_
  exact W.ret (fin2 rfl rfl rfl rfl rfl rfl rfl)
 have h0:pceE p=0:=by simpa using hif
 rw [(lks_ok hs h0).1,(lks_ok hs h0).2]
 refine zqg2 ?_
 refine W.tr (Tr.nil (t:=9) 122 3 rfl rfl) ?_
 refine W.loop (fun k:Nat=>k≤p.evs.length) (fun k=>⟨[(3,.pt 0 0 0),(6,.sc (sysV s)),(9,.sl 1),(25,.sc (.int .i64 p.evs.length)),(26,.sc (.int .i64 k))],[(0,.box 30 (ePce p).cells),(1,.row 122 3 ((lksTo s p k).map eLk))],2⟩) (fun k=>p.evs.length - k) 0 zqo (zqt id) fun k hk=>?_
 refine zqg2 ?_
 (refine W.cond rfl (fun hif=>?_) (fun hif=>?_)<;>(try simp only [decide_eq_true_eq,decide_eq_false_iff_not,Int.not_lt,Int.not_le,Bool.not_eq_true',Bool.not_eq_false'] at hif))
 ·have hk2:k < p.evs.length:=by omega
  have hl1:=lksTo_len s hO k hk
  have hl2:=lackE_len s p k p.evs[k] (hO.n4 k hk2)
  have hrow:(lksTo s p k).map eLk++(lackE s p k p.evs[k]).map eLk=(lksTo s p (k+1)).map eLk:=by rw [lksTo_at s p hk2,List.map_append]
  refine zqg2 ?_
  refine WL.vl rfl (WV.call rfl (callF Tryz.func114 rfl rfl) rfl rfl (plack_FS s hs p k hk2 hO (stopsIn_of h0 k hk2))) ?_
  refine zqg2 ?_
  exact ⟨k+1,by omega,by omega,zqu (fun q=>bif Nat.beq q 1 then 2 else q) (by repeat (first|exact trivial|refine ⟨⟨?_,?_,?_⟩,?_⟩|exact congrArg (fun r=>some (AO.row _ _ r)) hrow|rfl)) rfl⟩
 ·have he:k=p.evs.length:=by omega
  subst he
  refine zqg2 ?_
  refine W.tr (Tr.freeze 1 rfl) ?_
  exact W.ret (fin2 rfl rfl rfl rfl rfl rfl rfl)
theorem pCan_FS (s:Int) (p:Pce) (hO:PcOk p):Ctr Tryz.prog 19 [.sc (.int .u8 s),ePce p] (.sc (.bool (lksE s p == 0 && ((lksR s p).length:Int) == 0))):=by
 refine zqe Tryz.func19 Tryz.ntmps19 fun w0 F0=>?_;dsimp only [St.init,number,Nat.reduceAdd]
 refine zqg3 ?_
 refine WL.vl rfl (WV.call rfl (callF Tryz.func59 rfl rfl) rfl rfl (pLacks_FS s p hO)) ?_
 refine zqg3 ?_
 have hl:(lksR s p).length≤27000:=by
  unfold lksR
  split
  ·exact lksTo_len s hO _ (Nat.le_refl _)
  ·simp
 refine WL.partG rfl rfl rfl rfl (fun hp=>?_) (fun hp=>?_)
 ·have e:lksE s p=0:=of_decide_eq_true hp
  refine zqg3 ?_
  refine W.ret (fin1 rfl rfl (sc_bool ?_) rfl)
  rw [e];rfl
 ·have e:lksE s p≠0:=of_decide_eq_false hp
  refine zqg3 ?_
  refine W.ret (fin1 rfl rfl (sc_bool ?_) rfl)
  rw [show (lksE s p == 0)=false by simpa using e];rfl
end
section
open Go.RowKit
def eSg (e:Ev):AV:=.ag [.sc (.int .i64 e.val),.sc (.bool e.dot),.sc (.bool e.three)]
theorem sg_cases {v:Int} {d t:Bool} (h:sgOk v d t=true):0≤v∧v≤7∧sgI d t≤2∧d=sgD (sgI d t)∧t=sgT (sgI d t)∧(v=0→sgI d t=0):=by
 have hv:0≤v∧v≤7:=by
  unfold sgOk at h
  simp only [Bool.or_eq_true,Bool.and_eq_true,beq_iff_eq,decide_eq_true_eq]at h
  omega
 refine⟨hv.1,hv.2,?_⟩
 cases d<;>cases t
 ·exact⟨by decide,rfl,rfl,fun _=>rfl⟩
 ·refine⟨by decide,rfl,rfl,fun h0=>?_⟩
  subst h0;cases h
 ·refine⟨by decide,rfl,rfl,fun h0=>?_⟩
  subst h0;cases h
 ·exfalso
  unfold sgOk at h
  by_cases h1:1≤v<;>by_cases h2:v≤7<;>simp [h1,h2]at h
theorem timeWord_FS (s:Int) (hs:1≤s∧s≤4) (e:Ev) (h:sgOk e.val e.dot e.three=true):Ctr Tryz.prog 110 [.sc (sysV s),eSg e] (.tu [.sc (.string (bs (tW e.val (sgI e.dot e.three)))),.sc (.bool (tOk s e.val (sgI e.dot e.three)))]):=by
 obtain ⟨h1,h2,h3,h4,h5,h6⟩:=sg_cases h
 obtain ⟨i,hi⟩:∃ i,sgI e.dot e.three=i:=⟨_,rfl⟩
 rw [hi] at h3 h4 h5 h6 ⊢
 unfold eSg
 rw [h4,h5]
 rcases sys_cases hs with rfl|rfl|rfl|rfl
 ·exact Ctr.of_pl rfl (fun _=>rp_tu2) fun w=>ptw_1 e.val i w ⟨h1,h2⟩ h3 h6
 ·exact Ctr.of_pl rfl (fun _=>rp_tu2) fun w=>ptw_2 e.val i w ⟨h1,h2⟩ h3 h6
 ·exact Ctr.of_pl rfl (fun _=>rp_tu2) fun w=>ptw_3 e.val i w ⟨h1,h2⟩ h3 h6
 ·exact Ctr.of_pl rfl (fun _=>rp_tu2) fun w=>ptw_4 e.val i w ⟨h1,h2⟩ h3 h6
theorem cell_FS (s:Int)(hs:1≤s∧s≤4)(x:Stp)(L:Int)(hc:1≤x.1∧x.1≤14)(hf:0≤x.2.1∧x.2.1≤18)(hr:0≤x.2.2.1∧x.2.2.1≤3)(hg:0≤x.2.2.2.1∧x.2.2.2.1≤4)(hh:0≤x.2.2.2.2∧x.2.2.2.2≤15) :
  Ctr Tryz.prog 87 [.sc (sysV s),.ag (eStp x),.sc (.int .i64 L)] (.tu [.sc (.string (bs (cellS s x.1 x.2.1 x.2.2.1 x.2.2.2.1 x.2.2.2.2 L))),.sc (.bool (cellOk s x.1 x.2.1 x.2.2.1 x.2.2.2.1 x.2.2.2.2 L))]):=by
 rcases sys_cases hs with rfl|rfl|rfl|rfl
 ·exact Ctr.of_pl rfl (fun _=>rp_tu2) fun w=>pcell_1 _ _ _ _ _ _ w hc hf hr hg hh
 ·exact Ctr.of_pl rfl (fun _=>rp_tu2) fun w=>pcell_2 _ _ _ _ _ _ w hc hf hr hg hh
 ·exact Ctr.of_pl rfl (fun _=>rp_tu2) fun w=>pcell_3 _ _ _ _ _ _ w hc hf hr hg hh
 ·exact Ctr.of_pl rfl (fun _=>rp_tu2) fun w=>pcell_4 _ _ _ _ _ _ w hc hf hr hg hh
theorem pLong_FS (p:Pce) (hO:PcOk p) (i x:Int):Ctr Tryz.prog 95 [ePce p,.sc (.int .i64 i),.sc (.int .i64 x)] (.sc (.int .i64 (longestN p.evs i x))) :=
 Ctr.of_pc (pre:=[]) (post:=[.sc (.int .i64 i),.sc (.int .i64 x)]) rfl rfl (fun _=>.sc _) fun w M hM=>pLongest_any M p i x w hM hO
theorem pstaff_FS (cs:List (Int×Int×Bool)) (st:List Int) (h:cs.length≤64):Ctr Tryz.prog 112 [.ag (eIns cs st)] (.sc (.int .i64 ((min cs.length 6:Nat):Int))):=by
 refine zqe Tryz.func112 Tryz.ntmps112 fun w0 F0=>?_;dsimp only [St.init,number,Nat.reduceAdd]
 refine zqg4 ?_
 refine WL.mm rfl rfl (show _=((min cs.length 6:Nat):Int) by split<;>omega) ?_
 refine zqg4 ?_
 exact W.ret zqr
def lineF(s:Int):FuncId:=if s=1 then 317 else if s=2 then 332 else if s=3 then 340 else 347
def behindF(s:Int):FuncId:=if s=1 then 319 else if s=2 then 334 else if s=3 then 342 else 349
theorem line_FS (s:Int) (hs:1≤s∧s≤4) (c n:Int) (hc:1≤c∧c≤14) (hn:0≤n∧n≤6):Ctr Tryz.prog (lineF s) [.ag [],.sc (.int .i64 c),.sc (.int .i64 n)] (.sc (.int .i64 (lineV s c n))):=by
 rcases sys_cases hs with rfl|rfl|rfl|rfl
 ·show Ctr Tryz.prog 317 _ _
  refine zqe Tryz.func317 Tryz.ntmps317 fun w0 F0=>?_;dsimp only [St.init,number,Nat.reduceAdd]
  refine zqg5 ?_
  exact W.ret zqr
 ·show Ctr Tryz.prog 332 _ _
  refine zqe Tryz.func332 Tryz.ntmps332 fun w0 F0=>?_;dsimp only [St.init,number,Nat.reduceAdd]
  refine zqg5 ?_
  exact W.ret zqr
 ·show Ctr Tryz.prog 340 _ _
  refine zqe Tryz.func340 Tryz.ntmps340 fun w0 F0=>?_;dsimp only [St.init,number,Nat.reduceAdd]
  refine zqg5 ?_
  exact W.ret zqr
 ·show Ctr Tryz.prog 347 _ _
  refine zqe Tryz.func347 Tryz.ntmps347 fun w0 F0=>?_;dsimp only [St.init,number,Nat.reduceAdd]
  refine zqg5 ?_
  exact W.ret zqr
theorem behind_FS (s:Int) (hs:1≤s∧s≤4):Ctr Tryz.prog (behindF s) [.ag []] (.sc (.bool (!decide (s=2)))):=by
 rcases sys_cases hs with rfl|rfl|rfl|rfl
 ·show Ctr Tryz.prog 319 _ _
  refine zqe Tryz.func319 Tryz.ntmps319 fun w0 F0=>?_;dsimp only [St.init,number,Nat.reduceAdd]
  refine zqg6 ?_
  exact W.ret zqr
 ·show Ctr Tryz.prog 334 _ _
  refine zqe Tryz.func334 Tryz.ntmps334 fun w0 F0=>?_;dsimp only [St.init,number,Nat.reduceAdd]
  refine zqg6 ?_
  exact W.ret zqr
 ·show Ctr Tryz.prog 342 _ _
  refine zqe Tryz.func342 Tryz.ntmps342 fun w0 F0=>?_;dsimp only [St.init,number,Nat.reduceAdd]
  refine zqg6 ?_
  exact W.ret zqr
 ·show Ctr Tryz.prog 349 _ _
  refine zqe Tryz.func349 Tryz.ntmps349 fun w0 F0=>?_;dsimp only [St.init,number,Nat.reduceAdd]
  refine zqg6 ?_
  exact W.ret zqr
def eStr (t:List UInt8):List AV:=[.sc (.string (bs t))]
theorem join_FS (l:List (List UInt8)) (h1:l.length≤1000) (h2:(joinW l).length≤1000000):Ctr Tryz.prog 111 [.ls 1 (l.map eStr),.sc (.string (bs [32]))] (.sc (.string (bs (joinW l)))):=by
 intro w F vs hF hR
 match vs,hR.1 with
 | [v,v2],_ =>
  obtain rfl:=(hR.2 1 _ v2 rfl rfl).sc_eq
  obtain ⟨A,c,rfl,hrd,hc⟩:=rd_of_rp (n:=1) (f:=fun t=>[Value.string (bs t)]) hF zqo (fun _=>rfl) (fun x j u h=>by
   match j with
   | 0=>cases h;rfl
   | j+1=>simp at h) (hR.2 0 _ v rfl rfl)
  have fin:∀ e w',e=Ending.returned (.string (bs (joinW l)))→Below w.heap.size w w'→∃ v F',e=.returned v∧Below w.heap.size w w'∧View.le F F'∧(∀ p u,F' p=some u→w'.cell? p=some u)∧(∀ p u,F' p=some u→F p=some u∨w.heap.size≤p.block)∧RP F' (.sc (.string (bs (joinW l)))) v :=
   fun e w' he hb=>⟨_,F,he,hb,fun _ _ h=>h,fun p u x=>by rw [hb.cell (cell_block (hF p u x))];exact hF p u x,fun _ _ h=>.inl h,.sc _⟩
  by_cases h0:l.length=0
  ·obtain rfl:=List.eq_nil_of_length_eq_zero h0
   exact (strings_Join_none A c (bs [32]) w).mono fun e w' ⟨he,hw⟩=>fin e w' he (hw ▸ Below.refl _ _)
  ·obtain ⟨ad,had,hlt,hcell⟩:=hrd (by simp;omega)
   subst had
   have hsp:ad.spot=none:=by
    have:=hcell 0 _ (List.getElem?_eq_getElem (by simp;omega)) 0 (.string (bs (l[0]'(by omega)))) (by simp)
    rw [Nat.zero_mul,Nat.add_zero,add_zero'] at this
    unfold World.cell? at this
    cases hs:ad.spot with
    | none=>rfl
    | some q =>
     split at this
     ·rw [hs] at this;simp at this
     ·cases this
   obtain ⟨bk,off,sp⟩:=ad
   simp only at hsp hlt
   subst hsp
   have hm:(l.map bs).map (fun b=>b.data.toList)=l:=by
    rw [List.map_map]
    exact (List.map_congr_left fun t _=>rfl).trans (List.map_id l)
   have:=strings_Join bk off c (l.map bs) (bs [32]) w (fun j x hx=>?_) hlt (by simp;omega) (by simpa using hc) (by rw [hm,bs_data,joinW_lib];omega)
   ·rw [hm,bs_data,joinW_lib,List.length_map] at this
    exact this.mono fun e w' ⟨he,hb⟩=>fin e w' he hb
   ·rw [List.getElem?_map] at hx
    cases hq:l[j]? with
    | none=>simp [hq] at hx
    | some t =>
     rw [hq] at hx
     obtain rfl:bs t=x:=by simpa using hx
     have:=hcell j _ (by rw [List.getElem?_map,hq];rfl) 0 (.string (bs t)) rfl
     rw [add_flat,Nat.mul_one,Nat.add_zero] at this
     exact this
end
end Go.Proofs.YthehkchjdkdbiaaGreatDoor
