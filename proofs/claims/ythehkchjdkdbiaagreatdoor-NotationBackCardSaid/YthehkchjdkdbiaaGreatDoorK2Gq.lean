/- Closed facts of the program that each card asks, each in a declaration of its own. -/
import Derived.Test.YthehkchjdkdbiaaGreatDoorREeGq
import Derived.Test.YthehkchjdkdbiaaGreatDoorSnGq
import Derived.Test.YthehkchjdkdbiaaGreatDoorCoBGq
import Derived.Test.YthehkchjdkdbiaaGreatDoorNrNGq
import Derived.Test.YthehkchjdkdbiaaGreatDoorNrAGq
import Derived.Test.YthehkchjdkdbiaaGreatDoorCards
import Derived.SevenTiedAt
set_option maxHeartbeats 8000000
set_option maxRecDepth 100000
set_option linter.unusedVariables false
set_option linter.unusedSimpArgs false
namespace Go.Proofs.YthehkchjdkdbiaaGreatDoor
section
open Go.RowKit
def hd1(s i:Int)(e:Ev):List Lck:=if s=4∧e.three=true then [(i,0,5)]else []
def hd2(s i:Int)(e:Ev):List Lck:=if s=4∧e.val=0 then [(i,0,6)]else []
def hd3(s i:Int)(e:Ev):List Lck:=if s=4∧e.tie=true then [(i,0,7)]else []
def hd4(s i:Int)(e:Ev):List Lck:=if s=3∧restB e=true then [(i,0,8)]else []
end
section
open Go.RowKit
theorem works_FS:Ctr Tryz.prog 10 [] (.sc (.bool true)) :=
 Ctr.of_sc (xs:=[]) rfl (fun _=>.sc _) fun w=>works_any w
end
section
open Go.RowKit
def snmT(s:Int):List UInt8:=if s=1 then [102,114,101,110,99,104]else if s=2 then [105,116,97,108,105,97,110]else if s=3 then [115,112,97,110,105,115,104]else [103,101,114,109,97,110]
def nameF(s:Int):FuncId:=if s=1 then 318 else if s=2 then 333 else if s=3 then 341 else 348
theorem snmT_len(s:Int):(snmT s).length≤7:=by unfold snmT;split<;>(try split)<;>(try split)<;>simp
theorem name_FS (s:Int) (hs:1≤s∧s≤4):Ctr Tryz.prog (nameF s) [.ag []] (.sc (.string (bs (snmT s)))):=by
 rcases sys_cases hs with rfl|rfl|rfl|rfl
 ·show Ctr Tryz.prog 318 _ _
  refine zqe Tryz.func318 Tryz.ntmps318 fun w0 F0=>?_;dsimp only [St.init,number,Nat.reduceAdd]
  refine zqg6 ?_
  exact W.ret zqr
 ·show Ctr Tryz.prog 333 _ _
  refine zqe Tryz.func333 Tryz.ntmps333 fun w0 F0=>?_;dsimp only [St.init,number,Nat.reduceAdd]
  refine zqg6 ?_
  exact W.ret zqr
 ·show Ctr Tryz.prog 341 _ _
  refine zqe Tryz.func341 Tryz.ntmps341 fun w0 F0=>?_;dsimp only [St.init,number,Nat.reduceAdd]
  refine zqg6 ?_
  exact W.ret zqr
 ·show Ctr Tryz.prog 348 _ _
  refine zqe Tryz.func348 Tryz.ntmps348 fun w0 F0=>?_;dsimp only [St.init,number,Nat.reduceAdd]
  refine zqg6 ?_
  exact W.ret zqr
def hdW(s:Int)(p:Pce):List UInt8:=[116,97,98,108,97,116,117,114,101,32]++snmT s++[10]++fmA p.cs p.st++[10]
def colN(s:Int)(p:Pce)(i:Nat):List UInt8:=(match p.evs[i]? with
 | some e=>colS s p i e
 | none=>[])++[10]
def bodyW(s:Int)(p:Pce):Nat→List UInt8
 | 0=>[]
 | k+1=>bodyW s p k++colN s p k
def wrX(s:Int)(p:Pce):Int:=if lksE s p≠0 then lksE s p else if lksR s p=[]then 0 else 31
def wrT(s:Int)(p:Pce):List UInt8:=if wrX s p=0 then hdW s p++bodyW s p p.evs.length else []
theorem colN_at {s:Int} {p:Pce} {i:Nat} (h:i<p.evs.length):colN s p i=colS s p i p.evs[i]++[10]:=by unfold colN;rw [List.getElem?_eq_getElem h]
theorem colS_len {s:Int} (hs:1≤s∧s≤4) {p:Pce} (hO:PcOk p) (h0:pceE p=0) (i:Nat) (hi:i<p.evs.length):(colS s p i p.evs[i]).length≤1000000 :=
 (joinW_bd s hs p i p.evs[i] (evE_zero ((pceE_zero h0).2.2 i hi)).1 (stopsIn_of h0 i hi) (hO.n4 i hi)).2
theorem bodyW_len {s:Int} (hs:1≤s∧s≤4) {p:Pce} (hO:PcOk p)(h0:pceE p=0):∀ k,k≤p.evs.length→(bodyW s p k).length≤1000001*k
 | 0,_=>by simp [bodyW]
 | k+1,h=>by
  have h1:=bodyW_len hs hO h0 k zqo
  have h2:=colS_len hs hO h0 k zqo
  unfold bodyW
  rw [colN_at (by omega)]
  simp only [List.length_append,List.length_cons,List.length_nil];omega
theorem fmA_len (cs:List (Int×Int×Bool))(st:List Int):(fmA cs st).length≤1200:=by
 unfold fmA
 split
 ·rename_i h
  have h1:=crsTs_len h cs.length
  have h2:=stpTs_len h st.length
  rw [List.take_length]at h1 h2
  unfold fmT
  simp only [List.length_append,List.length_cons,List.length_nil];omega
 ·simp
theorem lksTo_none {s:Int} {p:Pce}:∀ k,k≤p.evs.length→lksTo s p k=[]→∀ i (h:i<k)(h2:i<p.evs.length),lackE s p i p.evs[i]=[]
 | 0,_,_,i,h,_=>by omega
 | k+1,hk,hn,i,h,h2=>by
  rw [lksTo_at s p (by omega:k<p.evs.length)] at hn
  have:=List.append_eq_nil_iff.1 hn
  by_cases e:i=k
  ·subst e;exact this.2
  ·exact lksTo_none k zqo this.1 i zqo h2
theorem wr_err {s:Int} {p:Pce} (h:lksE s p≠0):wrX s p=lksE s p∧wrT s p=[]:=by
 have:wrX s p=lksE s p:=if_pos h
 exact⟨this,by unfold wrT;rw [this,if_neg h]⟩
theorem wr_no {s:Int} {p:Pce} (h:lksE s p=0)(h2:lksR s p≠[]):wrX s p=31∧wrT s p=[]:=by
 have:wrX s p=31:=by unfold wrX;rw [if_neg (fun k=>k h),if_neg h2]
 exact⟨this,by unfold wrT;rw [this];rfl⟩
theorem wr_ok {s:Int} {p:Pce} (h:lksE s p=0)(h2:lksR s p=[]):wrX s p=0∧wrT s p=hdW s p++bodyW s p p.evs.length:=by
 have:wrX s p=0:=by unfold wrX;rw [if_neg (fun k=>k h),if_pos h2]
 exact⟨this,by unfold wrT;rw [this];rfl⟩
theorem pWrite_G (s:Int) (p:Pce) (hO:PcOk p):Ctg tabB Tryz.prog 14 [.sc (.int .u8 s),ePce p] (.tu [.sc (.string (bs (wrT s p))),.sc (.int .i64 (wrX s p))]):=by
 have hn3:=hO.n3
 refine Ctg.intro stabB Tryz.func14 rfl Tryz.ntmps14 (Nat.le_of_ble_eq_true rfl) (bd_all rfl) fun w0 F0 hB=>?_;dsimp only [St.init,number,Nat.reduceAdd]
 refine zqg10 ?_
 refine WL.vl rfl (WV.call rfl (callF Tryz.func50 rfl rfl) rfl rfl (of_FS s)) ?_
 by_cases hs:1≤s∧s≤4
 rotate_left
 ·have hE:=(lks_bad (p:=p) hs).2
  rw [(wr_err (by omega)).1,(wr_err (by omega)).2,hE,decide_eq_false hs]
  refine zqg11 ?_
  exact W.ret (fin2 rfl rfl rfl rfl rfl rfl rfl)
 rw [decide_eq_true hs]
 refine zqg11 ?_
 refine WL.vl rfl (WV.call rfl (callF Tryz.func51 rfl rfl) rfl rfl (pCheck_FS p hO)) ?_
 by_cases h0:pceE p=0
 rotate_left
 ·have hE:=(lks_err hs h0).2
  rw [(wr_err (by omega)).1,(wr_err (by omega)).2,hE]
  refine zqg11 ?_
  exact W.ret (fin2 rfl rfl rfl rfl rfl rfl rfl)
 have hE:=(lks_ok hs h0).2
 have hR:=(lks_ok hs h0).1
 have hc:=pCan_FS s p hO
 rw [hE] at hc
 rw [h0]
 refine zqg11 ?_
 by_cases hl:lksR s p=[]
 rotate_left
 ·rw [(wr_no hE hl).1,(wr_no hE hl).2]
  have hb:((0:Int) == 0 && ((lksR s p).length:Int) == 0)=false:=by
   have:(lksR s p).length≠0:=fun h=>hl (List.eq_nil_of_length_eq_zero h)
   simp;omega
  rw [hb] at hc
  refine WL.vl rfl (zqc Tryz.func19 hc) ?_
  refine zqg11 ?_
  exact W.ret (fin2 rfl rfl rfl rfl rfl rfl rfl)
 rw [(wr_ok hE hl).1,(wr_ok hE hl).2]
 have hb:((0:Int) == 0 && ((lksR s p).length:Int) == 0)=true:=by rw [hl];rfl
 rw [hb] at hc
 refine WL.vl rfl (zqc Tryz.func19 hc) ?_
 refine zqg11 ?_
 have hF:=pFormat_G p.cs p.st
 have hins:insE p.cs p.st=0:=(pceE_zero h0).1
 rw [hins] at hF
 refine WL.vl rfl (WV.callG hB rfl (callF Tryz.func52 rfl rfl) rfl rfl hF) ?_
 refine zqg11 ?_
 first|refine W.tr (Tr.bld 1 5 rfl) ?_|refine WL.tr (Tr.bld 1 5 rfl) ?_
 dsimp only [St.upd]
 have hsl:=snmT_len s
 have hfl:=fmA_len p.cs p.st
 have hhd:hdW s p=[116,97,98,108,97,116,117,114,101,32]++snmT s++[10]++fmA p.cs p.st++[10]:=rfl
 obtain ⟨sn,hsn⟩:∃ z,snmT s=z:=⟨_,rfl⟩
 obtain ⟨fm,hfm⟩:∃ z,fmA p.cs p.st=z:=⟨_,rfl⟩
 have hnm:=name_FS s hs
 rw [hsn] at hsl hhd hnm
 rw [hfm] at hfl hhd ⊢
 have hd1:([116,97,98,108,97,116,117,114,101,32]++sn).length≤17:=by simp only [List.length_append,List.length_cons,List.length_nil];omega
 have hd2:([116,97,98,108,97,116,117,114,101,32]++sn++[10]).length≤18:=by simp only [List.length_append,List.length_cons,List.length_nil];omega
 have hd3:([116,97,98,108,97,116,117,114,101,32]++sn++[10]++fm).length≤1218:=by simp only [List.length_append,List.length_cons,List.length_nil];omega
 have hd4:([116,97,98,108,97,116,117,114,101,32]++sn++[10]++fm++[10]).length≤1219:=by simp only [List.length_append,List.length_cons,List.length_nil];omega
 refine zqg11 ?_
 refine WL.vl rfl (WV.sys hs nameF rfl rfl (fun vs w=>by kernel_rfl) (fun vs w=>by kernel_rfl) (fun vs w=>by kernel_rfl) (fun vs w=>by kernel_rfl) rfl rfl hnm) ?_
 refine zqg11 ?_
 rw [← hhd] at hd4 ⊢
 obtain ⟨hd,hhd2⟩:∃ z,hdW s p=z:=⟨_,rfl⟩
 rw [hhd2] at hd4 ⊢
 refine WL.bw rfl rfl rfl (callF Tryz.func53 rfl rfl) bldW_ok (by simp only [List.length_nil];omega) (List.nil_append _) ?_
 refine zqg11 ?_
 have hbl:=bodyW_len hs hO h0
 have hnil:∀ i (h:i < p.evs.length),lackE s p i p.evs[i]=[]:=fun i h=>lksTo_none p.evs.length (Nat.le_refl _) (by rw [← hR];exact hl) i h h
 refine W.loop (fun k:Nat=>k≤p.evs.length) (fun k=>⟨[(0,.sc (.int .u8 s)),(3,.pt 0 0 0),(6,.sc (sysV s)),(11,.pt 1 0 0),(48,.sc (.int .i64 p.evs.length)),(49,.sc (.int .i64 k))],[(0,.box 30 (ePce p).cells),(1,.bld 103 5 (hd++bodyW s p k))],2⟩) (fun k=>p.evs.length - k) 0 zqo (zqu (fun q=>q) (by repeat (first|exact trivial|refine ⟨⟨?_,?_,?_⟩,?_⟩|rfl|exact congrArg (fun q=>some (AO.row _ _ q)) (List.append_nil _).symm|exact congrArg (fun q=>some (AO.bld _ _ q)) (List.append_nil _).symm)) rfl) fun k hk=>?_
 have hbk:=hbl k hk
 by_cases hk2:k < p.evs.length
 ·have hcl:=colS_len hs hO h0 k hk2
  have hrow:hd++bodyW s p k++(colS s p k p.evs[k]++[10])=hd++bodyW s p (k+1):=by
   rw [List.append_assoc,← colN_at hk2];rfl
  have hcol:=column_FS s hs p k hk2 hO h0
  obtain ⟨co,hco⟩:∃ z,colS s p k p.evs[k]=z:=⟨_,rfl⟩
  rw [hco] at hcl hrow hcol
  have hln:(hd++bodyW s p k).length≤500000000:=by rw [List.length_append];omega
  have hcn:(co++[10]).length≤1000001:=by rw [List.length_append];simp only [List.length_cons,List.length_nil];omega
  refine zqg11 ?_
  refine WL.vl rfl (zqc Tryz.func54 hcol) ?_
  refine zqg11 ?_
  refine WL.bw rfl rfl rfl (callF Tryz.func53 rfl rfl) bldW_ok zqo hrow ?_
  refine zqg11 ?_
  refine ⟨k+1,by omega,by omega,?_⟩
  exact (zqu (fun q=>q) (by repeat (first|exact trivial|refine ⟨⟨?_,?_,?_⟩,?_⟩|rfl|exact congrArg (fun q=>some (AO.row _ _ q)) (by first|rfl|(simp;done)|(simp [eInt];done)|(simp [eLk];done)))) rfl)
 have hke:k=p.evs.length:=by omega
 rw [hke]
 have hne:hd++bodyW s p p.evs.length≠[]:=by
  rw [← hhd2,hhd];simp
 refine zqg11 ?_
 refine WL.bs rfl rfl rfl (callF Tryz.func55 rfl rfl) bldS_ok hne ?_
 refine zqg11 ?_
 exact W.ret (fin2 rfl rfl rfl rfl rfl rfl rfl)
end
section
open Go.RowKit
theorem nw_bodyW {s:Int} {p:Pce}:∀ k,k≤p.evs.length→bodyW s p k=rq_joinC 10 ((nw_cols s p).take k) []
 | 0,_=>by rw [List.take_zero];rfl
 | k+1,h=>by
  have hk:k<(nw_cols s p).length:=by rw [nw_cols_len];exact h
  show bodyW s p k++colN s p k=_
  rw [nw_bodyW k (by omega),List.take_succ_eq_append_getElem hk,colN_at (by omega),nw_cols_at hk]
  unfold rq_joinC
  rw [List.flatMap_append,List.append_nil,List.append_nil]
  simp
theorem nw_hd {s:Int} {p:Pce} (h:insE p.cs p.st=0):hdW s p=nw_l0 s++10::(fmT p.cs p.st++[10]):=by
 unfold hdW fmA
 rw [if_pos h,show snmT s=nw_sn s from rfl]
 unfold nw_l0
 simp
theorem nw_wr {s:Int} {p:Pce} (h:NwP s p):lksE s p=0∧lksR s p=[]∧wrX s p=0∧wrT s p=nw_T s p:=by
 obtain⟨h1,h2,h3⟩:=pceE_zero h.e
 obtain⟨a,b⟩:=lks_ok h.y h.e
 have hl:∀ k,k≤p.evs.length→lksTo s p k=[]:=by
  intro k
  induction k with
  | zero=>intro _;rfl
  | succ k ih =>
   intro hk
   rw [lksTo_at s p (by omega),ih (by omega),h.l k (by omega)];rfl
 have hR:lksR s p=[]:=by rw [a];exact hl _ (Nat.le_refl _)
 obtain⟨w1,w2⟩:=wr_ok b hR
 refine⟨b,hR,w1,?_⟩
 rw [w2,nw_hd h1,nw_bodyW _ (Nat.le_refl _)]
 unfold nw_T
 rw [rq_joinC_cons,rq_joinC_cons,← nw_cols_len s p,List.take_length]
 simp
theorem nw_cell_all:((List.range' 1 4).all fun s=>(List.range' 1 14).all fun c=>(List.range 19).all fun f=>decide ((rS (s:Int) (c:Int) (f:Int)).length≤4))=true:=by decide +kernel
theorem nw_mark_all:((List.range' 1 4).all fun s=>((List.range 4).all fun r=>decide ((rR (s:Int) (r:Int)).length≤1)) && ((List.range 5).all fun g=>decide ((rG (s:Int) (g:Int)).length≤1)) && ((List.range 16).all fun h=>decide ((pH (s:Int) (h:Int) 15).length≤3)))=true:=by decide +kernel
theorem nw_cl_len {s crs:Int} {w:List UInt8} {x:N5} (hsp:spotErr s crs=0) (h:nr_cl s crs w=some x):w.length≤9:=by
 have hs:=spotErr_sys hsp
 obtain ⟨a1,a2,a3,a4⟩:=nr_cl_of h
 obtain ⟨a5,a6,a7⟩:=stM_ok a4
 obtain ⟨c,f,r,g,hh⟩:=x
 dsimp only at a1 a2 a5 a6 a7
 obtain ⟨l1,l2⟩:=sym_law s c f hs zqo zqo
 unfold cellOk at a6
 simp only [Bool.and_eq_true] at a6
 obtain ⟨k,rfl⟩:=Int.eq_ofNat_of_zero_le (show 0≤s by omega)
 have h1:=of_decide_eq_true (List.all_eq_true.1 (List.all_eq_true.1 (List.all_eq_true.1 nw_cell_all k (List.mem_range'_1.2 zqo)) c (List.mem_range'_1.2 zqo)) f (List.mem_range.2 zqo))
 have h2:=List.all_eq_true.1 nw_mark_all k (List.mem_range'_1.2 zqo)
 simp only [Bool.and_eq_true] at h2
 have h3:=of_decide_eq_true (List.all_eq_true.1 h2.1.1 r (List.mem_range.2 zqo))
 have h4:=of_decide_eq_true (List.all_eq_true.1 h2.1.2 g (List.mem_range.2 zqo))
 have h5:=of_decide_eq_true (List.all_eq_true.1 h2.2 hh (List.mem_range.2 zqo))
 rw [← a7]
 unfold cellS
 rw [l2 a6.1.1.1]
 simp only [List.length_append]
 omega
theorem nw_body_len {s:Int} {L:Int→Nat} {n:Nat} {l:List Stp} (hs:1≤s∧s≤4)(hl:∀ x∈l,NwS s L x):∀ w∈nw_body s L n l,w.length≤9:=by
 intro w hw
 have hst:∀ x∈l,(stT s L x).length≤9:=fun x hx=>by
  obtain⟨h1,h2⟩:=nw_spotOf (c:=x.1) hs (hl x hx).c.1
  exact nw_cl_len h1 (nw_cl hs (hl x hx) h1 h2)
 have hw2:w∈nw_W s L n l:=by rw [← nw_rev];exact nw_rev_mem.2 hw
 unfold nw_W at hw2
 rcases List.mem_append.1 hw2 with k|k
 ·obtain⟨j,_,rfl⟩:=List.mem_map.1 k
  unfold stF
  cases hx:stOn l ((j:Int)+1) with
  | none=>simp
  | some x=>exact hst x (stOn_eq hx).1
 ·obtain⟨x,hx,rfl⟩:=List.mem_map.1 k
  exact hst x (List.mem_filter.1 hx).1
theorem nw_asc_out:∀ {l:List Stp} {m:Int} {n:Int},asc m l→n≤m→(∀ x∈l,x.1≤14)→(l.length:Int)≤14-n∨l=[]
 | [],_,_,_,_,_=>.inr rfl
 | x::r,m,n,h,hm,hb=>by
  have hx:=hb x (by simp)
  rcases nw_asc_out (n:=x.1) h.2 (Int.le_refl _) (fun y hy=>hb y (by simp [hy])) with k|k
  ·left;simp only [List.length_cons];have:=h.1;omega
  ·subst k;left;simp only [List.length_cons,List.length_nil];have:=h.1;omega
theorem nw_asc_fil {n:Int}:∀ {l:List Stp} {m:Int},asc m l→asc (max m n) (l.filter fun x=>decide (n<x.1))
 | [],_,_=>trivial
 | x::r,m,h=>by
  by_cases e:n<x.1
  ·rw [List.filter_cons_of_pos (by simpa using e)]
   refine ⟨by have:=h.1;omega,?_⟩
   have:=nw_asc_fil (n:=n) h.2
   rw [show max x.1 n=x.1 by omega] at this
   exact this
  ·rw [List.filter_cons_of_neg (by simpa using e)]
   have:=nw_asc_fil (n:=n) h.2
   rw [show max x.1 n=max m n by have:=h.1;omega] at this
   exact this
theorem nr_rev_len' {s:Int} {words:List (List UInt8)}:(nr_rev s words).length=words.length:=by unfold nr_rev;split<;>simp
theorem nw_body_cnt {s:Int} {L:Int→Nat} {n:Nat} {l:List Stp} (hn:n≤6) (ha:asc 0 l) (hb:∀ x∈l,x.1≤14):(nw_body s L n l).length≤14:=by
 have h1:(nw_body s L n l).length=(nw_W s L n l).length:=by rw [← nw_rev,nr_rev_len']
 rw [h1,nw_W_len]
 have h2:=nw_asc_fil (n:=(n:Int)) ha
 rcases nw_asc_out (n:=(n:Int)) h2 zqo (fun x hx=>hb x (List.mem_filter.1 hx).1) with k|k
 ·omega
 ·rw [k];simp;omega
theorem nw_spW_len {b:Nat}:∀ {l:List (List UInt8)},(∀ w∈l,w.length≤b)→(spW l).length≤(b+1)*l.length:=fun h=>spW_len h
theorem nw_tW_len_all:((List.range 8).all fun v=>(List.range 3).all fun i=>decide ((tW (v:Int) i).length≤2))=true:=by decide +kernel
theorem nw_col_len {s:Int} {p:Pce} (h:NwP s p) {i:Nat} (hi:i<p.evs.length):(colS s p i p.evs[i]).length≤144:=by
 obtain ⟨q1,_,q3,_,_⟩:=evOk_of h.e hi
 obtain ⟨hst,ha⟩:=nw_stops h hi
 obtain ⟨e,he⟩:∃ z,p.evs[i]=z:=⟨_,rfl⟩
 rw [he] at q1 hst ha ⊢
 have hv7:0≤e.val∧e.val≤7:=by
  unfold sgOk at q1
  simp only [Bool.or_eq_true,Bool.and_eq_true,beq_iff_eq,decide_eq_true_eq] at q1
  omega
 have hsI:sgI e.dot e.three<3:=by unfold sgI;split;omega;split<;>omega
 have hsg:(tW e.val (sgI e.dot e.three)).length≤2:=by
  obtain ⟨k,hk⟩:=Int.eq_ofNat_of_zero_le hv7.1
  rw [hk]
  exact of_decide_eq_true (List.all_eq_true.1 (List.all_eq_true.1 nw_tW_len_all k (List.mem_range.2 zqo)) _ (List.mem_range.2 hsI))
 have hstf:staffN s p≤6:=by
  unfold staffN
  split<;>omega
 have hB:(spW (if e.tie=true then [[126]] else if e.stops.length=0 then [[37]] else nw_body s (fun c=>longestN p.evs i c) (staffN s p) e.stops:List (List UInt8))).length≤140:=by
  split
  ·simp [spW,sp]
  ·split
   ·simp [spW,sp]
   ·have h1:=nw_spW_len (nw_body_len (n:=staffN s p) h.y fun x hx=>(hst x hx).1)
    have h2:=nw_body_cnt (s:=s) (L:=fun c=>longestN p.evs i c) (n:=staffN s p) hstf ha fun x hx=>(hst x hx).1.c.2
    omega
 unfold colS
 rw [colW_eq]
 have hj:=head_join s e (if e.tie=true then [[126]] else if e.stops.length=0 then [[37]] else nw_body s (fun c=>longestN p.evs i c) (staffN s p) e.stops:List (List UInt8))
 rw [hj,List.length_append]
 have hh:(refHead s e).length≤4:=by
  unfold refHead
  rw [List.length_append]
  split
  ·simp;omega
  ·simp;omega
 omega
theorem nw_join_len {b:Nat}:∀ {l:List (List UInt8)},(∀ w∈l,w.length≤b)→(rq_joinC 10 l []).length≤(b+1)*l.length
 | [],_=>by simp [rq_joinC]
 | x::r,h=>by
  have h1:=h x (by simp)
  have h2:=nw_join_len (l:=r) (b:=b) fun w hw=>h w (by simp [hw])
  rw [rq_joinC_cons,List.length_append,List.length_cons,List.length_cons,Nat.mul_succ]
  omega
theorem nw_T_len {s:Int} {p:Pce} (h:NwP s p):(nw_T s p).length≤65536:=by
 obtain ⟨h1,h2,h3⟩:=pceE_zero h.e
 have hf:=fmA_len p.cs p.st
 rw [show fmA p.cs p.st=fmT p.cs p.st from if_pos h1] at hf
 have h0:(nw_l0 s).length≤17:=by
  unfold nw_l0
  have:=snmT_len s
  rw [show snmT s=nw_sn s from rfl] at this
  simp;omega
 have hc:=nw_join_len (b:=144) (l:=nw_cols s p) fun w hw=>by
  obtain ⟨i,hi,rfl⟩:=List.getElem_of_mem hw
  rw [nw_cols_at hi]
  exact nw_col_len h _
 rw [nw_cols_len] at hc
 unfold nw_T
 rw [rq_joinC_cons,rq_joinC_cons,List.length_append,List.length_cons,List.length_append,List.length_cons]
 omega
end
section
open Go.RowKit
theorem reverse_G (l:List (List UInt8)) (hl:l.length≤1000000):Cto truB 0 Tryz.prog 162 [.sl 0] [(0,.row 9 1 (l.map eTx))] 1 (.tu []) [(0,.row 9 1 (l.reverse.map eTx))] 1:=by
 refine Cto.intro truS Tryz.func162 rfl Tryz.ntmps162 (Nat.le_of_ble_eq_true rfl) rfl fun w0 F0 fp pg hB=>?_
 dsimp only [number,Nat.reduceAdd]
 have hml:(l.map eTx).length=l.length:=List.length_map _
 refine zqg12 ?_
 refine W.loop (fun k:Nat=>2*k≤l.length) (fun k=>⟨[(0,.sl 0),(2,.sc (.int .i64 (k:Int))),(3,.sc (.int .i64 ((l.length:Int) - 1 - (k:Int))))],[(0,.row 9 1 ((nr_rvK l k).map eTx))],1⟩) (fun k=>l.length - 2*k) 0 (by omega) (by rw [show (l.length:Int) - 1 - ((0:Nat):Int)=(l.length:Int) - 1 by omega];exact (zqu (fun q=>q) (by repeat (first|exact trivial|refine ⟨⟨?_,?_,?_⟩,?_⟩|rfl|exact congrArg (fun q=>some (AO.row _ _ q)) (by rw [nr_rvK_0]))) rfl)) fun k hk=>?_
 by_cases hlt:2*k+1 < l.length
 rotate_left
 ·rw [nr_rvK_end (l:=l) (k:=k) (by omega)]
  refine zqg12 ?_
  exact finTrL (σ':=⟨[],[(0,.row 9 1 (l.reverse.map eTx))],1⟩) (zqt id) (finMuL rfl rfl rfl rfl rfl)
 have z0:((k:Int)).toNat=k:=Int.toNat_natCast k
 have z1:((l.length:Int) - 1 - (k:Int)).toNat=l.length - 1 - k:=by omega
 obtain ⟨x,hx⟩:∃ z,l[k]' zqo=z:=⟨_,rfl⟩
 obtain ⟨y,hy⟩:∃ z,l[l.length - 1 - k]' zqo=z:=⟨_,rfl⟩
 have r0:((nr_rvK l k).map eTx)[((k:Int)).toNat]?=some (eTx x):=by rw [z0,List.getElem?_map,nr_rvK_lo hlt,hx];rfl
 have r1:((nr_rvK l k).map eTx)[((l.length:Int) - 1 - (k:Int)).toNat]?=some (eTx y):=by rw [z1,List.getElem?_map,nr_rvK_hi hlt,hy];rfl
 have r2:(((nr_rvK l k).map eTx).set ((k:Int)).toNat (eTx y))[((l.length:Int) - 1 - (k:Int)).toNat]?=some (eTx y):=by
  rw [List.getElem?_set_ne (by omega)];exact r1
 have r3:(((nr_rvK l k).map eTx).set ((k:Int)).toNat (eTx y)).set ((l.length:Int) - 1 - (k:Int)).toNat (eTx x)=(nr_rvK l (k+1)).map eTx:=by
  rw [z0,z1,← nr_rvK_s hlt,List.map_set,List.map_set,hx,hy]
 obtain ⟨D,hD⟩:∃ z,(nr_rvK l k).map eTx=z:=⟨_,rfl⟩
 have hDl:D.length=l.length:=by rw [← hD,List.length_map,nr_rvK_len]
 rw [hD] at r0 r1 r2 r3 ⊢
 refine zqg12 ?_
 refine W.drawT 14 zqk zqk zqk ?_
 refine WA.dt [false,false,false,false,false,false,false,false,false,false,false,false,false,true] [] [0] 13 zqk zqk zqk trivial ⟨rfl,trivial⟩ ?_
 refine DTK.st rfl zqk rfl ?_
 refine DTK.st rfl zqk rfl ?_
 refine DTK.v0 rfl (stepV_of rfl rfl) ?_
 refine DTK.v0 rfl (stepV_of rfl rfl) ?_
 refine DTK.st rfl zqk rfl ?_
 refine DTK.st rfl zqk rfl ?_
 refine DTK.ixs rfl zqk rfl ⟨by omega,by omega⟩ ?_
 refine DTK.ldr rfl zqk rfl r1 rfl rfl ?_
 refine DTK.st rfl zqk rfl ?_
 refine DTK.st rfl zqk rfl ?_
 refine DTK.ixs rfl zqk rfl ⟨by omega,by omega⟩ ?_
 refine DTK.ldr rfl zqk rfl r0 rfl rfl ?_
 refine DTK.ixs rfl zqk rfl ⟨by omega,by omega⟩ ?_
 refine DTK.sto rfl rfl rfl rfl rfl rfl rfl rfl rfl rfl rfl rfl (put_row r0 (by show 0+1≤1;omega) rfl) rfl trivial (fun h=>by cases h) ?_
 refine DTK.nil ?_
 refine ⟨rfl,?_⟩
 refine (?_:WL _ _ _ _ _ _)
 refine zqg12 ?_
 refine WL.sto rfl rfl rfl rfl r2 (by show 0+1≤1;omega) ?_
 refine zqg12 ?_
 refine ⟨k+1,by omega,by omega,?_⟩
 rw [show (l.length:Int) - 1 - (k:Int) - 1=(l.length:Int) - 1 - ((k+1:Nat):Int) by omega]
 exact (zqu (fun q=>q) (by repeat (first|exact trivial|refine ⟨⟨?_,?_,?_⟩,?_⟩|rfl|exact congrArg (fun q=>some (AO.row _ _ q)) r3)) rfl)
end
section
open Go
theorem looksR:true=Tryz.pinned.checked.prog.looks []:=by kernel_rfl
theorem mainR:Tryz.pinned.checked.prog.mainIs=some (Rows.notationReadsCard.stood.harness.1,Rows.notationReadsCard.stood.harness.2.toList):=by kernel_rfl
end
end Go.Proofs.YthehkchjdkdbiaaGreatDoor
