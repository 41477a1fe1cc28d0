/- notation.Column, without its law. -/
import Derived.Test.YtgelfflighgajaaGreatDoorSrSq
import Derived.Test.YtgelfflighgajaaGreatDoorCoSSq
import Derived.Test.YtgelfflighgajaaGreatDoorEJSq
set_option linter.unusedVariables false
set_option linter.unusedSimpArgs false
namespace Go.Proofs.YtgelfflighgajaaGreatDoor
open Go.RowKit
set_option maxRecDepth 100000
set_option maxHeartbeats 4000000
def snmT (s:Int):List UInt8:=if s=1 then [102,114,101,110,99,104] else if s=2 then [105,116,97,108,105,97,110] else if s=3 then [115,112,97,110,105,115,104] else [103,101,114,109,97,110]
def nameF (s:Int):FuncId:=if s=1 then 277 else if s=2 then 287 else if s=3 then 295 else 302
theorem snmT_len (s:Int):(snmT s).length≤7:=by unfold snmT;split<;>(try split)<;>(try split)<;>simp
theorem name_FS (s:Int) (hs:1≤s∧s≤4):Ctr Tryz.prog (nameF s) [.ag []] (.sc (.string (bs (snmT s)))):=by
 rcases sys_cases hs with rfl|rfl|rfl|rfl
 ·show Ctr Tryz.prog 277 _ _
  refine Ctr.intro Tryz.func277 rfl Tryz.ntmps277 (Nat.le_of_ble_eq_true rfl) (bd_all rfl) fun w0 F0=>?_;dsimp only [St.init,number,Nat.reduceAdd]
  repeat refine W.go rfl ?_
  refine (?_:W _ _ _ _ _)
  dsimp only [St.put,Nat.reduceAdd]
  exact W.ret (fin1 rfl rfl rfl rfl)
 ·show Ctr Tryz.prog 287 _ _
  refine Ctr.intro Tryz.func287 rfl Tryz.ntmps287 (Nat.le_of_ble_eq_true rfl) (bd_all rfl) fun w0 F0=>?_;dsimp only [St.init,number,Nat.reduceAdd]
  repeat refine W.go rfl ?_
  refine (?_:W _ _ _ _ _)
  dsimp only [St.put,Nat.reduceAdd]
  exact W.ret (fin1 rfl rfl rfl rfl)
 ·show Ctr Tryz.prog 295 _ _
  refine Ctr.intro Tryz.func295 rfl Tryz.ntmps295 (Nat.le_of_ble_eq_true rfl) (bd_all rfl) fun w0 F0=>?_;dsimp only [St.init,number,Nat.reduceAdd]
  repeat refine W.go rfl ?_
  refine (?_:W _ _ _ _ _)
  dsimp only [St.put,Nat.reduceAdd]
  exact W.ret (fin1 rfl rfl rfl rfl)
 ·show Ctr Tryz.prog 302 _ _
  refine Ctr.intro Tryz.func302 rfl Tryz.ntmps302 (Nat.le_of_ble_eq_true rfl) (bd_all rfl) fun w0 F0=>?_;dsimp only [St.init,number,Nat.reduceAdd]
  repeat refine W.go rfl ?_
  refine (?_:W _ _ _ _ _)
  dsimp only [St.put,Nat.reduceAdd]
  exact W.ret (fin1 rfl rfl rfl rfl)
theorem names_FS:Ctr Tryz.prog 186 [] (.ls 1 (([[],snmT 1,snmT 2,snmT 3,snmT 4]:List (List UInt8)).map eStr)):=by
 refine Ctr.intro Tryz.func186 rfl Tryz.ntmps186 (Nat.le_of_ble_eq_true rfl) (bd_all rfl) fun w0 F0=>?_;dsimp only [St.init,number,Nat.reduceAdd]
 repeat refine W.go rfl ?_
 refine (?_:W _ _ _ _ _)
 dsimp only [St.put,Nat.reduceAdd]
 refine W.tr (Tr.freeze 0 rfl) ?_
 exact W.ret (fin1 rfl rfl rfl rfl)
theorem rSysName_FS (s:Int) (hs:1≤s∧s≤4):Ctr Tryz.prog 129 [.sc (.int .u8 s)] (.tu [.sc (.string (bs (snmT s))),.sc (.int .i64 0)]):=by
 have hK:=known_FS s
 rw [decide_eq_true hs] at hK
 rcases sys_cases hs with rfl|rfl|rfl|rfl
 all_goals
  refine Ctr.intro Tryz.func129 rfl Tryz.ntmps129 (Nat.le_of_ble_eq_true rfl) (bd_all rfl) fun w0 F0=>?_;dsimp only [St.init,number,Nat.reduceAdd]
  repeat refine W.go rfl ?_
  refine (?_:WL _ _ _ _ _ _)
  dsimp only [St.put,Nat.reduceAdd]
  refine WL.vl rfl (WV.call rfl (callF Tryz.func75 rfl rfl) rfl rfl hK) ?_
  repeat (first|refine W.go rfl ?_|refine WL.ev rfl ?_|refine W.condF rfl ?_)
  refine (?_:WL _ _ _ _ _ _)
  dsimp only [St.put,Nat.reduceAdd]
  refine WL.vl rfl (WV.call rfl (callF Tryz.func186 rfl rfl) rfl rfl names_FS) ?_
  repeat refine WL.ev rfl ?_
  refine (?_:WL _ _ _ _ _ _)
  dsimp only [St.put,Nat.reduceAdd]
  refine WL.idx rfl rfl (by omega) rfl ?_
  repeat refine WL.ev rfl ?_
  refine (?_:W _ _ _ _ _)
  dsimp only [St.put,Nat.reduceAdd]
  exact W.ret (fin2 rfl rfl rfl rfl rfl rfl rfl)
/-! The text of a piece. -/
def hdW (s:Int) (p:Pce):List UInt8:=[116,97,98,108,97,116,117,114,101,32]++snmT s++[10]++fmA p.cs p.st++[10]
def colN (s:Int) (p:Pce) (i:Nat):List UInt8:=(match p.evs[i]? with
 | some e=>colS s p i e
 | none=>[])++[10]
def bodyW (s:Int) (p:Pce):Nat→List UInt8
 | 0=>[]
 | k+1=>bodyW s p k++colN s p k
def wrX (s:Int) (p:Pce):Int:=if lksE s p≠0 then lksE s p else if lksR s p=[] then 0 else 31
def wrT (s:Int) (p:Pce):List UInt8:=if wrX s p=0 then hdW s p++bodyW s p p.evs.length else []
theorem colN_at {s:Int} {p:Pce} {i:Nat} (h:i<p.evs.length):colN s p i=colS s p i p.evs[i]++[10]:=by unfold colN;rw [List.getElem?_eq_getElem h]
theorem colS_len {s:Int} (hs:1≤s∧s≤4) {p:Pce} (hO:PcOk p) (h0:pceE p=0) (i:Nat) (hi:i<p.evs.length):(colS s p i p.evs[i]).length≤1000000 :=
 (joinW_bd s hs p i p.evs[i] (evE_zero ((pceE_zero h0).2.2 i hi)).1 (stopsIn_of h0 i hi) (hO.n4 i hi)).2
theorem bodyW_len {s:Int} (hs:1≤s∧s≤4) {p:Pce} (hO:PcOk p) (h0:pceE p=0):∀ k,k≤p.evs.length→(bodyW s p k).length≤1000001*k
 | 0,_=>by simp [bodyW]
 | k+1,h=>by
  have h1:=bodyW_len hs hO h0 k (by omega)
  have h2:=colS_len hs hO h0 k (by omega)
  unfold bodyW
  rw [colN_at (by omega)]
  simp only [List.length_append,List.length_cons,List.length_nil];omega
theorem fmA_len (cs:List (Int×Int×Bool)) (st:List Int):(fmA cs st).length≤1200:=by
 unfold fmA
 split
 ·rename_i h
  have h1:=crsTs_len h cs.length
  have h2:=stpTs_len h st.length
  rw [List.take_length] at h1 h2
  unfold fmT
  simp only [List.length_append,List.length_cons,List.length_nil];omega
 ·simp
theorem lksTo_none {s:Int} {p:Pce}:∀ k,k≤p.evs.length→lksTo s p k=[]→∀ i (h:i<k) (h2:i<p.evs.length),lackE s p i p.evs[i]=[]
 | 0,_,_,i,h,_=>by omega
 | k+1,hk,hn,i,h,h2=>by
  rw [lksTo_at s p (by omega:k<p.evs.length)] at hn
  have:=List.append_eq_nil_iff.1 hn
  by_cases e:i=k
  ·subst e;exact this.2
  ·exact lksTo_none k (by omega) this.1 i (by omega) h2
theorem wr_err {s:Int} {p:Pce} (h:lksE s p≠0):wrX s p=lksE s p∧wrT s p=[]:=by
 have:wrX s p=lksE s p:=if_pos h
 exact ⟨this,by unfold wrT;rw [this,if_neg h]⟩
theorem wr_no {s:Int} {p:Pce} (h:lksE s p=0) (h2:lksR s p≠[]):wrX s p=31∧wrT s p=[]:=by
 have:wrX s p=31:=by unfold wrX;rw [if_neg (fun k=>k h),if_neg h2]
 exact ⟨this,by unfold wrT;rw [this];rfl⟩
theorem wr_ok {s:Int} {p:Pce} (h:lksE s p=0) (h2:lksR s p=[]):wrX s p=0∧wrT s p=hdW s p++bodyW s p p.evs.length:=by
 have:wrX s p=0:=by unfold wrX;rw [if_neg (fun k=>k h),if_pos h2]
 exact ⟨this,by unfold wrT;rw [this];rfl⟩
theorem pWrite_G (s:Int) (p:Pce) (hO:PcOk p):Ctg tabB Tryz.prog 57 [.sc (.int .u8 s),ePce p] (.tu [.sc (.string (bs (wrT s p))),.sc (.int .i64 (wrX s p))]):=by
 have hn3:=hO.n3
 refine Ctg.intro stabB Tryz.func57 rfl Tryz.ntmps57 (Nat.le_of_ble_eq_true rfl) (bd_all rfl) fun w0 F0 hB=>?_;dsimp only [St.init,number,Nat.reduceAdd]
 repeat refine W.go rfl ?_
 refine (?_:WL _ _ _ _ _ _)
 dsimp only [St.put,Nat.reduceAdd]
 refine WL.vl rfl (WV.call rfl (callF Tryz.func122 rfl rfl) rfl rfl (of_FS s)) ?_
 by_cases hs:1≤s∧s≤4
 rotate_left
 ·have hE:=(lks_bad (p:=p) hs).2
  rw [(wr_err (by omega)).1,(wr_err (by omega)).2,hE,decide_eq_false hs]
  repeat (first|refine W.gob rfl ?_|refine WL.nil ?_|refine WL.e1 rfl ?_|refine W.condT rfl ?_)
  refine (?_:W _ _ _ _ _)
  dsimp only [St.put,Nat.reduceAdd]
  exact W.ret (fin2 rfl rfl rfl rfl rfl rfl rfl)
 rw [decide_eq_true hs]
 repeat (first|refine W.gob rfl ?_|refine WL.nil ?_|refine WL.e1 rfl ?_|refine W.condF rfl ?_)
 refine (?_:WL _ _ _ _ _ _)
 dsimp only [St.put,Nat.reduceAdd]
 refine WL.vl rfl (WV.call rfl (callF Tryz.func52 rfl rfl) rfl rfl (pCheck_FS p hO)) ?_
 by_cases h0:pceE p=0
 rotate_left
 ·have hE:=(lks_err hs h0).2
  rw [(wr_err (by omega)).1,(wr_err (by omega)).2,hE]
  repeat (first|refine W.gob rfl ?_|refine WL.nil ?_|refine WL.nt rfl rfl rfl (by omega) ?_|refine WL.e1 rfl ?_|refine W.condT rfl ?_)
  refine (?_:W _ _ _ _ _)
  dsimp only [St.put,Nat.reduceAdd]
  exact W.ret (fin2 rfl rfl rfl rfl rfl rfl rfl)
 have hE:=(lks_ok hs h0).2
 have hR:=(lks_ok hs h0).1
 have hc:=pCan_FS s p hO
 rw [hE] at hc
 rw [h0]
 repeat (first|refine W.gob rfl ?_|refine WL.nil ?_|refine WL.nf rfl rfl rfl (by omega) ?_|refine WL.e1 rfl ?_|refine W.condF rfl ?_)
 refine (?_:WL _ _ _ _ _ _)
 dsimp only [St.put,Nat.reduceAdd]
 by_cases hl:lksR s p=[]
 rotate_left
 ·rw [(wr_no hE hl).1,(wr_no hE hl).2]
  have hb:((0:Int) == 0 && ((lksR s p).length:Int) == 0)=false:=by
   have:(lksR s p).length≠0:=fun h=>hl (List.eq_nil_of_length_eq_zero h)
   simp;omega
  rw [hb] at hc
  refine WL.vl rfl (WV.call rfl (callF Tryz.func70 rfl rfl) rfl rfl hc) ?_
  repeat (first|refine W.gob rfl ?_|refine WL.nil ?_|refine WL.e1 rfl ?_|refine W.condT rfl ?_)
  refine (?_:W _ _ _ _ _)
  dsimp only [St.put,Nat.reduceAdd]
  exact W.ret (fin2 rfl rfl rfl rfl rfl rfl rfl)
 rw [(wr_ok hE hl).1,(wr_ok hE hl).2]
 have hb:((0:Int) == 0 && ((lksR s p).length:Int) == 0)=true:=by rw [hl];rfl
 rw [hb] at hc
 refine WL.vl rfl (WV.call rfl (callF Tryz.func70 rfl rfl) rfl rfl hc) ?_
 repeat (first|refine W.gob rfl ?_|refine WL.nil ?_|refine WL.e1 rfl ?_|refine W.condF rfl ?_)
 refine (?_:WL _ _ _ _ _ _)
 dsimp only [St.put,Nat.reduceAdd]
 have hF:=pFormat_G p.cs p.st
 have hins:insE p.cs p.st=0:=(pceE_zero h0).1
 rw [hins] at hF
 refine WL.vl rfl (WV.callG hB rfl (callF Tryz.func123 rfl rfl) rfl rfl hF) ?_
 repeat (first|refine W.gob rfl ?_|refine WL.nil ?_|refine WL.nf rfl rfl rfl (by omega) ?_|refine WL.e1 rfl ?_|refine W.condF rfl ?_)
 refine (?_:WL _ _ _ _ _ _)
 dsimp only [St.put,Nat.reduceAdd]
 first|refine W.tr (Tr.bld 1 5 rfl) ?_|refine WL.tr (Tr.bld 1 5 rfl) ?_
 dsimp only [St.upd]
 have hsl:=snmT_len s
 have hfl:=fmA_len p.cs p.st
 have hhd:hdW s p=[116,97,98,108,97,116,117,114,101,32]++snmT s++[10]++fmA p.cs p.st++[10]:=rfl
 obtain ⟨sn,hsn⟩:∃ z,snmT s=z:=⟨_,rfl⟩
 obtain ⟨fm,hfm⟩:∃ z,fmA p.cs p.st=z:=⟨_,rfl⟩
 have hnm:=name_FS s hs
 rw [hsn] at hsl hhd hnm
 rw [hfm] at hfl hhd ⊢
 have hd1:([116,97,98,108,97,116,117,114,101,32]++sn).length≤17:=by simp only [List.length_append,List.length_cons,List.length_nil];omega
 have hd2:([116,97,98,108,97,116,117,114,101,32]++sn++[10]).length≤18:=by simp only [List.length_append,List.length_cons,List.length_nil];omega
 have hd3:([116,97,98,108,97,116,117,114,101,32]++sn++[10]++fm).length≤1218:=by simp only [List.length_append,List.length_cons,List.length_nil];omega
 have hd4:([116,97,98,108,97,116,117,114,101,32]++sn++[10]++fm++[10]).length≤1219:=by simp only [List.length_append,List.length_cons,List.length_nil];omega
 refine (?_:WL _ _ _ _ _ _)
 refine WL.vl rfl (WV.sys hs nameF rfl rfl (fun vs w=>by kernel_rfl) (fun vs w=>by kernel_rfl) (fun vs w=>by kernel_rfl) (fun vs w=>by kernel_rfl) rfl rfl hnm) ?_
 repeat (first|refine WL.e1 rfl ?_|refine WL.cat rfl rfl (by first|omega|(simp;done)|(simp;omega)) ?_)
 refine (?_:WL _ _ _ _ _ _)
 dsimp only [St.put,Nat.reduceAdd]
 rw [← hhd] at hd4 ⊢
 obtain ⟨hd,hhd2⟩:∃ z,hdW s p=z:=⟨_,rfl⟩
 rw [hhd2] at hd4 ⊢
 refine WL.bw rfl rfl rfl (callF Tryz.func58 rfl rfl) bldW_ok (by simp only [List.length_nil];omega) (List.nil_append _) ?_
 repeat (first|refine W.gob rfl ?_|refine WL.nil ?_|refine WL.e1 rfl ?_|refine WL.len rfl rfl (by first|exact List.length_map _|exact List.length_replicate|rfl) ?_)
 refine (?_:W _ _ _ _ _)
 dsimp only [St.put,Nat.reduceAdd]
 have hbl:=bodyW_len hs hO h0
 have hnil:∀ i (h:i < p.evs.length),lackE s p i p.evs[i]=[]:=fun i h=>lksTo_none p.evs.length (Nat.le_refl _) (by rw [← hR];exact hl) i h h
 refine W.loop (fun k:Nat=>k≤p.evs.length) (fun k=>⟨[(0,.sc (.int .u8 s)),(3,.pt 0 0 0),(6,.sc (sysV s)),(11,.pt 1 0 0),(48,.sc (.int .i64 p.evs.length)),(49,.sc (.int .i64 k))],[(0,.box 28 (ePce p).cells),(1,.bld 109 5 (hd++bodyW s p k))],2⟩) (fun k=>p.evs.length - k) 0 (by omega) (Tr.ren (fun q=>q) (by repeat (first|exact trivial|refine ⟨⟨?_,?_⟩,?_⟩|rfl)) (by repeat (first|exact trivial|refine ⟨⟨?_,?_,?_⟩,?_⟩|rfl|exact congrArg (fun q=>some (AO.row _ _ q)) (List.append_nil _).symm|exact congrArg (fun q=>some (AO.bld _ _ q)) (List.append_nil _).symm)) rfl) fun k hk=>?_
 have hbk:=hbl k hk
 by_cases hk2:k < p.evs.length
 ·have hcl:=colS_len hs hO h0 k hk2
  have hrow:hd++bodyW s p k++(colS s p k p.evs[k]++[10])=hd++bodyW s p (k+1):=by
   rw [List.append_assoc,← colN_at hk2];rfl
  have hcol:=column_FS s hs p k hk2 hO h0
  obtain ⟨co,hco⟩:∃ z,colS s p k p.evs[k]=z:=⟨_,rfl⟩
  rw [hco] at hcl hrow hcol
  have hln:(hd++bodyW s p k).length≤500000000:=by rw [List.length_append];omega
  have hcn:(co++[10]).length≤1000001:=by rw [List.length_append];simp only [List.length_cons,List.length_nil];omega
  repeat (first|refine W.gob rfl ?_|refine WL.nil ?_|refine WL.bt rfl rfl rfl (by omega) ?_|refine WL.e1 rfl ?_|refine W.condT rfl ?_)
  refine (?_:WL _ _ _ _ _ _)
  dsimp only [St.put,Nat.reduceAdd]
  refine WL.vl rfl (WV.call rfl (callF Tryz.func124 rfl rfl) rfl rfl hcol) ?_
  repeat refine WL.cat rfl rfl (by first|omega|(simp;done)|(simp;omega)) ?_
  refine (?_:WL _ _ _ _ _ _)
  dsimp only [St.put,Nat.reduceAdd]
  refine WL.bw rfl rfl rfl (callF Tryz.func58 rfl rfl) bldW_ok (by omega) hrow ?_
  repeat (first|refine W.gob rfl ?_|refine WL.nil ?_|refine WL.e1 rfl ?_|refine WL.ar rfl rfl (by unfold I64;omega) ?_)
  dsimp only [St.put,Nat.reduceAdd]
  refine ⟨k+1,by omega,by omega,?_⟩
  exact (Tr.ren (fun q=>q) (by repeat (first|exact trivial|refine ⟨⟨?_,?_⟩,?_⟩|rfl)) (by repeat (first|exact trivial|refine ⟨⟨?_,?_,?_⟩,?_⟩|rfl|exact congrArg (fun q=>some (AO.row _ _ q)) (by first|rfl|(simp;done)|(simp [eInt];done)|(simp [eLk];done)))) rfl)
 have hke:k=p.evs.length:=by omega
 rw [hke]
 have hne:hd++bodyW s p p.evs.length≠[]:=by
  rw [← hhd2,hhd];simp
 repeat (first|refine W.gob rfl ?_|refine WL.nil ?_|refine WL.bf rfl rfl rfl (by omega) ?_|refine W.condF rfl ?_)
 refine (?_:WL _ _ _ _ _ _)
 dsimp only [St.put,Nat.reduceAdd]
 refine WL.bs rfl rfl rfl (callF Tryz.func59 rfl rfl) bldS_ok hne ?_
 repeat (first|refine WL.nil ?_|refine WL.e1 rfl ?_)
 refine (?_:W _ _ _ _ _)
 dsimp only [St.put,Nat.reduceAdd]
 exact W.ret (fin2 rfl rfl rfl rfl rfl rfl rfl)
theorem rWrite_FS (s:Int) (p:Pce) (hO:PcOk p):Ctr Tryz.prog 61 [.sc (.int .u8 s),ePce p] (.tu [.sc (.string (bs (wrT s p))),.sc (.int .i64 (wrX s p))]):=by
 have hn3:=hO.n3
 have hlen:(lksR s p).length≤27000:=by
  unfold lksR
  split
  ·exact lksTo_len s hO _ (Nat.le_refl _)
  ·simp
 refine Ctr.intro Tryz.func61 rfl Tryz.ntmps61 (Nat.le_of_ble_eq_true rfl) (bd_all rfl) fun w0 F0=>?_;dsimp only [St.init,number,Nat.reduceAdd]
 repeat refine W.go rfl ?_
 refine (?_:WL _ _ _ _ _ _)
 dsimp only [St.put,Nat.reduceAdd]
 refine WL.vl rfl (WV.call rfl (callF Tryz.func128 rfl rfl) rfl rfl (rLacks_FS s p hO)) ?_
 by_cases hE:lksE s p=0
 rotate_left
 ·rw [(wr_err hE).1,(wr_err hE).2]
  repeat (first|refine W.gob rfl ?_|refine WL.nil ?_|refine WL.nt rfl rfl rfl (by omega) ?_|refine WL.e1 rfl ?_|refine W.condT rfl ?_)
  refine (?_:W _ _ _ _ _)
  dsimp only [St.put,Nat.reduceAdd]
  exact W.ret (fin2 rfl rfl rfl rfl rfl rfl rfl)
 rw [hE]
 by_cases hl:lksR s p=[]
 rotate_left
 ·have hpos:0 < (lksR s p).length:=List.length_pos_iff.2 hl
  rw [(wr_no hE hl).1,(wr_no hE hl).2]
  repeat (first|refine W.gob rfl ?_|refine WL.nil ?_|refine WL.bt rfl rfl rfl (by omega) ?_|refine WL.nf rfl rfl rfl (by omega) ?_|refine WL.e1 rfl ?_|refine WL.len rfl rfl (by first|exact List.length_map _|exact List.length_replicate|rfl) ?_|refine W.condT rfl ?_|refine W.condF rfl ?_)
  refine (?_:W _ _ _ _ _)
  dsimp only [St.put,Nat.reduceAdd]
  exact W.ret (fin2 rfl rfl rfl rfl rfl rfl rfl)
 have hs:1≤s∧s≤4:=by
  by_cases h:1≤s∧s≤4
  ·exact h
  ·have:=(lks_bad (p:=p) h).2;omega
 have h0:pceE p=0:=by
  by_cases h:pceE p=0
  ·exact h
  ·have:=(lks_err hs h).2;omega
 rw [(wr_ok hE hl).1,(wr_ok hE hl).2,hl]
 have hR:=(lks_ok hs h0).1
 have hF:=rFormat_FS p.cs p.st
 have hins:insE p.cs p.st=0:=(pceE_zero h0).1
 rw [hins] at hF
 repeat (first|refine W.gob rfl ?_|refine WL.nil ?_|refine WL.nf rfl rfl rfl (by omega) ?_|refine WL.e1 rfl ?_|refine WL.len rfl rfl (by first|exact List.length_map _|exact List.length_replicate|rfl) ?_|refine W.condF rfl ?_)
 refine (?_:WL _ _ _ _ _ _)
 dsimp only [St.put,Nat.reduceAdd]
 refine WL.vl rfl (WV.call rfl (callF Tryz.func129 rfl rfl) rfl rfl (rSysName_FS s hs)) ?_
 have hsl:=snmT_len s
 have hfl:=fmA_len p.cs p.st
 have hhd:hdW s p=[116,97,98,108,97,116,117,114,101,32]++snmT s++[10]++fmA p.cs p.st++[10]:=rfl
 obtain ⟨sn,hsn⟩:∃ z,snmT s=z:=⟨_,rfl⟩
 obtain ⟨fm,hfm⟩:∃ z,fmA p.cs p.st=z:=⟨_,rfl⟩
 rw [hsn] at hsl hhd ⊢
 rw [hfm] at hfl hhd hF
 have hd1:([116,97,98,108,97,116,117,114,101,32]++sn).length≤17:=by simp only [List.length_append,List.length_cons,List.length_nil];omega
 have hd2:([116,97,98,108,97,116,117,114,101,32]++sn++[10]).length≤18:=by simp only [List.length_append,List.length_cons,List.length_nil];omega
 have hd3:([116,97,98,108,97,116,117,114,101,32]++sn++[10]++fm).length≤1218:=by simp only [List.length_append,List.length_cons,List.length_nil];omega
 have hd4:([116,97,98,108,97,116,117,114,101,32]++sn++[10]++fm++[10]).length≤1219:=by simp only [List.length_append,List.length_cons,List.length_nil];omega
 repeat (first|refine W.gob rfl ?_|refine WL.nil ?_|refine WL.e1 rfl ?_)
 refine (?_:WL _ _ _ _ _ _)
 dsimp only [St.put,Nat.reduceAdd]
 refine WL.vl rfl (WV.call rfl (callF Tryz.func130 rfl rfl) rfl rfl hF) ?_
 obtain ⟨R,hRR⟩:∃ z,hdW s p++bodyW s p p.evs.length=z:=⟨_,rfl⟩
 rw [hRR]
 repeat (first|refine W.gob rfl ?_|refine WL.nil ?_|refine WL.e1 rfl ?_|refine WL.cat rfl rfl (by first|omega|(simp;done)|(simp;omega)) ?_)
 refine (?_:W _ _ _ _ _)
 dsimp only [St.put,Nat.reduceAdd]
 rw [← hhd] at hd4 ⊢
 have hz:hdW s p=hdW s p++bodyW s p 0:=(List.append_nil _).symm
 rw [hz]
 have hbl:=bodyW_len hs hO h0
 have hnil:∀ i (h:i < p.evs.length),lackE s p i p.evs[i]=[]:=fun i h=>lksTo_none p.evs.length (Nat.le_refl _) (by rw [← hR];exact hl) i h h
 refine W.loop (fun k:Nat=>k≤p.evs.length) (fun k=>⟨[(0,.sc (.int .u8 s)),(3,.pt 0 0 0),(12,.sc (.string (bs (hdW s p++bodyW s p k)))),(13,.sc (.int .i64 k))],[(0,.box 28 (ePce p).cells)],1⟩) (fun k=>p.evs.length - k) 0 (by omega) (Tr.ren id (by repeat (first|exact trivial|refine ⟨⟨?_,?_⟩,?_⟩|rfl)) (by repeat (first|exact trivial|refine ⟨⟨?_,?_,?_⟩,?_⟩|rfl)) rfl) fun k hk=>?_
 have hbk:=hbl k hk
 by_cases hk2:k < p.evs.length
 ·have hcl:=colS_len hs hO h0 k hk2
  have hrow:hdW s p++bodyW s p k++colS s p k p.evs[k]++[10]=hdW s p++bodyW s p (k+1):=by
   rw [List.append_assoc,List.append_assoc,← colN_at hk2];rfl
  have hcol:=rcolumn_FS s hs p k hk2 hO h0 (hnil k hk2)
  obtain ⟨co,hco⟩:∃ z,colS s p k p.evs[k]=z:=⟨_,rfl⟩
  rw [hco] at hcl hrow hcol
  have hln:(hdW s p++bodyW s p k).length≤500000000:=by rw [List.length_append];omega
  obtain ⟨ac,hac⟩:∃ z,hdW s p++bodyW s p k=z:=⟨_,rfl⟩
  rw [hac] at hln hrow ⊢
  have hcn:(ac++co).length≤501000000:=by rw [List.length_append];omega
  repeat (first|refine W.gob rfl ?_|refine WL.nil ?_|refine WL.bt rfl rfl rfl (by omega) ?_|refine WL.e1 rfl ?_|refine WL.len rfl rfl (by first|exact List.length_map _|exact List.length_replicate|rfl) ?_|refine W.condT rfl ?_)
  refine (?_:WL _ _ _ _ _ _)
  dsimp only [St.put,Nat.reduceAdd]
  refine WL.vl rfl (WV.call rfl (callF Tryz.func131 rfl rfl) rfl rfl hcol) ?_
  repeat (first|refine W.gob rfl ?_|refine WL.nil ?_|refine WL.e1 rfl ?_|refine WL.ar rfl rfl (by unfold I64;omega) ?_|refine WL.cat rfl rfl (by first|omega|(simp;done)|(simp;omega)) ?_)
  dsimp only [St.put,Nat.reduceAdd]
  refine ⟨k+1,by omega,by omega,?_⟩
  rw [← hrow]
  exact (Tr.ren id (by repeat (first|exact trivial|refine ⟨⟨?_,?_⟩,?_⟩|rfl)) (by repeat (first|exact trivial|refine ⟨⟨?_,?_,?_⟩,?_⟩|rfl)) rfl)
 have hke:k=p.evs.length:=by omega
 rw [hke,hRR]
 repeat (first|refine W.gob rfl ?_|refine WL.nil ?_|refine WL.bf rfl rfl rfl (by omega) ?_|refine WL.e1 rfl ?_|refine WL.len rfl rfl (by first|exact List.length_map _|exact List.length_replicate|rfl) ?_|refine W.condF rfl ?_)
 refine (?_:W _ _ _ _ _)
 dsimp only [St.put,Nat.reduceAdd]
 exact W.ret (fin2 rfl rfl rfl rfl rfl rfl rfl)
end Go.Proofs.YtgelfflighgajaaGreatDoor
namespace Go.Proofs.YtgelfflighgajaaGreatDoor
open Go.RowKit
set_option maxRecDepth 100000
set_option maxHeartbeats 4000000
def colX (s:Int) (p:Pce) (z:Int):Int :=
 if ¬ (1≤s∧s≤4) then 30 else if pceE p≠0 then pceE p else if z<0 then 1 else
  match p.evs[z.toNat]? with
  | some e=>if lackE s p z e=[] then 0 else 31
  | none=>1
def colT (s:Int) (p:Pce) (z:Int):List UInt8 :=
 if colX s p z=0 then
  match p.evs[z.toNat]? with
  | some e=>colS s p z e
  | none=>[]
 else []
section
variable {s:Int} {p:Pce} {z:Int}
theorem colX_sys (h:¬ (1≤s∧s≤4)):colX s p z=30∧colT s p z=[]:=by
 have:colX s p z=30:=if_pos h
 exact ⟨this,by unfold colT;rw [this];rfl⟩
theorem colX_pce (h:1≤s∧s≤4) (h1:pceE p≠0):colX s p z=pceE p∧colT s p z=[]:=by
 have:colX s p z=pceE p:=by unfold colX;rw [if_neg (fun k=>k h),if_pos h1]
 exact ⟨this,by unfold colT;rw [this,if_neg h1]⟩
theorem colX_arg (h:1≤s∧s≤4) (h1:¬ pceE p≠0) (h2:z<0∨(p.evs.length:Int)≤z):colX s p z=1∧colT s p z=[]:=by
 have:colX s p z=1:=by
  unfold colX
  rw [if_neg (fun k=>k h),if_neg h1]
  by_cases h3:z<0
  ·rw [if_pos h3]
  ·rw [if_neg h3,List.getElem?_eq_none (by omega)]
 exact ⟨this,by unfold colT;rw [this];rfl⟩
theorem colX_no {i:Nat} (h:1≤s∧s≤4) (h1:¬ pceE p≠0) (h2:i<p.evs.length) (h3:¬ lackE s p i p.evs[i]=[]):colX s p i=31∧colT s p i=[]:=by
 have:colX s p i=31:=by
  unfold colX
  rw [if_neg (fun k=>k h),if_neg h1,if_neg (by omega),Int.toNat_natCast,List.getElem?_eq_getElem h2]
  exact if_neg h3
 exact ⟨this,by unfold colT;rw [this];rfl⟩
theorem colX_ok {i:Nat} (h:1≤s∧s≤4) (h1:¬ pceE p≠0) (h2:i<p.evs.length) (h3:lackE s p i p.evs[i]=[]):colX s p i=0∧colT s p i=colS s p i p.evs[i]:=by
 have:colX s p i=0:=by
  unfold colX
  rw [if_neg (fun k=>k h),if_neg h1,if_neg (by omega),Int.toNat_natCast,List.getElem?_eq_getElem h2]
  exact if_pos h3
 exact ⟨this,by unfold colT;rw [this,if_pos rfl,Int.toNat_natCast,List.getElem?_eq_getElem h2]⟩
end
theorem pColumn_FS (s:Int) (p:Pce) (hO:PcOk p) (z:Int):Ctr Tryz.prog 115 [.sc (.int .u8 s),ePce p,.sc (.int .i64 z)] (.tu [.sc (.string (bs (colT s p z))),.sc (.int .i64 (colX s p z))]):=by
 have hn3:=hO.n3
 refine Ctr.intro Tryz.func115 rfl Tryz.ntmps115 (Nat.le_of_ble_eq_true rfl) (bd_all rfl) fun w0 F0=>?_;dsimp only [St.init,number,Nat.reduceAdd]
 repeat refine W.go rfl ?_
 refine (?_:WL _ _ _ _ _ _)
 dsimp only [St.put,Nat.reduceAdd]
 refine WL.vl rfl (WV.call rfl (callF Tryz.func122 rfl rfl) rfl rfl (of_FS s)) ?_
 repeat (first|refine W.go rfl ?_|refine WL.ev rfl ?_)
 refine (?_:W _ _ _ _ _)
 dsimp only [St.put,Nat.reduceAdd]
 (refine W.cond rfl (fun hif=>?_) (fun hif=>?_)<;>(try simp only [decide_eq_true_eq,decide_eq_false_iff_not,Int.not_lt,Int.not_le,Bool.not_eq_true',Bool.not_eq_false'] at hif))
 ·have hs:¬ (1≤s∧s≤4):=by simpa using hif
  rw [(colX_sys hs).1,(colX_sys hs).2]
  repeat refine W.go rfl ?_
  refine (?_:W _ _ _ _ _)
  exact W.ret (fin2 rfl rfl rfl rfl rfl rfl rfl)
 have hs:1≤s∧s≤4:=by simpa using hif
 repeat refine W.go rfl ?_
 refine (?_:WL _ _ _ _ _ _)
 refine WL.vl rfl (WV.call rfl (callF Tryz.func52 rfl rfl) rfl rfl (pCheck_FS p hO)) ?_
 repeat (first|refine W.go rfl ?_|refine WL.ev rfl ?_)
 refine (?_:W _ _ _ _ _)
 dsimp only [St.put,Nat.reduceAdd]
 (refine W.cond rfl (fun hif=>?_) (fun hif=>?_)<;>(try simp only [decide_eq_true_eq,decide_eq_false_iff_not,Int.not_lt,Int.not_le,Bool.not_eq_true',Bool.not_eq_false'] at hif))
 ·have h0:pceE p≠0:=by simpa using hif
  rw [(colX_pce hs h0).1,(colX_pce hs h0).2]
  repeat refine W.go rfl ?_
  refine (?_:W _ _ _ _ _)
  dsimp only [St.put,Nat.reduceAdd]
  exact W.ret (fin2 rfl rfl rfl rfl rfl rfl rfl)
 have h0:pceE p=0:=by simpa using hif
 by_cases hz:z < 0∨(p.evs.length:Int)≤z
 ·rw [(colX_arg hs (fun h=>h h0) hz).1,(colX_arg hs (fun h=>h h0) hz).2]
  by_cases hz0:z < 0
  ·repeat (first|refine W.gob rfl ?_|refine WL.nil ?_|refine WL.bt rfl rfl rfl (by omega) ?_|refine WL.e1 rfl ?_|refine WL.opno rfl rfl rfl rfl rfl rfl rfl ?_|refine W.condT rfl ?_)
   refine (?_:W _ _ _ _ _)
   dsimp only [St.put,Nat.reduceAdd]
   exact W.ret (fin2 rfl rfl rfl rfl rfl rfl rfl)
  ·repeat (first|refine W.gob rfl ?_|refine WL.nil ?_|refine WL.bt rfl rfl rfl (by omega) ?_|refine WL.bf rfl rfl rfl (by omega) ?_|refine WL.e1 rfl ?_|refine WL.gyes rfl rfl rfl rfl ?_|refine WL.len rfl rfl (by first|exact List.length_map _|exact List.length_replicate|rfl) ?_|refine W.condT rfl ?_)
   refine (?_:W _ _ _ _ _)
   dsimp only [St.put,Nat.reduceAdd]
   exact W.ret (fin2 rfl rfl rfl rfl rfl rfl rfl)
 obtain ⟨i,rfl⟩:=Int.eq_ofNat_of_zero_le (show 0≤z by omega)
 have hi:i < p.evs.length:=by omega
 have hll:=lackE_len s p i p.evs[i] (hO.n4 i hi)
 repeat (first|refine W.gob rfl ?_|refine WL.nil ?_|refine WL.bf rfl rfl rfl (by omega) ?_|refine WL.e1 rfl ?_|refine WL.gyes rfl rfl rfl rfl ?_|refine WL.len rfl rfl (by first|exact List.length_map _|exact List.length_replicate|rfl) ?_|refine W.condF rfl ?_)
 refine (?_:WL _ _ _ _ _ _)
 dsimp only [St.put,Nat.reduceAdd]
 refine WL.vl rfl (WV.call rfl (callF Tryz.func175 rfl rfl) rfl rfl (plack_FS s hs p i hi hO (stopsIn_of h0 i hi))) ?_
 by_cases hk:lackE s p i p.evs[i]=[]
 ·rw [(colX_ok hs (fun h=>h h0) hi hk).1,(colX_ok hs (fun h=>h h0) hi hk).2,hk]
  repeat (first|refine W.gob rfl ?_|refine WL.nil ?_|refine WL.e1 rfl ?_|refine WL.len rfl rfl (by first|exact List.length_map _|exact List.length_replicate|rfl) ?_|refine W.condF rfl ?_)
  refine (?_:WL _ _ _ _ _ _)
  dsimp only [St.put,Nat.reduceAdd]
  refine WL.vl rfl (WV.call rfl (callF Tryz.func124 rfl rfl) rfl rfl (column_FS s hs p i hi hO h0)) ?_
  repeat (first|refine WL.nil ?_|refine WL.e1 rfl ?_)
  refine (?_:W _ _ _ _ _)
  dsimp only [St.put,Nat.reduceAdd]
  exact W.ret (fin2 rfl rfl rfl rfl rfl rfl rfl)
 ·rw [(colX_no hs (fun h=>h h0) hi hk).1,(colX_no hs (fun h=>h h0) hi hk).2]
  have hpos:0 < (lackE s p i p.evs[i]).length:=List.length_pos_iff.2 hk
  repeat (first|refine W.gob rfl ?_|refine WL.nil ?_|refine WL.bt rfl rfl rfl (by omega) ?_|refine WL.e1 rfl ?_|refine WL.len rfl rfl (by first|exact List.length_map _|exact List.length_replicate|rfl) ?_|refine W.condT rfl ?_)
  refine (?_:W _ _ _ _ _)
  dsimp only [St.put,Nat.reduceAdd]
  exact W.ret (fin2 rfl rfl rfl rfl rfl rfl rfl)
end Go.Proofs.YtgelfflighgajaaGreatDoor
