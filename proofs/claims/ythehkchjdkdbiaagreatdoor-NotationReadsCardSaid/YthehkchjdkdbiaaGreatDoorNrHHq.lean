/- The reader of the program: the first two lines. -/
import Derived.Test.YthehkchjdkdbiaaGreatDoorNrEHq
import Derived.Test.YthehkchjdkdbiaaGreatDoorNrPHq
set_option maxHeartbeats 8000000
set_option maxRecDepth 100000
set_option linter.unusedVariables false
set_option linter.unusedSimpArgs false
namespace Go.Proofs.YthehkchjdkdbiaaGreatDoor
section
open Go.RowKit
attribute [local go_sem]mk_bs bs_size bs_toList bs_append bs_extract
def nm1:List UInt8:=[102,114,101,110,99,104]
def nm2:List UInt8:=[105,116,97,108,105,97,110]
def nm3:List UInt8:=[115,112,97,110,105,115,104]
def nm4:List UInt8:=[103,101,114,109,97,110]
def psV(l:List UInt8):Value :=
 if(nm1 == l)=true then .tuple #[.int .u8 1,.int .i64 0]else if(nm2 == l)=true then .tuple #[.int .u8 2,.int .i64 0]
 else if(nm3 == l)=true then .tuple #[.int .u8 3,.int .i64 0]else if(nm4 == l)=true then .tuple #[.int .u8 4,.int .i64 0]else .tuple #[.int .u8 0,.int .i64 4]
theorem pparseSystem_any (l:List UInt8)(w:World):Calls Tryz.prog 90 #[.string (bs l)] w (Ret (psV l) w):=by
 unfold psV nm1 nm2 nm3 nm4
 by_cases h1:(([102,114,101,110,99,104]:List UInt8) == l)=true
 ·rw [if_pos h1]
  go_enter Tryz.func90,Tryz.ntmps90
  go_wp2
  go_rounds 5
  go_ret2
  exact Ret.mk' rfl zqb
 ·rw [if_neg h1]
  have g1:(([102,114,101,110,99,104]:List UInt8) == l)=false:=by simpa using h1
  clear h1
  by_cases h2:(([105,116,97,108,105,97,110]:List UInt8) == l)=true
  ·rw [if_pos h2]
   go_enter Tryz.func90,Tryz.ntmps90
   go_wp2
   go_rounds 5
   go_ret2
   exact Ret.mk' rfl zqb
  ·rw [if_neg h2]
   have g2:(([105,116,97,108,105,97,110]:List UInt8) == l)=false:=by simpa using h2
   clear h2
   by_cases h3:(([115,112,97,110,105,115,104]:List UInt8) == l)=true
   ·rw [if_pos h3]
    go_enter Tryz.func90,Tryz.ntmps90
    go_wp2
    go_rounds 5
    go_ret2
    exact Ret.mk' rfl zqb
   ·rw [if_neg h3]
    have g3:(([115,112,97,110,105,115,104]:List UInt8) == l)=false:=by simpa using h3
    clear h3
    by_cases h4:(([103,101,114,109,97,110]:List UInt8) == l)=true
    ·rw [if_pos h4]
     go_enter Tryz.func90,Tryz.ntmps90
     go_wp2
     go_rounds 5
     go_ret2
     exact Ret.mk' rfl zqb
    ·rw [if_neg h4]
     have g4:(([103,101,114,109,97,110]:List UInt8) == l)=false:=by simpa using h4
     clear h4
     go_enter Tryz.func90,Tryz.ntmps90
     go_wp2
     go_rounds 5
     go_ret2
     exact Ret.mk' rfl zqb
theorem rparseSystem_any (l:List UInt8)(w:World):Calls Tryz.prog 44 #[.string (bs l)] w (Ret (psV l) w):=by
 unfold psV nm1 nm2 nm3 nm4
 by_cases h1:(([102,114,101,110,99,104]:List UInt8) == l)=true
 ·rw [if_pos h1]
  go_enter Tryz.func44,Tryz.ntmps44
  go_wp2
  go_rounds 5
  go_ret2
  exact Ret.mk' rfl zqb
 ·rw [if_neg h1]
  have g1:(([102,114,101,110,99,104]:List UInt8) == l)=false:=by simpa using h1
  clear h1
  by_cases h2:(([105,116,97,108,105,97,110]:List UInt8) == l)=true
  ·rw [if_pos h2]
   go_enter Tryz.func44,Tryz.ntmps44
   go_wp2
   go_rounds 5
   go_ret2
   exact Ret.mk' rfl zqb
  ·rw [if_neg h2]
   have g2:(([105,116,97,108,105,97,110]:List UInt8) == l)=false:=by simpa using h2
   clear h2
   by_cases h3:(([115,112,97,110,105,115,104]:List UInt8) == l)=true
   ·rw [if_pos h3]
    go_enter Tryz.func44,Tryz.ntmps44
    go_wp2
    go_rounds 5
    go_ret2
    exact Ret.mk' rfl zqb
   ·rw [if_neg h3]
    have g3:(([115,112,97,110,105,115,104]:List UInt8) == l)=false:=by simpa using h3
    clear h3
    by_cases h4:(([103,101,114,109,97,110]:List UInt8) == l)=true
    ·rw [if_pos h4]
     go_enter Tryz.func44,Tryz.ntmps44
     go_wp2
     go_rounds 5
     go_ret2
     exact Ret.mk' rfl zqb
    ·rw [if_neg h4]
     have g4:(([103,101,114,109,97,110]:List UInt8) == l)=false:=by simpa using h4
     clear h4
     go_enter Tryz.func44,Tryz.ntmps44
     go_wp2
     go_rounds 5
     go_ret2
     exact Ret.mk' rfl zqb
end
section
open Go.RowKit
def nr_ps(l:List UInt8):Int×Int:=if(nm1 == l)=true then(1,0)else if(nm2 == l)=true then(2,0)else if(nm3 == l)=true then(3,0)else if(nm4 == l)=true then(4,0)else(0,4)
theorem nr_ps_v (l:List UInt8):psV l=.tuple #[.int .u8 (nr_ps l).1,.int .i64 (nr_ps l).2]:=by
 unfold psV nr_ps
 split
 ·rfl
 ·split
  ·rfl
  ·split
   ·rfl
   ·split<;>rfl
theorem nr_ps_cases(l:List UInt8):((nr_ps l).2=4∧(nr_ps l).1=0)∨((nr_ps l).2=0∧1≤(nr_ps l).1∧(nr_ps l).1≤4):=by
 unfold nr_ps
 split
 ·exact .inr ⟨rfl,by decide⟩
 ·split
  ·exact .inr ⟨rfl,by decide⟩
  ·split
   ·exact .inr ⟨rfl,by decide⟩
   ·split
    ·exact .inr ⟨rfl,by decide⟩
    ·exact .inl ⟨rfl,rfl⟩
def nr_hdW:List UInt8:=[116,97,98,108,97,116,117,114,101,32]
theorem nr_pfx_take {p l:List UInt8}:nr_pfx p l=decide (l.take p.length=p):=by
 unfold nr_pfx
 by_cases h:l.take p.length=p
 ·rw [decide_eq_true h,List.isPrefixOf_iff_prefix]
  rw [← h];exact List.take_prefix _ _
 ·rw [decide_eq_false h]
  cases hb:p.isPrefixOf l with
  | false=>rfl
  | true =>
   obtain⟨u,rfl⟩:=List.isPrefixOf_iff_prefix.1 hb
   exact absurd List.take_left h
theorem nr_sys_no {l:List UInt8} (h:nr_pfx nr_hdW l=false):nr_sys l=none:=by
 rw [nr_pfx_take]at h
 exact if_neg (show ¬ l.take 10=[116,97,98,108,97,116,117,114,101,32]from of_decide_eq_false h)
theorem nr_sys_at {l:List UInt8} (h:nr_pfx nr_hdW l=true):nr_sys l=if (nr_ps (l.drop 10)).2=0 then some (nr_ps (l.drop 10)).1 else none:=by
 rw [nr_pfx_take]at h
 unfold nr_sys
 rw [if_pos (show l.take 10=[116,97,98,108,97,116,117,114,101,32]from of_decide_eq_true h)]
 obtain⟨d,hd⟩:∃ z,l.drop 10=z:=⟨_,rfl⟩
 rw [hd]
 unfold nr_ps nm1 nm2 nm3 nm4
 simp only [beq_iff_eq]
 split
 ·rfl
 ·split
  ·rfl
  ·split
   ·rfl
   ·split<;>rfl
theorem psys_FS (l:List UInt8):Ctr Tryz.prog 90 [.sc (.string (bs l))] (.tu [.sc (.int .u8 (nr_ps l).1),.sc (.int .i64 (nr_ps l).2)]) :=
 Ctr.of_sc (v:=psV l) rfl (fun F=>by rw [nr_ps_v];exact rp_plT rfl) fun w=>pparseSystem_any l w
def nr_hdU (L:List (List UInt8)) (cl:Bool):UR :=
 if nr_nxt L cl 0=false then .er (nr_flt 1 4) else
 match nr_sys (L.getD 0 []) with
 | none=>.er (nr_flt 1 4)
 | some s =>
  if nr_nxt L cl 1=false then .er (nr_flt 2 4) else
  if (nr_ins (L.getD 1 [])).2≠0 then .er (nr_flt 2 (nr_ins (L.getD 1 [])).2) else
  .ok (.tu []) [(0,nr_rd (.int .u8 s) (sysV s) ((nr_ins (L.getD 1 [])).1.1.map eCrs) ((nr_ins (L.getD 1 [])).1.2.map eInt) 2 (L.map eTx) cl)] 4
theorem head_G (L:List (List UInt8)) (cl:Bool) (hl:L.length≤400000) (hw:∀ w∈L,w.length≤400000) :
  Ctu tabN gloN Tryz.prog 39 [.pt 0 0 0] [(0,nr_rd (.int .u8 0) .nilIface [] [] 0 (L.map eTx) cl)] 3 (nr_hdU L cl):=by
 have hn0:=next_G (.int .u8 0) .nilIface [] [] L cl 0 zqo zqo
 have hwd:∀ k,(L.getD k []).length≤400000:=fun k=>by
  rw [List.getD_eq_getElem?_getD]
  by_cases h:k < L.length
  ·rw [List.getElem?_eq_getElem h];exact hw _ (List.getElem_mem h)
  ·rw [List.getElem?_eq_none (by omega)];simp
 have hcp:=cutPfx_FS (L.getD 0 []) nr_hdW (by have:=hwd 0;omega)
 refine Ctu.intro stabN Tryz.func39 rfl Tryz.ntmps39 (Nat.le_of_ble_eq_true rfl) rfl fun w0 F0 fp pg hB=>?_
 unfold nr_hdU
 dsimp only [number,Nat.reduceAdd]
 cases hx:nr_nxt L cl 0 with
 | false =>
  rw [if_pos rfl]
  have hc:=hn0.er_ (by rw [hx];rfl)
  unfold nr_rd
  refine zqg25 ?_
  refine WL.ctp (truH _) [0,1,2] rfl rfl (callF Tryz.func42 rfl rfl) hc rfl rfl rfl ⟨⟨rfl,rfl,rfl⟩,trivial⟩ ?_
  rfl
 | true =>
 rw [if_neg (by decide)]
 have hc:=hn0.ok_ (by rw [hx];rfl)
 rw [show ((0:Nat):Int)+1=1 from rfl,show ((0:Nat):Int)=0 from rfl] at hc
 obtain ⟨l0,hl0⟩:∃ z,L.getD 0 []=z:=⟨_,rfl⟩
 rw [hl0] at hc hcp ⊢
 cases hp:nr_pfx nr_hdW l0 with
 | false =>
  have hps:=psys_FS l0
  rw [nr_sys_no hp]
  rw [hp] at hcp
  unfold nr_rd
  refine zqg25 ?_
  refine WL.cto (truH _) [0,1,2] rfl rfl (callF Tryz.func42 rfl rfl) hc rfl rfl rfl ⟨⟨rfl,rfl,rfl⟩,trivial⟩ rfl rfl rfl rfl ?_
  refine zqg25 ?_
  refine WL.vl rfl (zqc Tryz.func89 hcp) ?_
  refine zqg25 ?_
  refine WL.vl rfl (zqc Tryz.func90 hps) ?_
  refine zqg25 ?_
  refine WL.ctp (truH _) [0,1,2] rfl rfl (callF Tryz.func40 rfl rfl) (fail_G _ _ _ _ _ _ _ _) rfl rfl rfl ⟨⟨rfl,rfl,rfl⟩,trivial⟩ ?_
  rfl
 | true =>
 rw [hp,if_pos rfl] at hcp
 obtain ⟨nm,hnm⟩:∃ z,l0.drop 10=z:=⟨_,rfl⟩
 have hcp:Ctr Tryz.prog 89 [.sc (.string (bs l0)),.sc (.string (bs nr_hdW))] (.tu [.sc (.string (bs nm)),.sc (.bool true)]):=by rw [← hnm];exact hcp
 rw [nr_sys_at hp,hnm]
 have hps:=psys_FS nm
 rcases nr_ps_cases nm with ⟨e1,e2⟩|⟨e1,e2,e3⟩
 ·rw [e1,e2] at hps
  rw [e1,if_neg (by decide)]
  dsimp only
  unfold nr_rd
  refine zqg25 ?_
  refine WL.cto (truH _) [0,1,2] rfl rfl (callF Tryz.func42 rfl rfl) hc rfl rfl rfl ⟨⟨rfl,rfl,rfl⟩,trivial⟩ rfl rfl rfl rfl ?_
  refine zqg25 ?_
  refine WL.vl rfl (zqc Tryz.func89 hcp) ?_
  refine zqg25 ?_
  refine WL.vl rfl (zqc Tryz.func90 hps) ?_
  refine zqg25 ?_
  refine WL.ctp (truH _) [0,1,2] rfl rfl (callF Tryz.func40 rfl rfl) (fail_G _ _ _ _ _ _ _ _) rfl rfl rfl ⟨⟨rfl,rfl,rfl⟩,trivial⟩ ?_
  rfl
 rw [e1] at hps
 rw [if_pos e1]
 obtain ⟨s,hs⟩:∃ z,(nr_ps nm).1=z:=⟨_,rfl⟩
 rw [hs] at hps e2 e3 ⊢
 dsimp only
 have hof:=of_FS s
 rw [decide_eq_true ⟨e2,e3⟩] at hof
 have hcB:(AV.sc (sysV s)).cellB=true:=by rcases sys_cases ⟨e2,e3⟩ with rfl|rfl|rfl|rfl<;>rfl
 have hcl:(AV.sc (sysV s)).cells=[AV.sc (sysV s)]:=by rcases sys_cases ⟨e2,e3⟩ with rfl|rfl|rfl|rfl<;>rfl
 have h1B:[AV.sc (sysV s)].all AV.oneB=true:=by rcases sys_cases ⟨e2,e3⟩ with rfl|rfl|rfl|rfl<;>rfl
 have hn1:=next_G (.int .u8 s) (sysV s) [] [] L cl 1 zqo (by
  unfold nr_nxt at hx
  simp only [Bool.and_eq_true,decide_eq_true_eq] at hx
  omega)
 cases hx1:nr_nxt L cl 1 with
 | false =>
  rw [if_pos rfl]
  have hc1:=hn1.er_ (by rw [hx1];rfl)
  rw [show ((1:Nat):Int)+1=2 from rfl,show ((1:Nat):Int)=1 from rfl] at hc1
  unfold nr_rd
  refine zqg25 ?_
  refine WL.cto (truH _) [0,1,2] rfl rfl (callF Tryz.func42 rfl rfl) hc rfl rfl rfl ⟨⟨rfl,rfl,rfl⟩,trivial⟩ rfl rfl rfl rfl ?_
  refine zqg25 ?_
  refine WL.vl rfl (zqc Tryz.func89 hcp) ?_
  refine zqg25 ?_
  refine WL.vl rfl (zqc Tryz.func90 hps) ?_
  refine zqg25 ?_
  refine WL.vl rfl (zqc Tryz.func50 hof) ?_
  refine zqg25 ?_
  refine WL.op rfl (WO.store rfl rfl rfl rfl rfl rfl hcB hcl rfl h1B rfl) ?_
  dsimp only [St.upd]
  refine zqg25 ?_
  refine WL.ctp (truH _) [0,1,2] rfl rfl (callF Tryz.func42 rfl rfl) hc1 rfl rfl rfl ⟨⟨rfl,rfl,rfl⟩,trivial⟩ ?_
  rfl
 | true =>
 rw [if_neg (by decide)]
 have hc1:=hn1.ok_ (by rw [hx1];rfl)
 rw [show ((1:Nat):Int)+1=2 from rfl,show ((1:Nat):Int)=1 from rfl] at hc1
 have hP:=pParse_G (L.getD 1 []) (hwd 1)
 obtain ⟨l1,hl1⟩:∃ z,L.getD 1 []=z:=⟨_,rfl⟩
 rw [hl1] at hc1 hP ⊢
 obtain ⟨⟨⟨cs,st⟩,e⟩,hins⟩:∃ z,nr_ins l1=z:=⟨_,rfl⟩
 rw [hins] at hP ⊢
 unfold eIns at hP
 dsimp only at hP ⊢
 by_cases he:e=0
 ·subst he
  rw [if_neg (by decide)]
  unfold nr_rd
  refine zqg25 ?_
  refine WL.cto (truH _) [0,1,2] rfl rfl (callF Tryz.func42 rfl rfl) hc rfl rfl rfl ⟨⟨rfl,rfl,rfl⟩,trivial⟩ rfl rfl rfl rfl ?_
  refine zqg25 ?_
  refine WL.vl rfl (zqc Tryz.func89 hcp) ?_
  refine zqg25 ?_
  refine WL.vl rfl (zqc Tryz.func90 hps) ?_
  refine zqg25 ?_
  refine WL.vl rfl (zqc Tryz.func50 hof) ?_
  refine zqg25 ?_
  refine WL.op rfl (WO.store rfl rfl rfl rfl rfl rfl hcB hcl rfl h1B rfl) ?_
  dsimp only [St.upd]
  refine zqg25 ?_
  refine WL.cto (truH _) [0,1,2] rfl rfl (callF Tryz.func42 rfl rfl) hc1 rfl rfl rfl ⟨⟨rfl,rfl,rfl⟩,trivial⟩ rfl rfl rfl rfl ?_
  refine zqg25 ?_
  refine WL.vl rfl (WV.callG hB rfl (callF Tryz.func91 rfl rfl) rfl rfl hP) ?_
  refine zqg25 ?_
  exact QFinM.sub (finMuL rfl rfl rfl rfl rfl) ⟨rfl,trivial⟩
 ·rw [if_pos he]
  unfold nr_rd
  refine zqg25 ?_
  refine WL.cto (truH _) [0,1,2] rfl rfl (callF Tryz.func42 rfl rfl) hc rfl rfl rfl ⟨⟨rfl,rfl,rfl⟩,trivial⟩ rfl rfl rfl rfl ?_
  refine zqg25 ?_
  refine WL.vl rfl (zqc Tryz.func89 hcp) ?_
  refine zqg25 ?_
  refine WL.vl rfl (zqc Tryz.func90 hps) ?_
  refine zqg25 ?_
  refine WL.vl rfl (zqc Tryz.func50 hof) ?_
  refine zqg25 ?_
  refine WL.op rfl (WO.store rfl rfl rfl rfl rfl rfl hcB hcl rfl h1B rfl) ?_
  dsimp only [St.upd]
  refine zqg25 ?_
  refine WL.cto (truH _) [0,1,2] rfl rfl (callF Tryz.func42 rfl rfl) hc1 rfl rfl rfl ⟨⟨rfl,rfl,rfl⟩,trivial⟩ rfl rfl rfl rfl ?_
  refine zqg25 ?_
  refine WL.vl rfl (WV.callG hB rfl (callF Tryz.func91 rfl rfl) rfl rfl hP) ?_
  refine zqg25 ?_
  refine WL.ctp (truH _) [0,1,2] rfl rfl (callF Tryz.func40 rfl rfl) (fail_G _ _ _ _ _ _ _ _) rfl rfl rfl ⟨⟨rfl,rfl,rfl⟩,trivial⟩ ?_
  rfl
end
end Go.Proofs.YthehkchjdkdbiaaGreatDoor
