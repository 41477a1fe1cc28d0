/- Reduce of the program. -/
import Derived.Test.YtockempedekkkaaGreatDoorYWJq
import Derived.Test.YtockempedekkkaaGreatDoorYGJq
set_option maxHeartbeats 8000000
set_option maxRecDepth 100000
set_option linter.unusedVariables false
set_option linter.unusedSimpArgs false
namespace Go.Proofs.YtockempedekkkaaGreatDoor
open Go.RowKit
def ynmT(s:Int):List UInt8:=if s=1 then [102,114,101,110,99,104]else if s=2 then [105,116,97,108,105,97,110]else if s=3 then [115,112,97,110,105,115,104]else [103,101,114,109,97,110]
def ynmF(s:Int):FuncId:=if s=1 then 170 else if s=2 then 190 else if s=3 then 198 else 205
theorem ynm_FS (s:Int) (hs:1≤s∧s≤4):Ctr Tryz.prog (ynmF s) [.ag []] (.sc (.string (bs (ynmT s)))):=by
 rcases sys_cases hs with rfl|rfl|rfl|rfl
 ·show Ctr Tryz.prog 170 _ _
  refine zqe Tryz.func170 Tryz.ntmps170 fun w0 F0=>?_;dsimp only [St.init,number,Nat.reduceAdd]
  repeat (first|refine W.go rfl ?_)
  (first|refine (?_:W _ _ _ _ _)|refine (?_:WL _ _ _ _ _ _)|skip)
  try dsimp only [St.put,Nat.reduceAdd]
  exact W.ret zqr
 ·show Ctr Tryz.prog 190 _ _
  refine zqe Tryz.func190 Tryz.ntmps190 fun w0 F0=>?_;dsimp only [St.init,number,Nat.reduceAdd]
  repeat (first|refine W.go rfl ?_)
  (first|refine (?_:W _ _ _ _ _)|refine (?_:WL _ _ _ _ _ _)|skip)
  try dsimp only [St.put,Nat.reduceAdd]
  exact W.ret zqr
 ·show Ctr Tryz.prog 198 _ _
  refine zqe Tryz.func198 Tryz.ntmps198 fun w0 F0=>?_;dsimp only [St.init,number,Nat.reduceAdd]
  repeat (first|refine W.go rfl ?_)
  (first|refine (?_:W _ _ _ _ _)|refine (?_:WL _ _ _ _ _ _)|skip)
  try dsimp only [St.put,Nat.reduceAdd]
  exact W.ret zqr
 ·show Ctr Tryz.prog 205 _ _
  refine zqe Tryz.func205 Tryz.ntmps205 fun w0 F0=>?_;dsimp only [St.init,number,Nat.reduceAdd]
  repeat (first|refine W.go rfl ?_)
  (first|refine (?_:W _ _ _ _ _)|refine (?_:WL _ _ _ _ _ _)|skip)
  try dsimp only [St.put,Nat.reduceAdd]
  exact W.ret zqr
theorem ySys_FS (s:Int):∃ t,Ctr Tryz.prog 25 [.sc (.int .u8 s)] (.tu [.sc (.string (bs t)),.sc (.int .i64 (if 1≤s∧s≤4 then 0 else 30))]):=by
 have h:=of_FS s
 by_cases hs:1≤s∧s≤4
 ·refine ⟨ynmT s,?_⟩
  rw [if_pos hs]
  rw [decide_eq_true hs] at h
  have hnm:=ynm_FS s hs
  refine zqe Tryz.func25 Tryz.ntmps25 fun w0 F0=>?_;dsimp only [St.init,number,Nat.reduceAdd]
  repeat (first|refine W.go rfl ?_|refine WL.nil ?_|refine W.condT rfl ?_|refine W.condF rfl ?_)
  (first|refine (?_:W _ _ _ _ _)|refine (?_:WL _ _ _ _ _ _)|skip)
  try dsimp only [St.put,Nat.reduceAdd]
  refine WL.vl rfl (zqc Tryz.func52 h) ?_
  repeat (first|refine W.gob rfl ?_|refine WL.nil ?_|refine WL.e1 rfl ?_|refine W.condT rfl ?_|refine W.condF rfl ?_)
  (first|refine (?_:W _ _ _ _ _)|refine (?_:WL _ _ _ _ _ _)|skip)
  try dsimp only [St.put,Nat.reduceAdd]
  refine WL.vl rfl (WV.sys hs ynmF rfl rfl (fun vs w=>by kernel_rfl) (fun vs w=>by kernel_rfl) (fun vs w=>by kernel_rfl) (fun vs w=>by kernel_rfl) rfl rfl hnm) ?_
  repeat (first|refine W.gob rfl ?_|refine WL.nil ?_|refine WL.e1 rfl ?_|refine W.condT rfl ?_|refine W.condF rfl ?_)
  (first|refine (?_:W _ _ _ _ _)|refine (?_:WL _ _ _ _ _ _)|skip)
  try dsimp only [St.put,Nat.reduceAdd]
  exact W.ret (fin2 rfl rfl rfl rfl rfl rfl rfl)
 ·refine ⟨[],?_⟩
  rw [if_neg hs]
  rw [decide_eq_false hs] at h
  refine zqe Tryz.func25 Tryz.ntmps25 fun w0 F0=>?_;dsimp only [St.init,number,Nat.reduceAdd]
  repeat (first|refine W.go rfl ?_|refine WL.nil ?_|refine W.condT rfl ?_|refine W.condF rfl ?_)
  (first|refine (?_:W _ _ _ _ _)|refine (?_:WL _ _ _ _ _ _)|skip)
  try dsimp only [St.put,Nat.reduceAdd]
  refine WL.vl rfl (zqc Tryz.func52 h) ?_
  repeat (first|refine W.gob rfl ?_|refine WL.nil ?_|refine WL.e1 rfl ?_|refine W.condT rfl ?_|refine W.condF rfl ?_)
  (first|refine (?_:W _ _ _ _ _)|refine (?_:WL _ _ _ _ _ _)|skip)
  try dsimp only [St.put,Nat.reduceAdd]
  exact W.ret (fin2 rfl rfl rfl rfl rfl rfl rfl)
def redH (s:Int) (p:Pce):Nat→Stp→Int:=if pceE ⟨p.cs,p.st,fnL (ftH (redN s p)) (redN s p)⟩=0 then znH s (redN s p)else ftH (redN s p)
theorem redH_zr {s:Int} {p:Pce} (hs:1≤s∧s≤4) (h0:pceE p=0) :
  zrL (lksR s ⟨p.cs,p.st,fnL (ftH (redN s p)) (redN s p)⟩) (fnL (ftH (redN s p)) (redN s p))=fnL (redH s p) (redN s p):=by
 unfold redH
 by_cases h:pceE ⟨p.cs,p.st,fnL (ftH (redN s p)) (redN s p)⟩=0
 ·rw [if_pos h,(lks_ok hs h).1]
  exact (zr_lks (s:=s) (p:=⟨p.cs,p.st,fnL (ftH (redN s p)) (redN s p)⟩) (fnL_asc (redN_asc h0)) (fnL_pok redN_pok)).trans (zn_two s (redN s p))
 ·rw [if_neg h,(lks_err hs h).1,zrL_nil]
theorem redH_ok {s:Int} {p:Pce} (hs:1≤s∧s≤4)(h0:pceE p=0)(hf:¬ (s=3∧frsB (redC s) p.evs=true)):redH s p=znH s (redN s p):=if_pos (red_mid hs h0 hf)
theorem redZ {s:Int} {p:Pce} (hs:1≤s∧s≤4):∀ x∈lksR s ⟨p.cs,p.st,fnL (ftH (redN s p)) (redN s p)⟩,x.2.2=4→∃ (i:Nat) (hi:i<(fnL (ftH (redN s p)) (redN s p)).length) (k:Nat) (hk:k<(fnL (ftH (redN s p)) (redN s p))[i].stops.length),x.1=i∧(fnL (ftH (redN s p)) (redN s p))[i].stops[k].1=x.2.1:=by
 intro x hx h4
 by_cases h:pceE ⟨p.cs,p.st,fnL (ftH (redN s p)) (redN s p)⟩=0
 ·rw [(lks_ok hs h).1]at hx
  obtain ⟨a,b,c⟩:=x
  dsimp only at h4
  subst h4
  obtain ⟨i,hi,hi2,e,y,hy,e2,_⟩:=(mem_lksTo (s:=s) (p:=⟨p.cs,p.st,fnL (ftH (redN s p)) (redN s p)⟩) (Nat.le_refl _)).1 hx
  obtain ⟨k,hk,rfl⟩:=List.getElem_of_mem hy
  exact ⟨i,hi2,k,hk,e,e2⟩
 ·rw [(lks_err hs h).1]at hx
  cases hx
theorem pReduce_FS (s:Int) (p:Pce) (hO:PcOk p):Ctr Tryz.prog 11 [.sc (.int .u8 s),ePce p] (.tu [ePce (redP s p),.ls 3 ((redL s p).map eLk),.sc (.int .i64 (redX s p))]):=by
 have hPe:ePce p=.ag [.ls 3 (p.cs.map eCrs),.ls 1 (p.st.map eInt),.ls 6 (p.evs.map eEv)]:=rfl
 have hbad:redX s p≠0→ePce (redP s p)=.ag [.ls 3 [],.ls 1 [],.ls 6 []]∧redL s p=[]:=fun h=>⟨by rw [show redP s p=noP from if_neg h];rfl,if_neg h⟩
 obtain ⟨nm,hN⟩:=ySys_FS s
 have hC:=pCheck_FS p hO
 by_cases hs:1≤s∧s≤4
 rotate_left
 ·have e:redX s p=30:=if_pos hs
  obtain ⟨e1,e2⟩:=hbad (by rw [e];decide)
  rw [e1,e2,e]
  rw [if_neg hs] at hN
  refine zqe Tryz.func11 Tryz.ntmps11 fun w0 F0=>?_;dsimp only [St.init,number,Nat.reduceAdd]
  repeat (first|refine W.go rfl ?_|refine WL.nil ?_|refine WL.ev rfl ?_|refine WL.gyes rfl rfl rfl rfl ?_|refine WL.opno rfl rfl rfl rfl rfl rfl rfl ?_|refine WL.len rfl rfl zql ?_|refine WL.idx rfl rfl zqo zqm ?_|refine W.condT rfl ?_|refine W.condF rfl ?_)
  (first|refine (?_:W _ _ _ _ _)|refine (?_:WL _ _ _ _ _ _)|skip)
  try dsimp only [St.put,Nat.reduceAdd]
  refine WL.vl rfl (zqc Tryz.func25 hN) ?_
  repeat (first|refine W.go rfl ?_|refine WL.nil ?_|refine WL.ev rfl ?_|refine WL.gyes rfl rfl rfl rfl ?_|refine WL.opno rfl rfl rfl rfl rfl rfl rfl ?_|refine WL.len rfl rfl zql ?_|refine WL.idx rfl rfl zqo zqm ?_|refine W.condT rfl ?_|refine W.condF rfl ?_)
  (first|refine (?_:W _ _ _ _ _)|refine (?_:WL _ _ _ _ _ _)|skip)
  try dsimp only [St.put,Nat.reduceAdd]
  refine W.tr (Tr.nilC 2 0 3 rfl rfl rfl) ?_
  refine W.tr (Tr.nilC 2 1 1 rfl rfl rfl) ?_
  refine W.tr (Tr.nilC 2 2 6 rfl rfl rfl) ?_
  refine W.tr (Tr.nilLs (t:=5) 3 rfl) ?_
  exact W.ret (finN rfl rfl rfl rfl)
 rw [if_pos hs] at hN
 by_cases h0:pceE p=0
 rotate_left
 ·have e:redX s p=pceE p:=by unfold redX;rw [if_neg (fun h=>h hs),if_pos h0]
  obtain ⟨e1,e2⟩:=hbad (by rw [e];exact h0)
  rw [e1,e2,e]
  obtain ⟨E,hE⟩:∃ z,pceE p=z:=⟨_,rfl⟩
  rw [hE] at hC h0 ⊢
  refine zqe Tryz.func11 Tryz.ntmps11 fun w0 F0=>?_;dsimp only [St.init,number,Nat.reduceAdd]
  repeat (first|refine W.go rfl ?_|refine WL.nil ?_|refine WL.ev rfl ?_|refine WL.gyes rfl rfl rfl rfl ?_|refine WL.opno rfl rfl rfl rfl rfl rfl rfl ?_|refine WL.len rfl rfl zql ?_|refine WL.idx rfl rfl zqo zqm ?_|refine W.condT rfl ?_|refine W.condF rfl ?_)
  (first|refine (?_:W _ _ _ _ _)|refine (?_:WL _ _ _ _ _ _)|skip)
  try dsimp only [St.put,Nat.reduceAdd]
  refine WL.vl rfl (zqc Tryz.func25 hN) ?_
  repeat (first|refine W.go rfl ?_|refine WL.nil ?_|refine WL.ev rfl ?_|refine WL.gyes rfl rfl rfl rfl ?_|refine WL.opno rfl rfl rfl rfl rfl rfl rfl ?_|refine WL.len rfl rfl zql ?_|refine WL.idx rfl rfl zqo zqm ?_|refine W.condT rfl ?_|refine W.condF rfl ?_)
  (first|refine (?_:W _ _ _ _ _)|refine (?_:WL _ _ _ _ _ _)|skip)
  try dsimp only [St.put,Nat.reduceAdd]
  refine WL.vl rfl (zqc Tryz.func26 hC) ?_
  repeat (first|refine W.gob rfl ?_|refine WL.nil ?_|refine WL.bt rfl rfl rfl zqo ?_|refine WL.bf rfl rfl rfl zqo ?_|refine WL.nt rfl rfl rfl zqo ?_|refine WL.nf rfl rfl rfl zqo ?_|refine WL.e1 rfl ?_|refine WL.gyes rfl rfl rfl rfl ?_|refine WL.opno rfl rfl rfl rfl rfl rfl rfl ?_|refine WL.len rfl rfl zql ?_|refine WL.idx rfl rfl zqo zqm ?_|refine W.condT rfl ?_|refine W.condF rfl ?_)
  (first|refine (?_:W _ _ _ _ _)|refine (?_:WL _ _ _ _ _ _)|skip)
  try dsimp only [St.put,Nat.reduceAdd]
  refine W.tr (Tr.nilC 2 0 3 rfl rfl rfl) ?_
  refine W.tr (Tr.nilC 2 1 1 rfl rfl rfl) ?_
  refine W.tr (Tr.nilC 2 2 6 rfl rfl rfl) ?_
  refine W.tr (Tr.nilLs (t:=5) 3 rfl) ?_
  exact W.ret (finN rfl rfl rfl rfl)
 rw [h0] at hC
 have hL:=pLacks_FS s p hO
 have hH:=yHas_FS (lksR s p) 5 (by have:=lksR_len s hO;omega)
 rw [(lks_ok hs h0).2] at hL
 rw [has_three hs h0] at hH
 obtain ⟨LL,hLL⟩:∃ z,(lksR s p).map eLk=z:=⟨_,rfl⟩
 rw [hLL] at hL hH
 clear hLL
 by_cases h4t:s=4∧thrB p.evs=true
 ·have e:redX s p=31:=by unfold redX;rw [if_neg (fun h=>h hs),if_neg (fun h=>h h0),if_pos h4t]
  obtain ⟨e1,e2⟩:=hbad (by rw [e];decide)
  rw [e1,e2,e]
  rw [decide_eq_true h4t] at hH
  refine zqe Tryz.func11 Tryz.ntmps11 fun w0 F0=>?_;dsimp only [St.init,number,Nat.reduceAdd]
  repeat (first|refine W.go rfl ?_|refine WL.nil ?_|refine WL.ev rfl ?_|refine WL.gyes rfl rfl rfl rfl ?_|refine WL.opno rfl rfl rfl rfl rfl rfl rfl ?_|refine WL.len rfl rfl zql ?_|refine WL.idx rfl rfl zqo zqm ?_|refine W.condT rfl ?_|refine W.condF rfl ?_)
  (first|refine (?_:W _ _ _ _ _)|refine (?_:WL _ _ _ _ _ _)|skip)
  try dsimp only [St.put,Nat.reduceAdd]
  refine WL.vl rfl (zqc Tryz.func25 hN) ?_
  repeat (first|refine W.go rfl ?_|refine WL.nil ?_|refine WL.ev rfl ?_|refine WL.gyes rfl rfl rfl rfl ?_|refine WL.opno rfl rfl rfl rfl rfl rfl rfl ?_|refine WL.len rfl rfl zql ?_|refine WL.idx rfl rfl zqo zqm ?_|refine W.condT rfl ?_|refine W.condF rfl ?_)
  (first|refine (?_:W _ _ _ _ _)|refine (?_:WL _ _ _ _ _ _)|skip)
  try dsimp only [St.put,Nat.reduceAdd]
  refine WL.vl rfl (zqc Tryz.func26 hC) ?_
  repeat (first|refine W.gob rfl ?_|refine WL.nil ?_|refine WL.bt rfl rfl rfl zqo ?_|refine WL.bf rfl rfl rfl zqo ?_|refine WL.nt rfl rfl rfl zqo ?_|refine WL.nf rfl rfl rfl zqo ?_|refine WL.e1 rfl ?_|refine WL.gyes rfl rfl rfl rfl ?_|refine WL.opno rfl rfl rfl rfl rfl rfl rfl ?_|refine WL.len rfl rfl zql ?_|refine WL.idx rfl rfl zqo zqm ?_|refine W.condT rfl ?_|refine W.condF rfl ?_)
  (first|refine (?_:W _ _ _ _ _)|refine (?_:WL _ _ _ _ _ _)|skip)
  try dsimp only [St.put,Nat.reduceAdd]
  refine WL.vl rfl (zqc Tryz.func27 hL) ?_
  repeat (first|refine W.gob rfl ?_|refine WL.nil ?_|refine WL.bt rfl rfl rfl zqo ?_|refine WL.bf rfl rfl rfl zqo ?_|refine WL.nt rfl rfl rfl zqo ?_|refine WL.nf rfl rfl rfl zqo ?_|refine WL.e1 rfl ?_|refine WL.gyes rfl rfl rfl rfl ?_|refine WL.opno rfl rfl rfl rfl rfl rfl rfl ?_|refine WL.len rfl rfl zql ?_|refine WL.idx rfl rfl zqo zqm ?_|refine W.condT rfl ?_|refine W.condF rfl ?_)
  (first|refine (?_:W _ _ _ _ _)|refine (?_:WL _ _ _ _ _ _)|skip)
  try dsimp only [St.put,Nat.reduceAdd]
  refine WL.vl rfl (zqc Tryz.func28 hH) ?_
  repeat (first|refine W.gob rfl ?_|refine WL.nil ?_|refine WL.bt rfl rfl rfl zqo ?_|refine WL.bf rfl rfl rfl zqo ?_|refine WL.nt rfl rfl rfl zqo ?_|refine WL.nf rfl rfl rfl zqo ?_|refine WL.e1 rfl ?_|refine WL.gyes rfl rfl rfl rfl ?_|refine WL.opno rfl rfl rfl rfl rfl rfl rfl ?_|refine WL.len rfl rfl zql ?_|refine WL.idx rfl rfl zqo zqm ?_|refine W.condT rfl ?_|refine W.condF rfl ?_)
  (first|refine (?_:W _ _ _ _ _)|refine (?_:WL _ _ _ _ _ _)|skip)
  try dsimp only [St.put,Nat.reduceAdd]
  refine W.tr (Tr.nilC 2 0 3 rfl rfl rfl) ?_
  refine W.tr (Tr.nilC 2 1 1 rfl rfl rfl) ?_
  refine W.tr (Tr.nilC 2 2 6 rfl rfl rfl) ?_
  refine W.tr (Tr.nilLs (t:=5) 3 rfl) ?_
  exact W.ret (finN rfl rfl rfl rfl)
 rw [decide_eq_false h4t] at hH
 have hP:=pPlain_FS p hO
 rw [h0] at hP
 have hA:=pAppend_FS p hO h0
 obtain ⟨w1,w2,w3⟩:=say_t hs
 obtain ⟨v1,v2,v3⟩:=say_f hs
 have hS1:=says_FS s true 7 (hasS s 7) w1 w2 w3
 have hS2:=says_FS s false 8 (hasS s 8) v1 v2 v3
 have hQ0:=redI_valid (s:=s) h0
 have hCa:=carryB s hs (redI s p) (redI_ok hO) hQ0 (redH s p) (redH_zr (p:=p) hs h0) (redZ (p:=p) hs)
 have hqe:ePce (redI s p)=.ag [.ls 3 (p.cs.map eCrs),.ls 1 (p.st.map eInt),.ls 6 ((redQ s p).map eEv)]:=rfl
 have hre:ePce ⟨p.cs,p.st,fnL (redH s p) (redN s p)⟩=.ag [.ls 3 (p.cs.map eCrs),.ls 1 (p.st.map eInt),.ls 6 ((fnL (redH s p) (redN s p)).map eEv)]:=rfl
 have hCa:Ctr Tryz.prog 38 [.ag [.ls 3 (p.cs.map eCrs),.ls 1 (p.st.map eInt),.sc (.bool (!hasS s 7)),.fn 34 [.pr [.sc (.bool (hasS s 7))],.pr [.sc (.bool (hasS s 8))]],.fn 32 [.pr [.sc (.int .u8 s)]],.fn 35 [.pr [.sc (.int .u8 s)]],.fn 37 [.pr [.sc (.int .u8 s)]]],.ag [.ls 3 (p.cs.map eCrs),.ls 1 (p.st.map eInt),.ls 6 ((redQ s p).map eEv)]]
   (.tu [.ag [.ls 3 (p.cs.map eCrs),.ls 1 (p.st.map eInt),.ls 6 ((fnL (redH s p) (redN s p)).map eEv)],.ls 3 ((lsL (redC s) (redH s p) (redQ s p) (redQ s p).length).map eLk)]):=hCa
 have hpl:ePce (plP p)=.ag [.ls 3 (p.cs.map eCrs),.ls 1 (p.st.map eInt),.ls 6 ((plE p).map eEv)]:=by rw [show plP p=⟨p.cs,p.st,plE p⟩ from if_pos h0];rfl
 rw [hpl] at hP
 rw [hPe] at hA hC hL hP ⊢
 have hq4:s=4→redQ s p=plE p:=fun h=>if_pos h
 have hqn:s≠4→redQ s p=p.evs:=fun h=>if_neg h
 have hNl:((fnL (redH s p) (redN s p)).map eEv).length=p.evs.length:=by rw [List.length_map,fnL_len,show (redN s p).length=(redQ s p).length from nwL_len _ _,redQ_len]
 have hfst:s=3→∀ e r,p.evs=e::r→∃ a b c d f SS,((fnL (redH s p) (redN s p)).map eEv)[((0:Int)).toNat]?=some [.sc (.bool a),.sc (.int .i64 b),.sc (.bool c),.sc (.bool d),.sc (.bool f),.ls 5 SS]∧SS.length=(nwS (redC s) e.stops).length:=fun h3 e r he=>by
  have hq:redQ s p=e::r:=by rw [hqn (by omega),he]
  have hk:0 < (redQ s p).length:=by rw [hq];exact Nat.zero_lt_succ _
  have hk2:0 < (redN s p).length:=by unfold redN;rw [nwL_len];exact hk
  have e2:(redQ s p)[0]=e:=by
   have:(redQ s p)[0]?=some e:=by rw [hq];rfl
   rw [List.getElem?_eq_getElem hk] at this
   exact Option.some.inj this
  have e3:(redN s p)[0]=nwE (redC s) 0 (redQ s p)[0]:=nwL_get hk
  refine ⟨(fnE (redH s p) 0 (nwE (redC s) 0 e)).bar,(fnE (redH s p) 0 (nwE (redC s) 0 e)).val,(fnE (redH s p) 0 (nwE (redC s) 0 e)).dot,(fnE (redH s p) 0 (nwE (redC s) 0 e)).three,(fnE (redH s p) 0 (nwE (redC s) 0 e)).tie,(fnE (redH s p) 0 (nwE (redC s) 0 e)).stops.map eStp,?_,?_⟩
  ·rw [show ((0:Int)).toNat=0 from rfl,List.getElem?_map,List.getElem?_eq_getElem (by rw [fnL_len];exact hk2),fnL_get hk2,e3,e2]
   rfl
  ·show (((nwS (redC s) e.stops).map _).map eStp).length=_
   rw [List.length_map,List.length_map]
 have hX:redX s p=if s=3∧frsB (redC s) p.evs=true then 31 else 0:=by
  unfold redX;rw [if_neg (fun h=>h hs),if_neg (fun h=>h h0),if_neg h4t]
 have hok:¬ (s=3∧frsB (redC s) p.evs=true)→ePce (redP s p)=.ag [.ls 3 (p.cs.map eCrs),.ls 1 (p.st.map eInt),.ls 6 ((fnL (redH s p) (redN s p)).map eEv)]∧redL s p=lsL (redC s) (redH s p) (redQ s p) (redQ s p).length:=fun h=>by
  have e:redX s p=0:=hX.trans (if_neg h)
  rw [redH_ok hs h0 h]
  exact ⟨by rw [show redP s p=_ from if_pos e];rfl,if_pos e⟩
 obtain ⟨RL,hRL⟩:∃ z,(lsL (redC s) (redH s p) (redQ s p) (redQ s p).length).map eLk=z:=⟨_,rfl⟩
 obtain ⟨RE,hRE⟩:∃ z,(fnL (redH s p) (redN s p)).map eEv=z:=⟨_,rfl⟩
 rw [hRE] at hCa hNl hfst hok
 rw [hRL] at hCa
 clear hRE hqe hre hpl
 refine zqe Tryz.func11 Tryz.ntmps11 fun w0 F0=>?_;dsimp only [St.init,number,Nat.reduceAdd]
 repeat (first|refine W.go rfl ?_|refine WL.nil ?_|refine WL.ev rfl ?_|refine WL.gyes rfl rfl rfl rfl ?_|refine WL.opno rfl rfl rfl rfl rfl rfl rfl ?_|refine WL.len rfl rfl zql ?_|refine WL.idx rfl rfl zqo zqm ?_|refine W.condT rfl ?_|refine W.condF rfl ?_)
 (first|refine (?_:W _ _ _ _ _)|refine (?_:WL _ _ _ _ _ _)|skip)
 try dsimp only [St.put,Nat.reduceAdd]
 refine WL.vl rfl (zqc Tryz.func25 hN) ?_
 repeat (first|refine W.go rfl ?_|refine WL.nil ?_|refine WL.ev rfl ?_|refine WL.gyes rfl rfl rfl rfl ?_|refine WL.opno rfl rfl rfl rfl rfl rfl rfl ?_|refine WL.len rfl rfl zql ?_|refine WL.idx rfl rfl zqo zqm ?_|refine W.condT rfl ?_|refine W.condF rfl ?_)
 (first|refine (?_:W _ _ _ _ _)|refine (?_:WL _ _ _ _ _ _)|skip)
 try dsimp only [St.put,Nat.reduceAdd]
 refine WL.vl rfl (zqc Tryz.func26 hC) ?_
 repeat (first|refine W.gob rfl ?_|refine WL.nil ?_|refine WL.bt rfl rfl rfl zqo ?_|refine WL.bf rfl rfl rfl zqo ?_|refine WL.nt rfl rfl rfl zqo ?_|refine WL.nf rfl rfl rfl zqo ?_|refine WL.e1 rfl ?_|refine WL.gyes rfl rfl rfl rfl ?_|refine WL.opno rfl rfl rfl rfl rfl rfl rfl ?_|refine WL.len rfl rfl zql ?_|refine WL.idx rfl rfl zqo zqm ?_|refine W.condT rfl ?_|refine W.condF rfl ?_)
 (first|refine (?_:W _ _ _ _ _)|refine (?_:WL _ _ _ _ _ _)|skip)
 try dsimp only [St.put,Nat.reduceAdd]
 refine WL.vl rfl (zqc Tryz.func27 hL) ?_
 repeat (first|refine W.gob rfl ?_|refine WL.nil ?_|refine WL.bt rfl rfl rfl zqo ?_|refine WL.bf rfl rfl rfl zqo ?_|refine WL.nt rfl rfl rfl zqo ?_|refine WL.nf rfl rfl rfl zqo ?_|refine WL.e1 rfl ?_|refine WL.gyes rfl rfl rfl rfl ?_|refine WL.opno rfl rfl rfl rfl rfl rfl rfl ?_|refine WL.len rfl rfl zql ?_|refine WL.idx rfl rfl zqo zqm ?_|refine W.condT rfl ?_|refine W.condF rfl ?_)
 (first|refine (?_:W _ _ _ _ _)|refine (?_:WL _ _ _ _ _ _)|skip)
 try dsimp only [St.put,Nat.reduceAdd]
 refine WL.vl rfl (zqc Tryz.func28 hH) ?_
 repeat (first|refine W.gob rfl ?_|refine WL.nil ?_|refine WL.bt rfl rfl rfl zqo ?_|refine WL.bf rfl rfl rfl zqo ?_|refine WL.nt rfl rfl rfl zqo ?_|refine WL.nf rfl rfl rfl zqo ?_|refine WL.e1 rfl ?_|refine WL.gyes rfl rfl rfl rfl ?_|refine WL.opno rfl rfl rfl rfl rfl rfl rfl ?_|refine WL.len rfl rfl zql ?_|refine WL.idx rfl rfl zqo zqm ?_|refine W.condT rfl ?_|refine W.condF rfl ?_)
 (first|refine (?_:W _ _ _ _ _)|refine (?_:WL _ _ _ _ _ _)|skip)
 try dsimp only [St.put,Nat.reduceAdd]
 refine WL.vl rfl (zqc Tryz.func29 hP) ?_
 repeat (first|refine W.go rfl ?_|refine WL.nil ?_|refine WL.ev rfl ?_|refine WL.gyes rfl rfl rfl rfl ?_|refine WL.opno rfl rfl rfl rfl rfl rfl rfl ?_|refine WL.len rfl rfl zql ?_|refine WL.idx rfl rfl zqo zqm ?_|refine W.condT rfl ?_|refine W.condF rfl ?_)
 (first|refine (?_:W _ _ _ _ _)|refine (?_:WL _ _ _ _ _ _)|skip)
 try dsimp only [St.put,Nat.reduceAdd]
 refine W.meet ⟨[(2,.pt 0 0 0),(4,.pt 2 0 0),(12,.pt 3 0 0)],[(0,.box 50 [.sc (.int .u8 s)]),(2,.box 47 [.sc (.slice none 0 0),.sc (.slice none 0 0),.sc (.slice none 0 0)]),(3,.box 47 [.ls 3 (p.cs.map eCrs),.ls 1 (p.st.map eInt),.ls 6 ((redQ s p).map eEv)])],4⟩ ?_ ?_
 ·(refine W.cond rfl (fun hif=>?_) (fun hif=>?_)<;>(try simp only [decide_eq_true_eq,decide_eq_false_iff_not,Int.not_lt,Int.not_le,Bool.not_eq_true',Bool.not_eq_false'] at hif))
  ·have h4:s≠4:=by simpa using hif
   rw [hqn h4]
   repeat (first|refine W.go rfl ?_|refine WL.nil ?_|refine WL.ev rfl ?_|refine WL.gyes rfl rfl rfl rfl ?_|refine WL.opno rfl rfl rfl rfl rfl rfl rfl ?_|refine WL.len rfl rfl zql ?_|refine WL.idx rfl rfl zqo zqm ?_|refine W.condT rfl ?_|refine W.condF rfl ?_)
   (first|refine (?_:W _ _ _ _ _)|refine (?_:WL _ _ _ _ _ _)|skip)
   try dsimp only [St.put,Nat.reduceAdd]
   refine WL.tr (Tr.nilA (t:=55) 2 6 rfl rfl rfl rfl) ?_
   refine WL.vl rfl (zqc Tryz.func30 hA) ?_
   repeat (first|refine W.go rfl ?_|refine WL.nil ?_|refine WL.ev rfl ?_|refine WL.gyes rfl rfl rfl rfl ?_|refine WL.opno rfl rfl rfl rfl rfl rfl rfl ?_|refine WL.len rfl rfl zql ?_|refine WL.idx rfl rfl zqo zqm ?_|refine W.condT rfl ?_|refine W.condF rfl ?_)
   (first|refine (?_:W _ _ _ _ _)|refine (?_:WL _ _ _ _ _ _)|skip)
   try dsimp only [St.put,Nat.reduceAdd]
   refine (?_:Tr _ _ _)
   exact (zqt id)
  ·have h4:s=4:=by simpa using hif
   rw [hq4 h4]
   repeat (first|refine W.go rfl ?_|refine WL.nil ?_|refine WL.ev rfl ?_|refine WL.gyes rfl rfl rfl rfl ?_|refine WL.opno rfl rfl rfl rfl rfl rfl rfl ?_|refine WL.len rfl rfl zql ?_|refine WL.idx rfl rfl zqo zqm ?_|refine W.condT rfl ?_|refine W.condF rfl ?_)
   (first|refine (?_:W _ _ _ _ _)|refine (?_:WL _ _ _ _ _ _)|skip)
   try dsimp only [St.put,Nat.reduceAdd]
   refine (?_:Tr _ _ _)
   exact (zqt id)
 obtain ⟨QE,hQE⟩:∃ z,(redQ s p).map eEv=z:=⟨_,rfl⟩
 rw [hQE] at hCa ⊢
 have h38:hasS s 8=!decide (s=3):=by
  rcases sys_cases hs with rfl|rfl|rfl|rfl<;>rfl
 obtain ⟨b7,hb7⟩:∃ z,hasS s 7=z:=⟨_,rfl⟩
 obtain ⟨b8,hb8⟩:∃ z,hasS s 8=z:=⟨_,rfl⟩
 rw [hb7] at hS1 hCa
 rw [hb8] at hS2 hCa h38
 repeat (first|refine W.go rfl ?_|refine WL.nil ?_|refine WL.ev rfl ?_|refine WL.gyes rfl rfl rfl rfl ?_|refine WL.opno rfl rfl rfl rfl rfl rfl rfl ?_|refine WL.len rfl rfl zql ?_|refine WL.idx rfl rfl zqo zqm ?_|refine W.condT rfl ?_|refine W.condF rfl ?_)
 (first|refine (?_:W _ _ _ _ _)|refine (?_:WL _ _ _ _ _ _)|skip)
 try dsimp only [St.put,Nat.reduceAdd]
 refine WL.tr (Tr.nilA (t:=62) 5 5 rfl rfl rfl rfl) ?_
 refine WL.vl rfl (zqc Tryz.func31 hS1) ?_
 repeat (first|refine W.go rfl ?_|refine WL.nil ?_|refine WL.ev rfl ?_|refine WL.gyes rfl rfl rfl rfl ?_|refine WL.opno rfl rfl rfl rfl rfl rfl rfl ?_|refine WL.len rfl rfl zql ?_|refine WL.idx rfl rfl zqo zqm ?_|refine W.condT rfl ?_|refine W.condF rfl ?_)
 (first|refine (?_:W _ _ _ _ _)|refine (?_:WL _ _ _ _ _ _)|skip)
 try dsimp only [St.put,Nat.reduceAdd]
 refine WL.tr (Tr.nilA (t:=66) 5 5 rfl rfl rfl rfl) ?_
 refine WL.vl rfl (zqc Tryz.func31 hS2) ?_
 repeat (first|refine W.go rfl ?_|refine WL.nil ?_|refine WL.ev rfl ?_|refine WL.gyes rfl rfl rfl rfl ?_|refine WL.opno rfl rfl rfl rfl rfl rfl rfl ?_|refine WL.len rfl rfl zql ?_|refine WL.idx rfl rfl zqo zqm ?_|refine W.condT rfl ?_|refine W.condF rfl ?_)
 (first|refine (?_:W _ _ _ _ _)|refine (?_:WL _ _ _ _ _ _)|skip)
 try dsimp only [St.put,Nat.reduceAdd]
 refine WL.tr (σ':=⟨[(17,.pt 7 0 0),(16,.pt 6 0 0),(15,.pt 5 0 0),(2,.pt 0 0 0),(4,.pt 2 0 0),(12,.pt 3 0 0)],[(7,.box 88 [.ls 3 (p.cs.map eCrs),.ls 1 (p.st.map eInt),.sc (.bool false),.sc .nilFunc,.sc .nilFunc,.sc .nilFunc,.sc .nilFunc]),(6,.box 4 [.sc (.bool b8)]),(5,.box 4 [.sc (.bool b7)]),(0,.box 50 [.sc (.int .u8 s)]),(2,.box 47 [.sc (.slice none 0 0),.sc (.slice none 0 0),.sc (.slice none 0 0)]),(3,.box 47 [.ls 3 (p.cs.map eCrs),.ls 1 (p.st.map eInt),.ls 6 QE])],8⟩) (zqt id) ?_
 refine WL.tr (Tr.freezeB 0 rfl rfl) ?_
 refine WL.tr (Tr.freezeB 5 rfl rfl) ?_
 refine WL.tr (Tr.freezeB 6 rfl rfl) ?_
 refine WL.tr (σ':=⟨[(17,.pt 7 0 0),(16,.pr [.sc (.bool b8)]),(15,.pr [.sc (.bool b7)]),(2,.pr [.sc (.int .u8 s)]),(4,.pt 2 0 0),(12,.pt 3 0 0)],[(7,.box 88 [.ls 3 (p.cs.map eCrs),.ls 1 (p.st.map eInt),.sc (.bool false),.sc .nilFunc,.sc .nilFunc,.sc .nilFunc,.sc .nilFunc]),(2,.box 47 [.sc (.slice none 0 0),.sc (.slice none 0 0),.sc (.slice none 0 0)]),(3,.box 47 [.ls 3 (p.cs.map eCrs),.ls 1 (p.st.map eInt),.ls 6 QE])],8⟩) (zqt id) ?_
 refine WL.vl rfl (WV.mkf rfl rfl) ?_
 repeat (first|refine W.go rfl ?_|refine WL.nil ?_|refine WL.ev rfl ?_|refine WL.gyes rfl rfl rfl rfl ?_|refine WL.opno rfl rfl rfl rfl rfl rfl rfl ?_|refine WL.len rfl rfl zql ?_|refine WL.idx rfl rfl zqo zqm ?_|refine W.condT rfl ?_|refine W.condF rfl ?_)
 (first|refine (?_:W _ _ _ _ _)|refine (?_:WL _ _ _ _ _ _)|skip)
 try dsimp only [St.put,Nat.reduceAdd]
 refine WL.vl rfl (WV.mkf rfl rfl) ?_
 repeat (first|refine W.go rfl ?_|refine WL.nil ?_|refine WL.ev rfl ?_|refine WL.gyes rfl rfl rfl rfl ?_|refine WL.opno rfl rfl rfl rfl rfl rfl rfl ?_|refine WL.len rfl rfl zql ?_|refine WL.idx rfl rfl zqo zqm ?_|refine W.condT rfl ?_|refine W.condF rfl ?_)
 (first|refine (?_:W _ _ _ _ _)|refine (?_:WL _ _ _ _ _ _)|skip)
 try dsimp only [St.put,Nat.reduceAdd]
 refine WL.vl rfl (WV.mkf rfl rfl) ?_
 repeat (first|refine W.go rfl ?_|refine WL.nil ?_|refine WL.ev rfl ?_|refine WL.gyes rfl rfl rfl rfl ?_|refine WL.opno rfl rfl rfl rfl rfl rfl rfl ?_|refine WL.len rfl rfl zql ?_|refine WL.idx rfl rfl zqo zqm ?_|refine W.condT rfl ?_|refine W.condF rfl ?_)
 (first|refine (?_:W _ _ _ _ _)|refine (?_:WL _ _ _ _ _ _)|skip)
 try dsimp only [St.put,Nat.reduceAdd]
 refine WL.vl rfl (WV.mkf rfl rfl) ?_
 repeat (first|refine W.go rfl ?_|refine WL.nil ?_|refine WL.ev rfl ?_|refine WL.gyes rfl rfl rfl rfl ?_|refine WL.opno rfl rfl rfl rfl rfl rfl rfl ?_|refine WL.len rfl rfl zql ?_|refine WL.idx rfl rfl zqo zqm ?_|refine W.condT rfl ?_|refine W.condF rfl ?_)
 (first|refine (?_:W _ _ _ _ _)|refine (?_:WL _ _ _ _ _ _)|skip)
 try dsimp only [St.put,Nat.reduceAdd]
 refine WL.vl rfl (zqc Tryz.func38 hCa) ?_
 by_cases h3:s=3
 rotate_left
 ·obtain ⟨r1,r2⟩:=hok (fun h=>h3 h.1)
  have r3:redX s p=0:=hX.trans (if_neg (fun h=>h3 h.1))
  rw [r2] at *
  rw [r1,r3,hRL]
  obtain rfl:b8=true:=by rw [h38,decide_eq_false h3];rfl
  repeat (first|refine W.go rfl ?_|refine WL.nil ?_|refine WL.ev rfl ?_|refine WL.gyes rfl rfl rfl rfl ?_|refine WL.opno rfl rfl rfl rfl rfl rfl rfl ?_|refine WL.len rfl rfl zql ?_|refine WL.idx rfl rfl zqo zqm ?_|refine W.condT rfl ?_|refine W.condF rfl ?_)
  (first|refine (?_:W _ _ _ _ _)|refine (?_:WL _ _ _ _ _ _)|skip)
  try dsimp only [St.put,Nat.reduceAdd]
  exact W.ret (finN rfl rfl rfl rfl)
 obtain rfl:b8=false:=by rw [h38,decide_eq_true h3];rfl
 have hRs:¬ (frsB (redC s) p.evs=true)→redX s p=0∧ePce (redP s p)=.ag [.ls 3 (p.cs.map eCrs),.ls 1 (p.st.map eInt),.ls 6 RE]∧(redL s p).map eLk=RL:=fun h=>by
  obtain ⟨r1,r2⟩:=hok (fun q=>h q.2)
  exact ⟨hX.trans (if_neg (fun q=>h q.2)),r1,(congrArg (List.map eLk) r2).trans hRL⟩
 clear hok
 cases hevs:p.evs with
 | nil =>
  obtain ⟨r3,r1,r2⟩:=hRs (by rw [hevs];exact Bool.false_ne_true)
  rw [r1,r2,r3]
  have hz:RE.length=0:=by rw [hNl,hevs];rfl
  clear hNl
  repeat (first|refine W.gob rfl ?_|refine WL.nil ?_|refine WL.bt rfl rfl rfl zqo ?_|refine WL.bf rfl rfl rfl zqo ?_|refine WL.nt rfl rfl rfl zqo ?_|refine WL.nf rfl rfl rfl zqo ?_|refine WL.e1 rfl ?_|refine WL.gyes rfl rfl rfl rfl ?_|refine WL.opno rfl rfl rfl rfl rfl rfl rfl ?_|refine WL.len rfl rfl zql ?_|refine WL.idx rfl rfl zqo zqm ?_|refine W.condT rfl ?_|refine W.condF rfl ?_)
  (first|refine (?_:W _ _ _ _ _)|refine (?_:WL _ _ _ _ _ _)|skip)
  try dsimp only [St.put,Nat.reduceAdd]
  exact W.ret (finN rfl rfl rfl rfl)
 | cons e r =>
  obtain ⟨a,b,c,d,f,SS,hat,hSL⟩:=hfst h3 e r hevs
  have hz:RE.length=r.length+1:=by rw [hNl,hevs];rfl
  clear hNl
  by_cases hz0:(nwS (redC s) e.stops).length=0
  ·have hf:frsB (redC s) p.evs=true:=by rw [hevs];exact decide_eq_true hz0
   have r3:redX s p=31:=hX.trans (if_pos ⟨h3,hf⟩)
   obtain ⟨r1,r2⟩:=hbad (by rw [r3];decide)
   rw [r1,r2,r3]
   rw [hz0] at hSL
   repeat (first|refine W.gob rfl ?_|refine WL.nil ?_|refine WL.bt rfl rfl rfl zqo ?_|refine WL.bf rfl rfl rfl zqo ?_|refine WL.nt rfl rfl rfl zqo ?_|refine WL.nf rfl rfl rfl zqo ?_|refine WL.e1 rfl ?_|refine WL.gyes rfl rfl rfl rfl ?_|refine WL.opno rfl rfl rfl rfl rfl rfl rfl ?_|refine WL.len rfl rfl zql ?_|refine WL.idx rfl rfl zqo zqm ?_|refine W.condT rfl ?_|refine W.condF rfl ?_)
   (first|refine (?_:W _ _ _ _ _)|refine (?_:WL _ _ _ _ _ _)|skip)
   try dsimp only [St.put,Nat.reduceAdd]
   refine WL.idx rfl rfl (Int.le_refl 0) hat ?_
   repeat (first|refine W.gob rfl ?_|refine WL.nil ?_|refine WL.bt rfl rfl rfl zqo ?_|refine WL.bf rfl rfl rfl zqo ?_|refine WL.nt rfl rfl rfl zqo ?_|refine WL.nf rfl rfl rfl zqo ?_|refine WL.e1 rfl ?_|refine WL.gyes rfl rfl rfl rfl ?_|refine WL.opno rfl rfl rfl rfl rfl rfl rfl ?_|refine WL.len rfl rfl zql ?_|refine WL.idx rfl rfl zqo zqm ?_|refine W.condT rfl ?_|refine W.condF rfl ?_)
   (first|refine (?_:W _ _ _ _ _)|refine (?_:WL _ _ _ _ _ _)|skip)
   try dsimp only [St.put,Nat.reduceAdd]
   refine W.tr (Tr.nilC 2 0 3 rfl rfl rfl) ?_
   refine W.tr (Tr.nilC 2 1 1 rfl rfl rfl) ?_
   refine W.tr (Tr.nilC 2 2 6 rfl rfl rfl) ?_
   refine W.tr (Tr.nilLs (t:=5) 3 rfl) ?_
   exact W.ret (finN rfl rfl rfl rfl)
  ·obtain ⟨r3,r1,r2⟩:=hRs (by rw [hevs];show ¬ (decide _=true);rw [decide_eq_true_eq];exact hz0)
   rw [r1,r2,r3]
   repeat (first|refine W.gob rfl ?_|refine WL.nil ?_|refine WL.bt rfl rfl rfl zqo ?_|refine WL.bf rfl rfl rfl zqo ?_|refine WL.nt rfl rfl rfl zqo ?_|refine WL.nf rfl rfl rfl zqo ?_|refine WL.e1 rfl ?_|refine WL.gyes rfl rfl rfl rfl ?_|refine WL.opno rfl rfl rfl rfl rfl rfl rfl ?_|refine WL.len rfl rfl zql ?_|refine WL.idx rfl rfl zqo zqm ?_|refine W.condT rfl ?_|refine W.condF rfl ?_)
   (first|refine (?_:W _ _ _ _ _)|refine (?_:WL _ _ _ _ _ _)|skip)
   try dsimp only [St.put,Nat.reduceAdd]
   refine WL.idx rfl rfl (Int.le_refl 0) hat ?_
   repeat (first|refine W.gob rfl ?_|refine WL.nil ?_|refine WL.bt rfl rfl rfl zqo ?_|refine WL.bf rfl rfl rfl zqo ?_|refine WL.nt rfl rfl rfl zqo ?_|refine WL.nf rfl rfl rfl zqo ?_|refine WL.e1 rfl ?_|refine WL.gyes rfl rfl rfl rfl ?_|refine WL.opno rfl rfl rfl rfl rfl rfl rfl ?_|refine WL.len rfl rfl zql ?_|refine WL.idx rfl rfl zqo zqm ?_|refine W.condT rfl ?_|refine W.condF rfl ?_)
   (first|refine (?_:W _ _ _ _ _)|refine (?_:WL _ _ _ _ _ _)|skip)
   try dsimp only [St.put,Nat.reduceAdd]
   exact W.ret (finN rfl rfl rfl rfl)
end Go.Proofs.YtockempedekkkaaGreatDoor
