/- The laws of reports. -/
import Derived.Test.YtockempedekkkaaGreatDoorYIJq
import Derived.Test.YtockempedekkkaaGreatDoorYHJq
set_option maxHeartbeats 8000000
set_option maxRecDepth 100000
set_option linter.unusedVariables false
set_option linter.unusedSimpArgs false
namespace Go.Proofs.YtockempedekkkaaGreatDoor
section
open Go.RowKit
def p04:Pce:=⟨[(60,3,false),(55,3,false)],[1,2,3],[⟨false,4,false,false,false,[(1,3,2,0,0),(2,0,0,0,0)]⟩]⟩
theorem p04_ok:PcOk p04:=by
 refine⟨by decide,by decide,by decide,fun k hk=>?_⟩
 have h1:p04.evs.length=1:=rfl
 have h0:k=0:=by omega
 subst h0
 exact Nat.le_of_ble_eq_true rfl
theorem red04:redX 2 p04=0∧redL 2 p04=[(0,1,2)]∧(redP 2 p04).evs.length=1:=by decide +kernel
theorem cap04:capE p04 1=0∧capL p04 1=[(0,2,1)]∧(capP p04 1).evs.length=1:=by decide +kernel
theorem eqs_lak (x a c y b d:Int) (w:World):(Op.equalIn 10000 53 (.agg #[.int .i64 x,.int .i64 a,.int .i64 c]) (.agg #[.int .i64 y,.int .i64 b,.int .i64 d])).run Tryz.prog w=.ok (x == y && (a == b && c == d)) w:=by
 rw [run_equalIn_agg w 9999 _ _ _ zqk zqk]
 refine Eq.trans (congrArg (fun fs=>Sem.run _ (Op.eqFields 9999 _ _ fs) w) (rfl:(Tryz.prog.fieldsOf 53).toList=[_,_,_])) ?_
 by_cases h1:x=y
 ·subst h1
  by_cases h2:a=b
  ·subst h2
   by_cases h3:c=d
   ·subst h3;simp [go_sem]
   ·simp [go_sem,h3]
  ·simp [go_sem,h2]
 ·simp [go_sem,h1]
theorem works04_FS:Ctr Tryz.prog 5 [] (.sc (.bool true)):=by
 have hR:=pReduce_FS 2 p04 p04_ok
 have hC:=pCapo_FS p04 p04_ok 1
 rw [red04.1,red04.2.1] at hR
 rw [cap04.1,cap04.2.1] at hC
 obtain ⟨⟨cs1,st1,ev1⟩,hP1⟩:∃ z,redP 2 p04=z:=⟨_,rfl⟩
 obtain ⟨⟨cs2,st2,ev2⟩,hP2⟩:∃ z,capP p04 1=z:=⟨_,rfl⟩
 have l1:(ev1.map eEv).length=1:=by rw [List.length_map];have:=red04.2.2;rw [hP1] at this;exact this
 have l2:(ev2.map eEv).length=1:=by rw [List.length_map];have:=cap04.2.2;rw [hP2] at this;exact this
 rw [hP1] at hR
 rw [hP2] at hC
 have hR:Ctr Tryz.prog 11 [.sc (.int .u8 2),ePce p04] (.tu [.ag [.ls 3 (cs1.map eCrs),.ls 1 (st1.map eInt),.ls 6 (ev1.map eEv)],.ls 3 [[.sc (.int .i64 0),.sc (.int .i64 1),.sc (.int .i64 2)]],.sc (.int .i64 0)]):=hR
 have hC:Ctr Tryz.prog 12 [ePce p04,.sc (.int .i64 1)] (.tu [.ag [.ls 3 (cs2.map eCrs),.ls 1 (st2.map eInt),.ls 6 (ev2.map eEv)],.ls 3 [[.sc (.int .i64 0),.sc (.int .i64 2),.sc (.int .i64 1)]],.sc (.int .i64 0)]):=hC
 obtain ⟨E1,hE1⟩:∃ z,ev1.map eEv=z:=⟨_,rfl⟩
 obtain ⟨E2,hE2⟩:∃ z,ev2.map eEv=z:=⟨_,rfl⟩
 rw [hE1] at hR l1
 rw [hE2] at hC l2
 refine zqe Tryz.func5 Tryz.ntmps5 fun w0 F0=>?_;dsimp only [St.init,number,Nat.reduceAdd]
 repeat (first|refine W.go rfl ?_|refine WL.nil ?_|refine WL.ev rfl ?_|refine WL.gyes rfl rfl rfl rfl ?_|refine WL.len rfl rfl zql ?_|refine WL.idx rfl rfl zqo zqm ?_)
 (first|refine (?_:W _ _ _ _ _)|refine (?_:WL _ _ _ _ _ _)|skip)
 try dsimp only [St.put,Nat.reduceAdd]
 refine WL.tr (Tr.freeze 0 rfl) ?_
 refine WL.tr (Tr.freeze 1 rfl) ?_
 refine WL.tr (Tr.freeze 3 rfl) ?_
 repeat (first|refine W.go rfl ?_|refine WL.nil ?_|refine WL.ev rfl ?_|refine WL.gyes rfl rfl rfl rfl ?_|refine WL.len rfl rfl zql ?_|refine WL.idx rfl rfl zqo zqm ?_)
 (first|refine (?_:W _ _ _ _ _)|refine (?_:WL _ _ _ _ _ _)|skip)
 try dsimp only [St.put,Nat.reduceAdd]
 refine WL.tr (Tr.freeze 4 rfl) ?_
 refine WL.vl rfl (zqc Tryz.func11 hR) ?_
 repeat (first|refine W.go rfl ?_|refine WL.nil ?_|refine WL.ev rfl ?_|refine WL.gyes rfl rfl rfl rfl ?_|refine WL.len rfl rfl zql ?_|refine WL.idx rfl rfl zqo zqm ?_)
 (first|refine (?_:W _ _ _ _ _)|refine (?_:WL _ _ _ _ _ _)|skip)
 try dsimp only [St.put,Nat.reduceAdd]
 refine WL.vl rfl (zqc Tryz.func12 hC) ?_
 repeat (first|refine W.gob rfl ?_|refine WL.nil ?_|refine WL.bt rfl rfl rfl zqo ?_|refine WL.e1 rfl ?_|refine WL.gyes rfl rfl rfl rfl ?_|refine WL.len rfl rfl zql ?_|refine WL.idx rfl rfl zqo zqm ?_)
 (first|refine (?_:W _ _ _ _ _)|refine (?_:WL _ _ _ _ _ _)|skip)
 try dsimp only [St.put,Nat.reduceAdd]
 refine WL.idx rfl rfl (Int.le_refl 0) rfl ?_
 repeat (first|refine W.gob rfl ?_|refine WL.nil ?_|refine WL.bt rfl rfl rfl zqo ?_|refine WL.e1 rfl ?_|refine WL.gyes rfl rfl rfl rfl ?_|refine WL.len rfl rfl zql ?_|refine WL.idx rfl rfl zqo zqm ?_)
 (first|refine (?_:W _ _ _ _ _)|refine (?_:WL _ _ _ _ _ _)|skip)
 try dsimp only [St.put,Nat.reduceAdd]
 refine WL.vl rfl (WV.aeq rfl rfl rfl rfl rfl zqk (fun w=>eqs_lak _ _ _ _ _ _ w)) ?_
 repeat (first|refine W.gob rfl ?_|refine WL.nil ?_|refine WL.bt rfl rfl rfl zqo ?_|refine WL.e1 rfl ?_|refine WL.gyes rfl rfl rfl rfl ?_|refine WL.len rfl rfl zql ?_|refine WL.idx rfl rfl zqo zqm ?_)
 (first|refine (?_:W _ _ _ _ _)|refine (?_:WL _ _ _ _ _ _)|skip)
 try dsimp only [St.put,Nat.reduceAdd]
 refine WL.idx rfl rfl (Int.le_refl 0) rfl ?_
 repeat (first|refine W.gob rfl ?_|refine WL.nil ?_|refine WL.bt rfl rfl rfl zqo ?_|refine WL.e1 rfl ?_|refine WL.gyes rfl rfl rfl rfl ?_|refine WL.len rfl rfl zql ?_|refine WL.idx rfl rfl zqo zqm ?_)
 (first|refine (?_:W _ _ _ _ _)|refine (?_:WL _ _ _ _ _ _)|skip)
 try dsimp only [St.put,Nat.reduceAdd]
 refine WL.vl rfl (WV.aeq rfl rfl rfl rfl rfl zqk (fun w=>eqs_lak _ _ _ _ _ _ w)) ?_
 repeat (first|refine W.gob rfl ?_|refine WL.nil ?_|refine WL.bt rfl rfl rfl zqo ?_|refine WL.e1 rfl ?_|refine WL.gyes rfl rfl rfl rfl ?_|refine WL.len rfl rfl zql ?_|refine WL.idx rfl rfl zqo zqm ?_)
 (first|refine (?_:W _ _ _ _ _)|refine (?_:WL _ _ _ _ _ _)|skip)
 try dsimp only [St.put,Nat.reduceAdd]
 exact W.ret zqr
end
section
open Go.RowKit
theorem readsReports_G (t:List UInt8):Ctg tabR Tryz.prog 4 [.sc (.string (bs t))] (.sc (.bool true)):=by
 refine Ctg.intro stabR Tryz.func4 rfl Tryz.ntmps4 (Nat.le_of_ble_eq_true rfl) (bd_all rfl) fun w0 F0 hB=>?_;dsimp only [St.init,number,Nat.reduceAdd]
 repeat (first|refine W.go rfl ?_|refine WL.nil ?_|refine WL.ev rfl ?_|refine WL.gyes rfl rfl rfl rfl ?_|refine WL.len rfl rfl zql ?_)
 (first|refine (?_:W _ _ _ _ _)|refine (?_:WL _ _ _ _ _ _)|skip)
 try dsimp only [St.put,Nat.reduceAdd]
 (refine W.cond rfl (fun hif=>?_) (fun hif=>?_)<;>(try simp only [decide_eq_true_eq,decide_eq_false_iff_not,Int.not_lt,Int.not_le,Bool.not_eq_true',Bool.not_eq_false'] at hif))
 ·repeat (first|refine W.go rfl ?_|refine WL.nil ?_|refine WL.ev rfl ?_|refine WL.gyes rfl rfl rfl rfl ?_|refine WL.len rfl rfl zql ?_)
  (first|refine (?_:W _ _ _ _ _)|refine (?_:WL _ _ _ _ _ _)|skip)
  try dsimp only [St.put,Nat.reduceAdd]
  refine WL.vl rfl (zqc Tryz.func5 works04_FS) ?_
  repeat (first|refine W.go rfl ?_|refine WL.nil ?_|refine WL.ev rfl ?_|refine WL.gyes rfl rfl rfl rfl ?_|refine WL.len rfl rfl zql ?_)
  (first|refine (?_:W _ _ _ _ _)|refine (?_:WL _ _ _ _ _ _)|skip)
  try dsimp only [St.put,Nat.reduceAdd]
  exact W.ret zqr
 have hl:t.length≤20000:=by omega
 have hj:=rq_spl_join 10 t
 obtain ⟨h1,h2⟩:=rq_spl_no 10 t
 have hP:=pParse_G (rq_spl 10 t).1 (rq_spl 10 t).2 h1 h2 (by rw [hj];omega)
 rw [hj] at hP
 have hR:=rParse_FS t zqo
 have hnum:=rq_num_le (rq_spl 10 t).2 (rq_spl 10 t).1
 rw [hj] at hnum
 have hLl:(rq_prL (rq_spl 10 t).1 (rq_spl 10 t).2).length≤30000:=by
  unfold rq_prL
  cases hx:rq_prV (rq_spl 10 t).1 (rq_spl 10 t).2 with
  | none=>simp
  | some xs =>
   have:=(rq_prV_some hx).2.1
   rw [this];simp;omega
 obtain ⟨L,hL⟩:∃ z,rq_prL (rq_spl 10 t).1 (rq_spl 10 t).2=z:=⟨_,rfl⟩
 obtain ⟨E,hE⟩:∃ z,rq_prE (rq_spl 10 t).1 (rq_spl 10 t).2=z:=⟨_,rfl⟩
 rw [hL,hE] at hP hR
 rw [hL] at hLl
 have hS:=sameLk_FS L hLl
 repeat (first|refine W.go rfl ?_|refine WL.nil ?_|refine WL.ev rfl ?_|refine WL.gyes rfl rfl rfl rfl ?_|refine WL.len rfl rfl zql ?_)
 (first|refine (?_:W _ _ _ _ _)|refine (?_:WL _ _ _ _ _ _)|skip)
 try dsimp only [St.put,Nat.reduceAdd]
 refine WL.vl rfl (WV.callG hB rfl (callF Tryz.func8 rfl rfl) rfl rfl hP) ?_
 repeat (first|refine W.go rfl ?_|refine WL.nil ?_|refine WL.ev rfl ?_|refine WL.gyes rfl rfl rfl rfl ?_|refine WL.len rfl rfl zql ?_)
 (first|refine (?_:W _ _ _ _ _)|refine (?_:WL _ _ _ _ _ _)|skip)
 try dsimp only [St.put,Nat.reduceAdd]
 refine WL.vl rfl (zqc Tryz.func10 hR) ?_
 repeat (first|refine W.gob rfl ?_|refine WL.nil ?_|refine WL.bt rfl rfl rfl zqo ?_|refine WL.e1 rfl ?_|refine WL.gyes rfl rfl rfl rfl ?_|refine WL.len rfl rfl zql ?_)
 (first|refine (?_:W _ _ _ _ _)|refine (?_:WL _ _ _ _ _ _)|skip)
 try dsimp only [St.put,Nat.reduceAdd]
 refine WL.vl rfl (zqc Tryz.func9 hS) ?_
 repeat (first|refine W.gob rfl ?_|refine WL.nil ?_|refine WL.bt rfl rfl rfl zqo ?_|refine WL.e1 rfl ?_|refine WL.gyes rfl rfl rfl rfl ?_|refine WL.len rfl rfl zql ?_)
 (first|refine (?_:W _ _ _ _ _)|refine (?_:WL _ _ _ _ _ _)|skip)
 try dsimp only [St.put,Nat.reduceAdd]
 refine WL.vl rfl (zqc Tryz.func5 works04_FS) ?_
 repeat (first|refine W.gob rfl ?_|refine WL.nil ?_|refine WL.bt rfl rfl rfl zqo ?_|refine WL.e1 rfl ?_|refine WL.gyes rfl rfl rfl rfl ?_|refine WL.len rfl rfl zql ?_)
 (first|refine (?_:W _ _ _ _ _)|refine (?_:WL _ _ _ _ _ _)|skip)
 try dsimp only [St.put,Nat.reduceAdd]
 exact W.ret zqr
end
end Go.Proofs.YtockempedekkkaaGreatDoor
