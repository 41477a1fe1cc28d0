/- ConveySystems: the walk. -/
import Derived.Test.YtaeelcfjkhfpkaaGreatYISq
import Derived.Test.YtaeelcfjkhfpkaaGreatYHSq
import Derived.Test.YtaeelcfjkhfpkaaGreatEOSq
set_option maxHeartbeats 8000000
set_option maxRecDepth 100000
set_option linter.unusedVariables false
set_option linter.unusedSimpArgs false
namespace Go.Proofs.YtaeelcfjkhfpkaaGreat
section
open Go.RowKit
def p04:Pce:=⟨[(60,3,false),(55,3,false)],[1,2,3],[⟨false,4,false,false,false,[(1,3,2,0,0),(2,0,0,0,0)]⟩]⟩
theorem p04_ok:PcOk p04:=by
 refine⟨by decide,by decide,by decide,fun k hk=>?_⟩
 have h1:p04.evs.length=1:=rfl
 have h0:k=0:=by omega
 subst h0
 exact Nat.le_of_ble_eq_true rfl
theorem red04:redX 2 p04=0∧redL 2 p04=[(0,1,2)]∧(redP 2 p04).evs.length=1:=by decide +kernel
theorem cap04:capE p04 1=0∧capL p04 1=[(0,2,1)]∧(capP p04 1).evs.length=1:=by decide +kernel
theorem eqs_lak (x a c y b d:Int) (w:World):(Op.equalIn 10000 72 (.agg #[.int .i64 x,.int .i64 a,.int .i64 c]) (.agg #[.int .i64 y,.int .i64 b,.int .i64 d])).run Tryz.prog w=.ok (x == y && (a == b && c == d)) w:=by
 rw [run_equalIn_agg w 9999 _ _ _ zqk zqk]
 refine Eq.trans (congrArg (fun fs=>Sem.run _ (Op.eqFields 9999 _ _ fs) w) (rfl:(Tryz.prog.fieldsOf 72).toList=[_,_,_])) ?_
 by_cases h1:x=y
 ·subst h1
  by_cases h2:a=b
  ·subst h2
   by_cases h3:c=d
   ·subst h3;simp [go_sem]
   ·simp [go_sem,h3]
  ·simp [go_sem,h2]
 ·simp [go_sem,h1]
theorem works04_FS:Ctr Tryz.prog 14 [] (.sc (.bool true)):=by
 have hR:=pReduce_FS 2 p04 p04_ok
 have hC:=pCapo_FS p04 p04_ok 1
 rw [red04.1,red04.2.1] at hR
 rw [cap04.1,cap04.2.1] at hC
 obtain ⟨⟨cs1,st1,ev1⟩,hP1⟩:∃ z,redP 2 p04=z:=⟨_,rfl⟩
 obtain ⟨⟨cs2,st2,ev2⟩,hP2⟩:∃ z,capP p04 1=z:=⟨_,rfl⟩
 have l1:(ev1.map eEv).length=1:=by rw [List.length_map];have:=red04.2.2;rw [hP1] at this;exact this
 have l2:(ev2.map eEv).length=1:=by rw [List.length_map];have:=cap04.2.2;rw [hP2] at this;exact this
 rw [hP1] at hR
 rw [hP2] at hC
 have hR:Ctr Tryz.prog 16 [.sc (.int .u8 2),ePce p04] (.tu [.ag [.ls 3 (cs1.map eCrs),.ls 1 (st1.map eInt),.ls 6 (ev1.map eEv)],.ls 3 [[.sc (.int .i64 0),.sc (.int .i64 1),.sc (.int .i64 2)]],.sc (.int .i64 0)]):=hR
 have hC:Ctr Tryz.prog 23 [ePce p04,.sc (.int .i64 1)] (.tu [.ag [.ls 3 (cs2.map eCrs),.ls 1 (st2.map eInt),.ls 6 (ev2.map eEv)],.ls 3 [[.sc (.int .i64 0),.sc (.int .i64 2),.sc (.int .i64 1)]],.sc (.int .i64 0)]):=hC
 obtain ⟨E1,hE1⟩:∃ z,ev1.map eEv=z:=⟨_,rfl⟩
 obtain ⟨E2,hE2⟩:∃ z,ev2.map eEv=z:=⟨_,rfl⟩
 rw [hE1] at hR l1
 rw [hE2] at hC l2
 refine zqe Tryz.func14 Tryz.ntmps14 fun w0 F0=>?_;dsimp only [St.init,number,Nat.reduceAdd]
 repeat refine W.go rfl ?_
 refine (?_:WL _ _ _ _ _ _)
 refine WL.tr (Tr.freeze 0 rfl) ?_
 refine WL.tr (Tr.freeze 1 rfl) ?_
 refine WL.tr (Tr.freeze 3 rfl) ?_
 repeat (first|refine W.go rfl ?_|refine WL.ev rfl ?_)
 refine (?_:WL _ _ _ _ _ _)
 refine WL.tr (Tr.freeze 4 rfl) ?_
 refine WL.vl rfl (zqc Tryz.func16 hR) ?_
 repeat (first|refine W.go rfl ?_|refine WL.ev rfl ?_)
 refine (?_:WL _ _ _ _ _ _)
 refine WL.vl rfl (zqc Tryz.func23 hC) ?_
 repeat (first|refine W.gob rfl ?_|refine WL.nil ?_|refine WL.bt rfl rfl rfl zqo ?_|refine WL.e1 rfl ?_|refine WL.gyes rfl rfl rfl rfl ?_|refine WL.len rfl rfl zql ?_)
 refine (?_:WL _ _ _ _ _ _)
 refine WL.idx rfl rfl (Int.le_refl 0) rfl ?_
 repeat (first|refine WL.e1 rfl ?_|refine WL.gyes rfl rfl rfl rfl ?_)
 refine (?_:WL _ _ _ _ _ _)
 refine WL.vl rfl (WV.aeq rfl rfl rfl rfl rfl zqk (fun w=>eqs_lak _ _ _ _ _ _ w)) ?_
 repeat (first|refine WL.bt rfl rfl rfl zqo ?_|refine WL.e1 rfl ?_|refine WL.gyes rfl rfl rfl rfl ?_|refine WL.len rfl rfl zql ?_)
 refine (?_:WL _ _ _ _ _ _)
 refine WL.idx rfl rfl (Int.le_refl 0) rfl ?_
 repeat (first|refine WL.e1 rfl ?_|refine WL.gyes rfl rfl rfl rfl ?_)
 refine (?_:WL _ _ _ _ _ _)
 refine WL.vl rfl (WV.aeq rfl rfl rfl rfl rfl zqk (fun w=>eqs_lak _ _ _ _ _ _ w)) ?_
 repeat (first|refine WL.nil ?_|refine WL.e1 rfl ?_)
 refine (?_:W _ _ _ _ _)
 exact W.ret zqr
end
section
open Go.RowKit
theorem sysL_can {p:Pce} {x:Int} (h:x∈sysL p):canB p x=true:=by
 unfold sysL at h
 split at h
 ·exact(List.mem_filter.1 h).2
 ·cases h
theorem sysL_len(p:Pce):(sysL p).length≤4:=by
 unfold sysL
 split
 ·exact List.length_filter_le _ _
 ·simp
theorem systems_FS (p:Pce):Ctr Tryz.prog 6 [ePce p] (.sc (.bool true)):=by
 have hBg:=big_FS p
 by_cases hif:bigB p=true
 ·rw [hif] at hBg
  refine zqe Tryz.func6 Tryz.ntmps6 fun w0 F0=>?_;dsimp only [St.init,number,Nat.reduceAdd]
  repeat (first|refine W.gob rfl ?_|refine WL.nil ?_|refine WL.e1 rfl ?_)
  refine (?_:WL _ _ _ _ _ _)
  refine WL.vl rfl (zqc Tryz.func25 hBg) ?_
  repeat (first|refine W.gob rfl ?_|refine WL.nil ?_|refine W.condT rfl ?_)
  refine (?_:WL _ _ _ _ _ _)
  refine WL.vl rfl (zqc Tryz.func14 works04_FS) ?_
  repeat (first|refine WL.nil ?_|refine WL.e1 rfl ?_)
  refine (?_:W _ _ _ _ _)
  exact W.ret zqr
 have hif:bigB p=false:=by simpa using hif
 rw [hif] at hBg
 have hO:=pcOk_of2 hif
 have hCp:=pcCopy_FS p hO
 have hS1:=pSystems_FS p hO
 have hS2:=rSystems_FS p hO
 have hcn:∀ k (h:k < (sysL p).length),Ctr Tryz.prog 28 [.sc (.int .u8 (sysL p)[k]),ePce p] (.sc (.bool true)):=fun k h=>by
  have h1:=pCan_FS (sysL p)[k] p hO
  have h2:(lksE (sysL p)[k] p == 0 && ((lksR (sysL p)[k] p).length:Int) == 0)=true:=sysL_can (List.getElem_mem h)
  rw [h2] at h1
  exact h1
 have hAt:∀ k (h:k < (sysL p).length),((sysL p).map eSy)[((k:Nat):Int).toNat]?=some [.sc (.int .u8 (sysL p)[k])]:=fun k h=>by
  rw [Int.toNat_natCast,List.getElem?_map,List.getElem?_eq_getElem h];rfl
 have hEl:((sysL p).map eSy).length=(sysL p).length:=List.length_map _
 have hl4:=sysL_len p
 obtain ⟨SE,hSE⟩:∃ z,(sysL p).map eSy=z:=⟨_,rfl⟩
 obtain ⟨E,hE⟩:∃ z,pceE p=z:=⟨_,rfl⟩
 rw [hSE,hE] at hS1 hS2
 rw [hSE] at hAt hEl
 have hPe:ePce p=.ag [.ls 3 (p.cs.map eCrs),.ls 1 (p.st.map eInt),.ls 6 (p.evs.map eEv)]:=rfl
 rw [hPe] at hBg hCp hS1 hS2 ⊢
 simp only [hPe] at hcn
 clear hSE hE
 refine zqe Tryz.func6 Tryz.ntmps6 fun w0 F0=>?_;dsimp only [St.init,number,Nat.reduceAdd]
 repeat (first|refine W.gob rfl ?_|refine WL.nil ?_|refine WL.e1 rfl ?_)
 refine (?_:WL _ _ _ _ _ _)
 refine WL.vl rfl (zqc Tryz.func25 hBg) ?_
 repeat (first|refine W.gob rfl ?_|refine WL.nil ?_|refine WL.e1 rfl ?_|refine W.condF rfl ?_)
 refine (?_:WL _ _ _ _ _ _)
 refine WL.vl rfl (zqc Tryz.func15 hCp) ?_
 refine (?_:WL _ _ _ _ _ _)
 refine WL.vl rfl (zqc Tryz.func26 hS1) ?_
 repeat (first|refine W.gob rfl ?_|refine WL.nil ?_|refine WL.e1 rfl ?_)
 refine (?_:WL _ _ _ _ _ _)
 refine WL.vl rfl (zqc Tryz.func27 hS2) ?_
 repeat (first|refine W.gob rfl ?_|refine WL.nil ?_|refine WL.nf rfl rfl rfl zqo ?_|refine WL.e1 rfl ?_|refine WL.gyes rfl rfl rfl rfl ?_|refine WL.len rfl rfl rfl ?_|refine W.condF rfl ?_)
 refine (?_:W _ _ _ _ _)
 refine W.loop (fun k:Nat=>k≤(sysL p).length) (fun k=>⟨[(1,.pt 0 0 0),(3,.ls 1 SE),(5,.ls 1 SE),(7,.sc (.int .i64 k))],[(0,.box 29 [.ls 3 (p.cs.map eCrs),.ls 1 (p.st.map eInt),.ls 6 (p.evs.map eEv)])],1⟩) (fun k=>(sysL p).length - k) 0 zqo (zqt id) fun k hk=>?_
 by_cases hlt:k < (sysL p).length
 ·have h1:=hAt k hlt
  have h2:=hcn k hlt
  obtain ⟨x,hx⟩:∃ z,(sysL p)[k]=z:=⟨_,rfl⟩
  rw [hx] at h1 h2
  repeat (first|refine W.gob rfl ?_|refine WL.nil ?_|refine WL.bt rfl rfl rfl zqo ?_|refine WL.e1 rfl ?_|refine WL.len rfl rfl rfl ?_|refine W.condT rfl ?_)
  refine (?_:W _ _ _ _ _)
  refine W.drawK zqk zqk ?_
  repeat refine DK.st rfl ?_
  refine DK.idx rfl rfl zqo h1 ?_
  repeat refine DK.st rfl ?_
  refine DK.idx rfl rfl zqo h1 ?_
  repeat (first|refine DK.ff rfl (by first|(simp;done)|fail) ?_|refine DK.st rfl ?_)
  refine DK.idx rfl rfl zqo h1 ?_
  repeat refine DK.st rfl ?_
  refine DK.vl rfl (zqc Tryz.func15 hCp) ?_
  refine DK.vl rfl (zqc Tryz.func28 h2) ?_
  repeat (first|refine DK.ff rfl (by first|(simp;done)|fail) ?_|refine DK.nil ?_)
  repeat (first|refine W.gob rfl ?_|refine WL.nil ?_|refine WL.e1 rfl ?_|refine WL.ar rfl rfl (by unfold I64;omega) ?_|refine W.condF rfl ?_)
  exact ⟨k+1,by omega,by omega,(zqt id)⟩
 ·obtain rfl:k=(sysL p).length:=by omega
  repeat (first|refine W.gob rfl ?_|refine WL.nil ?_|refine WL.bf rfl rfl rfl zqo ?_|refine WL.e1 rfl ?_|refine WL.len rfl rfl rfl ?_|refine W.condF rfl ?_)
  refine (?_:WL _ _ _ _ _ _)
  refine WL.vl rfl (zqc Tryz.func14 works04_FS) ?_
  repeat (first|refine WL.nil ?_|refine WL.e1 rfl ?_)
  refine (?_:W _ _ _ _ _)
  exact W.ret zqr
theorem systems_walk (p:Pce) (v:Value) (w:World) (h:RP (fun q=>w.cell? q) (ePce p) v):Calls Tryz.prog 6 #[v] w (Ret (.bool true) w):=by
 refine (systems_FS p w (fun q=>w.cell? q) [v] (fun _ _ h=>h) ⟨rfl,fun i av u a b=>?_⟩).mono fun e w' ⟨u,F',he,hb,_,_,_,hr⟩=>⟨?_,hb⟩
 ·match i with
  | 0=>cases a;cases b;exact h
  | i+1=>simp at a
 ·rw [he,hr.sc_eq]
end
end Go.Proofs.YtaeelcfjkhfpkaaGreat
