/- ConveyReduces: the walk. -/
import Derived.Test.YtaeelcfjkhfpkaaGreatZ5Tq
import Derived.Test.YtaeelcfjkhfpkaaGreatEOTq
set_option maxHeartbeats 8000000
set_option maxRecDepth 100000
set_option linter.unusedVariables false
set_option linter.unusedSimpArgs false
namespace Go.Proofs.YtaeelcfjkhfpkaaGreat
open Go.RowKit
theorem small_FS (p:Pce):Ctr Tryz.prog 13 [ePce p] (.sc (.bool (!longB p))):=by
 refine zqe Tryz.func13 Tryz.ntmps13 fun w0 F0=>?_;dsimp only [St.init,number,Nat.reduceAdd]
 repeat refine W.go rfl ?_
 refine (?_:WL _ _ _ _ _ _)
 refine WL.vl rfl (WV.call rfl (callF Tryz.func43 rfl rfl) rfl rfl (long_FS p)) ?_
 repeat refine WL.ev rfl ?_
 refine (?_:W _ _ _ _ _)
 exact W.ret zqr
theorem redP_ok {s:Int} {p:Pce} (hO:PcOk p):PcOk (redP s p):=by
 unfold redP
 split
 ·refine ⟨hO.n1,hO.n2,?_,fun k hk=>?_⟩
  ·show (fnL _ _).length≤420
   rw [fnL_len]
   unfold redN
   rw [nwL_len,redQ_len]
   exact hO.n3
  ·have hk2:k<(redN s p).length:=by
    have hk:k<(fnL (znH s (redN s p)) (redN s p)).length:=hk
    rw [fnL_len] at hk;exact hk
   have hk3:k<(redQ s p).length:=by unfold redN at hk2;rw [nwL_len] at hk2;exact hk2
   have e1:(fnL (znH s (redN s p)) (redN s p))[k]'hk=fnE (znH s (redN s p)) k (nwE (redC s) k (redQ s p)[k]):=by
    rw [fnL_get hk2]
    congr 1
    exact nwL_get hk3
   show ((fnL (znH s (redN s p)) (redN s p))[k]'hk).stops.length≤20
   rw [e1]
   show ((nwS (redC s) (redQ s p)[k].stops).map _).length≤20
   rw [List.length_map]
   have:=nwS_len (redC s) (redQ s p)[k].stops
   have:=redQ_20 (s:=s) hO _ (List.getElem_mem hk3)
   omega
 ·exact ⟨by decide,by decide,by decide,fun k hk=>by cases hk⟩
theorem redL_len {s:Int} {p:Pce} (hO:PcOk p):(redL s p).length≤30000:=by
 unfold redL
 split
 ·have h20:=redQ_20 (s:=s) hO
  have:=lsL_len (C:=redC s) (H:=znH s (redN s p)) (redC_ml s) h20 (redQ s p).length (Nat.le_refl _)
  rw [redQ_len] at this ⊢
  have:=hO.n3
  omega
 ·simp
theorem reduces_FS (s:Int) (p:Pce):Ctr Tryz.prog 3 [.sc (.int .u8 s),ePce p] (.sc (.bool true)):=by
 by_cases hl:longB p=true
 ·have hS:=small_FS p
  rw [hl] at hS
  refine zqe Tryz.func3 Tryz.ntmps3 fun w0 F0=>?_;dsimp only [St.init,number,Nat.reduceAdd]
  repeat refine W.go rfl ?_
  refine (?_:WL _ _ _ _ _ _)
  refine WL.vl rfl (zqc Tryz.func13 hS) ?_
  repeat (first|refine W.go rfl ?_|refine WL.ev rfl ?_|refine W.condT rfl ?_)
  refine (?_:WL _ _ _ _ _ _)
  refine WL.vl rfl (zqc Tryz.func14 works04_FS) ?_
  repeat refine WL.ev rfl ?_
  refine (?_:W _ _ _ _ _)
  exact W.ret zqr
 have hl:longB p=false:=by simpa using hl
 have hO:=pcOk_of3 hl
 have hS:=small_FS p
 rw [hl] at hS
 have h1:=pReduce_FS s p hO
 have h2:=rReduce_FS s p hO
 have h3:=same_FS (redP s p) (redP_ok hO)
 have h4:=sameLk_FS (redL s p) (redL_len hO)
 have h5:=same_FS p hO
 have h6:=pcCopy_FS p hO
 obtain ⟨E,hE⟩:∃ z,redX s p=z:=⟨_,rfl⟩
 obtain ⟨LL,hLL⟩:∃ z,(redL s p).map eLk=z:=⟨_,rfl⟩
 rw [hE,hLL] at h1 h2
 rw [hLL] at h4
 refine zqe Tryz.func3 Tryz.ntmps3 fun w0 F0=>?_;dsimp only [St.init,number,Nat.reduceAdd]
 repeat refine W.go rfl ?_
 refine (?_:WL _ _ _ _ _ _)
 refine WL.vl rfl (zqc Tryz.func13 hS) ?_
 repeat (first|refine W.go rfl ?_|refine WL.ev rfl ?_|refine W.condF rfl ?_)
 refine (?_:WL _ _ _ _ _ _)
 refine WL.vl rfl (zqc Tryz.func15 h6) ?_
 repeat (first|refine W.go rfl ?_|refine WL.ev rfl ?_)
 refine (?_:WL _ _ _ _ _ _)
 refine WL.vl rfl (zqc Tryz.func16 h1) ?_
 repeat (first|refine W.go rfl ?_|refine WL.ev rfl ?_)
 refine (?_:WL _ _ _ _ _ _)
 refine WL.vl rfl (zqc Tryz.func17 h2) ?_
 repeat (first|refine W.go rfl ?_|refine WL.ev rfl ?_)
 refine (?_:WL _ _ _ _ _ _)
 refine WL.vl rfl (zqc Tryz.func18 h3) ?_
 repeat (first|refine WL.e1 rfl ?_|refine WL.gyes rfl rfl rfl rfl ?_)
 refine (?_:WL _ _ _ _ _ _)
 refine WL.vl rfl (zqc Tryz.func19 h4) ?_
 repeat (first|refine WL.bt rfl rfl rfl zqo ?_|refine WL.e1 rfl ?_|refine WL.gyes rfl rfl rfl rfl ?_)
 refine (?_:WL _ _ _ _ _ _)
 refine WL.vl rfl (zqc Tryz.func18 h5) ?_
 repeat (first|refine WL.e1 rfl ?_|refine WL.gyes rfl rfl rfl rfl ?_)
 refine (?_:WL _ _ _ _ _ _)
 refine WL.vl rfl (zqc Tryz.func14 works04_FS) ?_
 repeat (first|refine WL.nil ?_|refine WL.e1 rfl ?_)
 refine (?_:W _ _ _ _ _)
 exact W.ret zqr
theorem reduces_walk (s:Int) (p:Pce) (v:Value) (w:World) (h:RP (fun q=>w.cell? q) (ePce p) v):Calls Tryz.prog 3 #[.int .u8 s,v] w (Ret (.bool true) w):=by
 refine (reduces_FS s p w (fun q=>w.cell? q) [.int .u8 s,v] (fun _ _ h=>h) ⟨rfl,fun i av u a b=>?_⟩).mono fun e w' ⟨u,F',he,hb,_,_,_,hr⟩=>⟨?_,hb⟩
 ·match i with
  | 0=>cases a;cases b;exact .sc _
  | 1=>cases a;cases b;exact h
  | i+2=>simp at a
 ·rw [he,hr.sc_eq]
end Go.Proofs.YtaeelcfjkhfpkaaGreat
