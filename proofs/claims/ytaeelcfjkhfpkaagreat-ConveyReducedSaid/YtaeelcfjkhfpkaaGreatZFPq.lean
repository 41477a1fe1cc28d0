/- Two lists of numbers are compared (the law's look); the result of Reduce is small. -/
import Derived.Test.YtaeelcfjkhfpkaaGreatZDPq
set_option maxHeartbeats 8000000
set_option maxRecDepth 100000
set_option linter.unusedVariables false
set_option linter.unusedSimpArgs false
namespace Go.Proofs.YtaeelcfjkhfpkaaGreat
open Go.RowKit
theorem sameInts2_FS (l:List Int) (h1:l.length≤100000):Ctr Tryz.prog 31 [.ls 1 (l.map eInt),.ls 1 (l.map eInt)] (.sc (.bool true)):=by
 have hAt:∀ k (h:k < l.length),(l.map eInt)[((k:Nat):Int).toNat]?=some [.sc (.int .i64 l[k])]:=fun k h=>by
  rw [Int.toNat_natCast,List.getElem?_map,List.getElem?_eq_getElem h];rfl
 have hEl:(l.map eInt).length=l.length:=List.length_map _
 obtain ⟨LE,hLE⟩:∃ z,l.map eInt=z:=⟨_,rfl⟩
 rw [hLE] at hAt hEl ⊢
 clear hLE
 refine zqe Tryz.func31 Tryz.ntmps31 fun w0 F0=>?_;dsimp only [St.init,number,Nat.reduceAdd]
 repeat (first|refine W.gob rfl ?_|refine WL.nil ?_|refine WL.bt rfl rfl rfl zqo ?_|refine WL.bf rfl rfl rfl zqo ?_|refine WL.nf rfl rfl rfl zqo ?_|refine WL.e1 rfl ?_|refine WL.ar rfl rfl (by unfold I64;omega) ?_|refine WL.len rfl rfl rfl ?_|refine W.condT rfl ?_|refine W.condF rfl ?_)
 (first|refine (?_:W _ _ _ _ _)|refine (?_:WL _ _ _ _ _ _)|skip)
 try dsimp only [St.put,Nat.reduceAdd]
 refine W.loop (fun k:Nat=>k≤l.length) (fun k=>⟨[(0,.ls 1 LE),(1,.ls 1 LE),(5,.sc (.int .i64 k))],[],0⟩) (fun k=>l.length - k) 0 zqo (zqt id) fun k hk=>?_
 by_cases hlt:k < l.length
 ·have g:=hAt k hlt
  have hd:decide (l[k]=l[k])=true:=decide_eq_true rfl
  repeat (first|refine W.gob rfl ?_|refine WL.nil ?_|refine WL.bt rfl rfl rfl zqo ?_|refine WL.bf rfl rfl rfl zqo ?_|refine WL.nf rfl rfl rfl zqo ?_|refine WL.e1 rfl ?_|refine WL.ar rfl rfl (by unfold I64;omega) ?_|refine WL.len rfl rfl rfl ?_|refine W.condT rfl ?_|refine W.condF rfl ?_)
  (first|refine (?_:W _ _ _ _ _)|refine (?_:WL _ _ _ _ _ _)|skip)
  try dsimp only [St.put,Nat.reduceAdd]
  refine W.drawK zqk zqk ?_
  repeat (first|refine DK.st rfl ?_|refine DK.idx rfl rfl zqo g ?_|refine DK.nil ?_)
  rw [hd]
  repeat (first|refine W.gob rfl ?_|refine WL.nil ?_|refine WL.bt rfl rfl rfl zqo ?_|refine WL.bf rfl rfl rfl zqo ?_|refine WL.nf rfl rfl rfl zqo ?_|refine WL.e1 rfl ?_|refine WL.ar rfl rfl (by unfold I64;omega) ?_|refine WL.len rfl rfl rfl ?_|refine W.condT rfl ?_|refine W.condF rfl ?_)
  (first|refine (?_:W _ _ _ _ _)|refine (?_:WL _ _ _ _ _ _)|skip)
  try dsimp only [St.put,Nat.reduceAdd]
  exact ⟨k+1,by omega,by omega,(zqt id)⟩
 ·obtain rfl:k=l.length:=by omega
  repeat (first|refine W.gob rfl ?_|refine WL.nil ?_|refine WL.bt rfl rfl rfl zqo ?_|refine WL.bf rfl rfl rfl zqo ?_|refine WL.nf rfl rfl rfl zqo ?_|refine WL.e1 rfl ?_|refine WL.ar rfl rfl (by unfold I64;omega) ?_|refine WL.len rfl rfl rfl ?_|refine W.condT rfl ?_|refine W.condF rfl ?_)
  (first|refine (?_:W _ _ _ _ _)|refine (?_:WL _ _ _ _ _ _)|skip)
  try dsimp only [St.put,Nat.reduceAdd]
  exact W.ret zqr
theorem redP_ok2 {s:Int} {p:Pce} (hO:PcOk p):PcOk (redP s p):=by
 unfold redP
 split
 ·refine ⟨hO.n1,hO.n2,?_,fun k hk=>?_⟩
  ·show (fnL _ _).length≤420
   rw [fnL_len]
   unfold redN
   rw [nwL_len,redQ_len]
   exact hO.n3
  ·have hk2:k<(redN s p).length:=by
    have hk:k<(fnL (znH s (redN s p)) (redN s p)).length:=hk
    rw [fnL_len] at hk;exact hk
   have hk3:k<(redQ s p).length:=by unfold redN at hk2;rw [nwL_len] at hk2;exact hk2
   have e1:(fnL (znH s (redN s p)) (redN s p))[k]'hk=fnE (znH s (redN s p)) k (nwE (redC s) k (redQ s p)[k]):=by
    rw [fnL_get hk2]
    congr 1
    exact nwL_get hk3
   show ((fnL (znH s (redN s p)) (redN s p))[k]'hk).stops.length≤20
   rw [e1]
   show ((nwS (redC s) (redQ s p)[k].stops).map _).length≤20
   rw [List.length_map]
   have:=nwS_len (redC s) (redQ s p)[k].stops
   have:=redQ_20 (s:=s) hO _ (List.getElem_mem hk3)
   omega
 ·exact ⟨by decide,by decide,by decide,fun k hk=>by cases hk⟩
theorem redX_31 {s:Int} {p:Pce} (h0:pceE p=0)(hs:1≤s∧s≤4)(h:redX s p≠0):redX s p=31∧(s=3∨s=4):=by
 unfold redX at h ⊢
 rw [if_neg (fun x=>x hs),if_neg (fun x=>x h0)] at h ⊢
 by_cases h4:s=4∧thrB p.evs=true
 ·rw [if_pos h4];exact⟨rfl,.inr h4.1⟩
 ·rw [if_neg h4] at h ⊢
  by_cases h3:s=3∧frsB (redC s) p.evs=true
  ·rw [if_pos h3];exact⟨rfl,.inl h3.1⟩
  ·rw [if_neg h3] at h;exact absurd rfl h
theorem red_small {s:Int} {p:Pce} (hO:PcOk p)(h:redX s p=0):(redP s p).cs=p.cs∧(redP s p).st=p.st:=by
 rw [show redP s p=_ from if_pos h];exact⟨rfl,rfl⟩
end Go.Proofs.YtaeelcfjkhfpkaaGreat
