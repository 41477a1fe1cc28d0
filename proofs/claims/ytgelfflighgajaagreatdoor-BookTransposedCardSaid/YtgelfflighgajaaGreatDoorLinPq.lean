/- The reference: Sound, the melody of a piece, how it begins; lists of numbers that are equal. -/
import Derived.Test.YtgelfflighgajaaGreatDoorIncPq
import Derived.Test.YtgelfflighgajaaGreatDoorEHPq
set_option maxHeartbeats 8000000
set_option maxRecDepth 100000
set_option linter.unusedVariables false
set_option linter.unusedSimpArgs false
namespace Go.Proofs.YtgelfflighgajaaGreatDoor
open Go.RowKit
theorem sameInts_FS (l m:List Int) (h1:l.length≤100000) (h2:m.length≤100000):Ctr Tryz.prog 44 [.ls 1 (l.map eInt),.ls 1 (m.map eInt)] (.sc (.bool (decide (l=m)))):=by
 by_cases hl:l.length=m.length
 rotate_left
 ·rw [decide_eq_false fun e=>hl (by rw [e])]
  refine Ctr.intro Tryz.func44 rfl Tryz.ntmps44 (Nat.le_of_ble_eq_true rfl) (bd_all rfl) fun w0 F0=>?_;dsimp only [St.init,number,Nat.reduceAdd]
  repeat (first|refine W.gob rfl ?_|refine WL.nil ?_|refine WL.nt rfl rfl rfl (by omega) ?_|refine WL.e1 rfl ?_|refine WL.len rfl rfl zql ?_|refine W.condT rfl ?_)
  refine (?_:W _ _ _ _ _)
  exact W.ret (fin1 rfl rfl rfl rfl)
 refine Ctr.intro Tryz.func44 rfl Tryz.ntmps44 (Nat.le_of_ble_eq_true rfl) (bd_all rfl) fun w0 F0=>?_;dsimp only [St.init,number,Nat.reduceAdd]
 repeat (first|refine W.gob rfl ?_|refine WL.nil ?_|refine WL.nf rfl rfl rfl (by omega) ?_|refine WL.e1 rfl ?_|refine WL.len rfl rfl zql ?_|refine W.condF rfl ?_)
 refine (?_:W _ _ _ _ _)
 refine W.loop (fun k:Nat=>k≤l.length∧∀ i (hi:i < k) (h1:i < l.length) (h2:i < m.length),l[i]=m[i]) (fun k=>⟨[(0,.ls 1 (l.map eInt)),(1,.ls 1 (m.map eInt)),(5,.sc (.int .i64 k))],[],0⟩) (fun k=>l.length - k) 0 ⟨by omega,fun i hi=>by omega⟩ (zqt id) fun k hk=>?_
 obtain ⟨hk,hsame⟩:=hk
 by_cases hlt:k < l.length
 ·have hlt2:k < m.length:=by omega
  by_cases he:l[k]=m[k]
  ·have hd:decide (l[k]=m[k])=true:=decide_eq_true he
   repeat (first|refine W.gob rfl ?_|refine WL.nil ?_|refine WL.bt rfl rfl rfl (by omega) ?_|refine WL.e1 rfl ?_|refine WL.len rfl rfl zql ?_|refine W.condT rfl ?_)
   refine (?_:W _ _ _ _ _)
   refine W.drawK (by kernel_rfl) (by kernel_rfl) ?_
   repeat (first|refine DK.st rfl ?_|refine DK.idx rfl rfl (by omega) zqm ?_|refine DK.nil ?_)
   rw [hd]
   repeat (first|refine W.gob rfl ?_|refine WL.nil ?_|refine WL.e1 rfl ?_|refine WL.ar rfl rfl (by unfold I64;omega) ?_|refine W.condF rfl ?_)
   refine ⟨k+1,⟨by omega,fun i hi a b=>?_⟩,by omega,(zqt id)⟩
   by_cases e:i=k
   ·subst e;exact he
   ·exact hsame i (by omega) a b
  ·have hd:decide (l[k]=m[k])=false:=decide_eq_false he
   rw [decide_eq_false fun e=>he (by subst e;rfl)]
   repeat (first|refine W.gob rfl ?_|refine WL.nil ?_|refine WL.bt rfl rfl rfl (by omega) ?_|refine WL.e1 rfl ?_|refine WL.len rfl rfl zql ?_|refine W.condT rfl ?_)
   refine (?_:W _ _ _ _ _)
   refine W.drawK (by kernel_rfl) (by kernel_rfl) ?_
   repeat (first|refine DK.st rfl ?_|refine DK.idx rfl rfl (by omega) zqm ?_|refine DK.nil ?_)
   rw [hd]
   repeat (first|refine W.gob rfl ?_|refine WL.nil ?_|refine WL.e1 rfl ?_|refine W.condT rfl ?_)
   refine (?_:W _ _ _ _ _)
   exact W.ret (fin1 rfl rfl rfl rfl)
 ·have e:l=m:=List.ext_getElem hl fun i a b=>hsame i (by omega) a b
  rw [decide_eq_true e]
  repeat (first|refine W.gob rfl ?_|refine WL.nil ?_|refine WL.bf rfl rfl rfl (by omega) ?_|refine WL.e1 rfl ?_|refine WL.len rfl rfl zql ?_|refine W.condF rfl ?_)
  refine (?_:W _ _ _ _ _)
  exact W.ret (fin1 rfl rfl rfl rfl)
end Go.Proofs.YtgelfflighgajaaGreatDoor
