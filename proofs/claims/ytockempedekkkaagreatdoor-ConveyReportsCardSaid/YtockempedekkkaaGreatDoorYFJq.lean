/- Small functions of chapter 04: a list of lacks names something; where a course stands among the stops. -/
import Derived.Test.YtockempedekkkaaGreatDoorYRJq
set_option maxHeartbeats 8000000
set_option maxRecDepth 100000
set_option linter.unusedVariables false
set_option linter.unusedSimpArgs false
namespace Go.Proofs.YtockempedekkkaaGreatDoor
open Go.RowKit
def ixB {α:Type} (t:α→Bool)(l:List α):Int:=if l.any t=true then((l.findIdx t:Nat):Int)else -1
theorem ixB_at {α:Type} {t:α→Bool} {l:List α} {k:Nat} (hk:k<l.length) (h1:t l[k]=true) (h2:∀ i (hi:i<k),t (l[i]'(by omega))=false):ixB t l=k:=by
 have hh:l.any t=true:=List.any_eq_true.2 ⟨l[k],List.getElem_mem hk,h1⟩
 unfold ixB
 rw [if_pos hh,(List.findIdx_eq hk).2 ⟨h1,h2⟩]
theorem ixB_no {α:Type} {t:α→Bool} {l:List α} (h:∀ i(hi:i<l.length),t l[i]=false):ixB t l=-1:=by
 have hh:l.any t=false:=by
  rw [List.any_eq_false]
  intro x hx
  obtain⟨i,hi,rfl⟩:=List.getElem_of_mem hx
  simp [h i hi]
 unfold ixB
 rw [hh];rfl
theorem ixB_has {α:Type} (t:α→Bool)(l:List α):decide (0≤ixB t l)=l.any t:=by
 unfold ixB
 cases h:l.any t with
 | true=>rw [if_pos rfl];exact decide_eq_true (by omega)
 | false=>rw [if_neg (by simp)];rfl
theorem has1_FS (x:Lck) (w:Int):Ctr Tryz.prog 58 [.ag (eLk x),.pr [.sc (.int .i64 w)]] (.sc (.bool (x.2.2 == w))):=by
 refine zqe Tryz.func58 Tryz.ntmps58 fun w0 F0=>?_;dsimp only [St.init,number,Nat.reduceAdd]
 repeat (first|refine W.go rfl ?_)
 (first|refine (?_:W _ _ _ _ _)|refine (?_:WL _ _ _ _ _ _)|skip)
 try dsimp only [St.put,Nat.reduceAdd]
 refine W.ret (fin1 rfl rfl (sc_bool ?_) rfl)
 rfl
theorem idxL_FS (l:List Lck) (w:Int) (hl:l.length≤100000):Ctr Tryz.prog 89 [.ls 3 (l.map eLk),.fn 58 [.pr [.sc (.int .i64 w)]]] (.sc (.int .i64 (ixB (fun x:Lck=>x.2.2 == w) l))):=by
 refine zqe Tryz.func89 Tryz.ntmps89 fun w0 F0=>?_;dsimp only [St.init,number,Nat.reduceAdd]
 repeat (first|refine W.go rfl ?_|refine WL.nil ?_|refine WL.ev rfl ?_|refine WL.ar rfl rfl (by unfold I64;omega) ?_|refine WL.len rfl rfl zql ?_|refine WL.idx rfl rfl zqo zqm ?_|refine W.condT rfl ?_|refine W.condF rfl ?_)
 (first|refine (?_:W _ _ _ _ _)|refine (?_:WL _ _ _ _ _ _)|skip)
 try dsimp only [St.put,Nat.reduceAdd]
 refine W.loop (fun k:Nat=>k≤l.length∧∀ i (hi:i < k) (h:i < l.length),(l[i].2.2 == w)=false) (fun k=>⟨[(0,.ls 3 (l.map eLk)),(1,.fn 58 [.pr [.sc (.int .i64 w)]]),(7,.sc (.int .i64 l.length)),(8,.sc (.int .i64 k))],[],0⟩) (fun k=>l.length - k) 0 ⟨by omega,fun i hi=>by omega⟩ (zqt id) fun k hk=>?_
 obtain ⟨hk,hno⟩:=hk
 by_cases hlt:k < l.length
 ·repeat (first|refine W.gob rfl ?_|refine WL.nil ?_|refine WL.bt rfl rfl rfl zqo ?_|refine WL.bf rfl rfl rfl zqo ?_|refine WL.e1 rfl ?_|refine WL.ar rfl rfl (by unfold I64;omega) ?_|refine WL.len rfl rfl zql ?_|refine WL.idx rfl rfl zqo zqm ?_|refine W.condT rfl ?_|refine W.condF rfl ?_)
  (first|refine (?_:W _ _ _ _ _)|refine (?_:WL _ _ _ _ _ _)|skip)
  try dsimp only [St.put,Nat.reduceAdd]
  refine WL.vl rfl (WV.callV (truH _) rfl (callF Tryz.func58 rfl rfl) rfl rfl rfl rfl rfl (has1_FS l[k] w).g) ?_
  cases he:l[k].2.2 == w with
  | true =>
   rw [ixB_at (t:=fun x:Lck=>x.2.2 == w) hlt he fun i hi=>hno i hi (by omega)]
   repeat (first|refine W.gob rfl ?_|refine WL.nil ?_|refine WL.bt rfl rfl rfl zqo ?_|refine WL.bf rfl rfl rfl zqo ?_|refine WL.e1 rfl ?_|refine WL.ar rfl rfl (by unfold I64;omega) ?_|refine WL.len rfl rfl zql ?_|refine WL.idx rfl rfl zqo zqm ?_|refine W.condT rfl ?_|refine W.condF rfl ?_)
   (first|refine (?_:W _ _ _ _ _)|refine (?_:WL _ _ _ _ _ _)|skip)
   try dsimp only [St.put,Nat.reduceAdd]
   exact W.ret zqr
  | false =>
   repeat (first|refine W.gob rfl ?_|refine WL.nil ?_|refine WL.bt rfl rfl rfl zqo ?_|refine WL.bf rfl rfl rfl zqo ?_|refine WL.e1 rfl ?_|refine WL.ar rfl rfl (by unfold I64;omega) ?_|refine WL.len rfl rfl zql ?_|refine WL.idx rfl rfl zqo zqm ?_|refine W.condT rfl ?_|refine W.condF rfl ?_)
   (first|refine (?_:W _ _ _ _ _)|refine (?_:WL _ _ _ _ _ _)|skip)
   try dsimp only [St.put,Nat.reduceAdd]
   exact ⟨k+1,⟨by omega,fun i hi h=>by
    by_cases e:i=k
    ·subst e;exact he
    ·exact hno i zqo h⟩,by omega,(zqt id)⟩
 ·rw [ixB_no (t:=fun x:Lck=>x.2.2 == w) fun i hi=>hno i (by omega) hi]
  repeat (first|refine W.gob rfl ?_|refine WL.nil ?_|refine WL.bt rfl rfl rfl zqo ?_|refine WL.bf rfl rfl rfl zqo ?_|refine WL.e1 rfl ?_|refine WL.ar rfl rfl (by unfold I64;omega) ?_|refine WL.len rfl rfl zql ?_|refine WL.idx rfl rfl zqo zqm ?_|refine W.condT rfl ?_|refine W.condF rfl ?_)
  (first|refine (?_:W _ _ _ _ _)|refine (?_:WL _ _ _ _ _ _)|skip)
  try dsimp only [St.put,Nat.reduceAdd]
  exact W.ret zqr
theorem contL_FS (l:List Lck) (w:Int) (hl:l.length≤100000):Ctr Tryz.prog 57 [.ls 3 (l.map eLk),.fn 58 [.pr [.sc (.int .i64 w)]]] (.sc (.bool (hasW l w))):=by
 have hI:=idxL_FS l w hl
 have hh:decide (0≤ixB (fun x:Lck=>x.2.2 == w) l)=hasW l w:=ixB_has _ l
 obtain ⟨z,hz⟩:∃ z,ixB (fun x:Lck=>x.2.2 == w) l=z:=⟨_,rfl⟩
 rw [hz] at hI hh
 refine zqe Tryz.func57 Tryz.ntmps57 fun w0 F0=>?_;dsimp only [St.init,number,Nat.reduceAdd]
 repeat (first|refine W.go rfl ?_|refine WL.ev rfl ?_)
 (first|refine (?_:W _ _ _ _ _)|refine (?_:WL _ _ _ _ _ _)|skip)
 try dsimp only [St.put,Nat.reduceAdd]
 refine WL.vl rfl (zqc Tryz.func89 hI) ?_
 repeat (first|refine W.go rfl ?_|refine WL.ev rfl ?_)
 (first|refine (?_:W _ _ _ _ _)|refine (?_:WL _ _ _ _ _ _)|skip)
 try dsimp only [St.put,Nat.reduceAdd]
 refine W.ret (fin1 rfl rfl (sc_bool ?_) rfl)
 rw [← hh]
theorem yHas_FS (l:List Lck) (w:Int) (hl:l.length≤100000):Ctr Tryz.prog 28 [.ls 3 (l.map eLk),.sc (.int .i64 w)] (.sc (.bool (hasW l w))):=by
 have hC:=contL_FS l w hl
 refine zqe Tryz.func28 Tryz.ntmps28 fun w0 F0=>?_;dsimp only [St.init,number,Nat.reduceAdd]
 repeat (first|refine W.go rfl ?_|refine WL.ev rfl ?_)
 (first|refine (?_:W _ _ _ _ _)|refine (?_:WL _ _ _ _ _ _)|skip)
 try dsimp only [St.put,Nat.reduceAdd]
 refine WL.vl rfl (WV.mkf rfl rfl) ?_
 refine WL.vl rfl (WV.lendV (truH _) rfl (callF Tryz.func57 rfl rfl) rfl rfl rfl rfl rfl rfl truST hC.g) ?_
 repeat (first|refine W.go rfl ?_|refine WL.ev rfl ?_)
 (first|refine (?_:W _ _ _ _ _)|refine (?_:WL _ _ _ _ _ _)|skip)
 try dsimp only [St.put,Nat.reduceAdd]
 exact W.ret zqr
end Go.Proofs.YtockempedekkkaaGreatDoor
