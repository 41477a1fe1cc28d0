/- Books: the reference's Check, Find, Copy, Same; how big a book is. -/
import Derived.Test.YtgelfflighgajaaGreatDoorBkPSq
set_option maxHeartbeats 8000000
set_option maxRecDepth 100000
set_option linter.unusedVariables false
set_option linter.unusedSimpArgs false
namespace Go.Proofs.YtgelfflighgajaaGreatDoor
section
open Go.RowKit
theorem z3o {p:Prop} (h:p:=by omega):p:=h
theorem z3i {z:Int} (h:I64 z:=by unfold I64;omega):I64 z:=h
theorem ttl_step {t:List UInt8} {k:Nat} (h:k<t.length)(h1:(t.take k).all chOk=true)(h2:chOk (t.getD k 0)=true):(t.take (k+1)).all chOk=true:=by
 rw [List.take_succ_eq_append_getElem h,List.all_append,h1]
 rw [List.getD_eq_getElem?_getD,List.getElem?_eq_getElem h]at h2
 simpa using h2
theorem ttl_no {t:List UInt8} {k:Nat} (h:k<t.length)(h2:chOk (t.getD k 0)=false):t.all chOk=false:=by
 rw [List.all_eq_false]
 refine⟨t[k],List.getElem_mem h,?_⟩
 rw [List.getD_eq_getElem?_getD,List.getElem?_eq_getElem h]at h2
 simpa using h2
theorem pTitle_FS (t:List UInt8) (hl:t.length≤1000000):Ctr Tryz.prog 120 [.sc (.string (bs t))] (.sc (.bool (ttlOk t))):=by
 by_cases h1:t.length < 1
 ·have e:ttlOk t=false:=by unfold ttlOk;rw [decide_eq_false (by omega)];rfl
  rw [e]
  refine Ctr.intro Tryz.func120 rfl Tryz.ntmps120 (Nat.le_of_ble_eq_true rfl) (bd_all rfl) fun w0 F0=>?_;dsimp only [St.init,number,Nat.reduceAdd]
  repeat (first|refine W.gob rfl ?_|refine WL.nil ?_|refine WL.bt rfl rfl rfl z3o ?_|refine WL.e1 rfl ?_|refine WL.opno rfl rfl rfl rfl rfl rfl rfl ?_|refine WL.len rfl rfl zql ?_|refine W.condT rfl ?_)
  refine (?_:W _ _ _ _ _)
  exact W.ret (fin1 rfl rfl rfl rfl)
 by_cases h2:t.length > 60
 ·have e:ttlOk t=false:=by unfold ttlOk;rw [decide_eq_false (by omega)];rfl
  rw [e]
  refine Ctr.intro Tryz.func120 rfl Tryz.ntmps120 (Nat.le_of_ble_eq_true rfl) (bd_all rfl) fun w0 F0=>?_;dsimp only [St.init,number,Nat.reduceAdd]
  repeat (first|refine W.gob rfl ?_|refine WL.nil ?_|refine WL.bt rfl rfl rfl z3o ?_|refine WL.bf rfl rfl rfl z3o ?_|refine WL.e1 rfl ?_|refine WL.gyes rfl rfl rfl rfl ?_|refine WL.opno rfl rfl rfl rfl rfl rfl rfl ?_|refine WL.len rfl rfl zql ?_|refine W.condT rfl ?_)
  refine (?_:W _ _ _ _ _)
  exact W.ret (fin1 rfl rfl rfl rfl)
 have e0:decide (1≤t.length∧t.length≤60)=true:=decide_eq_true z3o
 have ez:((0:Int)).toNat=0:=rfl
 have el:(((t.length:Nat):Int) - 1).toNat=t.length - 1:=by omega
 obtain ⟨c0,hc0⟩:∃ c,((t.getD 0 0).toNat:Int)=c:=⟨_,rfl⟩
 obtain ⟨c1,hc1⟩:∃ c,((t.getD (t.length - 1) 0).toNat:Int)=c:=⟨_,rfl⟩
 by_cases h3:c0=32
 ·have e:ttlOk t=false:=by unfold ttlOk;rw [e0,hc0,h3];rfl
  rw [e]
  refine Ctr.intro Tryz.func120 rfl Tryz.ntmps120 (Nat.le_of_ble_eq_true rfl) (bd_all rfl) fun w0 F0=>?_;dsimp only [St.init,number,Nat.reduceAdd]
  repeat (first|refine W.gob rfl ?_|refine WL.nil ?_|refine WL.bf rfl rfl rfl z3o ?_|refine WL.e1 rfl ?_|refine WL.gyes rfl rfl rfl rfl ?_|refine WL.len rfl rfl zql ?_)
  refine (?_:WL _ _ _ _ _ _)
  refine WL.six rfl rfl ⟨by omega,by omega⟩ ?_
  simp only [ez,hc0]
  repeat (first|refine W.gob rfl ?_|refine WL.nil ?_|refine WL.bt rfl rfl rfl z3o ?_|refine WL.e1 rfl ?_|refine WL.gyes rfl rfl rfl rfl ?_|refine WL.opno rfl rfl rfl rfl rfl rfl rfl ?_|refine W.condT rfl ?_)
  refine (?_:W _ _ _ _ _)
  exact W.ret (fin1 rfl rfl rfl rfl)
 by_cases h4:c1=32
 ·have e:ttlOk t=false:=by unfold ttlOk;rw [e0,hc0,hc1,h4];simp
  rw [e]
  refine Ctr.intro Tryz.func120 rfl Tryz.ntmps120 (Nat.le_of_ble_eq_true rfl) (bd_all rfl) fun w0 F0=>?_;dsimp only [St.init,number,Nat.reduceAdd]
  repeat (first|refine W.gob rfl ?_|refine WL.nil ?_|refine WL.bf rfl rfl rfl z3o ?_|refine WL.e1 rfl ?_|refine WL.gyes rfl rfl rfl rfl ?_|refine WL.len rfl rfl zql ?_)
  refine (?_:WL _ _ _ _ _ _)
  refine WL.six rfl rfl ⟨by omega,by omega⟩ ?_
  simp only [ez,hc0]
  repeat (first|refine WL.bf rfl rfl rfl z3o ?_|refine WL.e1 rfl ?_|refine WL.gyes rfl rfl rfl rfl ?_|refine WL.ar rfl rfl z3i ?_|refine WL.len rfl rfl zql ?_)
  refine (?_:WL _ _ _ _ _ _)
  refine WL.six rfl rfl ⟨by omega,by omega⟩ ?_
  simp only [el,hc1]
  repeat (first|refine W.gob rfl ?_|refine WL.nil ?_|refine WL.bt rfl rfl rfl z3o ?_|refine WL.e1 rfl ?_|refine WL.gyes rfl rfl rfl rfl ?_|refine W.condT rfl ?_)
  refine (?_:W _ _ _ _ _)
  exact W.ret (fin1 rfl rfl rfl rfl)
 have e:ttlOk t=t.all chOk:=by
  unfold ttlOk;rw [e0,hc0,hc1];simp [h3,h4]
 rw [e]
 refine Ctr.intro Tryz.func120 rfl Tryz.ntmps120 (Nat.le_of_ble_eq_true rfl) (bd_all rfl) fun w0 F0=>?_;dsimp only [St.init,number,Nat.reduceAdd]
 repeat (first|refine W.gob rfl ?_|refine WL.nil ?_|refine WL.bf rfl rfl rfl z3o ?_|refine WL.e1 rfl ?_|refine WL.gyes rfl rfl rfl rfl ?_|refine WL.len rfl rfl zql ?_)
 refine (?_:WL _ _ _ _ _ _)
 refine WL.six rfl rfl ⟨by omega,by omega⟩ ?_
 simp only [ez,hc0]
 repeat (first|refine WL.bf rfl rfl rfl z3o ?_|refine WL.e1 rfl ?_|refine WL.gyes rfl rfl rfl rfl ?_|refine WL.ar rfl rfl z3i ?_|refine WL.len rfl rfl zql ?_)
 refine (?_:WL _ _ _ _ _ _)
 refine WL.six rfl rfl ⟨by omega,by omega⟩ ?_
 simp only [el,hc1]
 repeat (first|refine W.gob rfl ?_|refine WL.nil ?_|refine WL.bf rfl rfl rfl z3o ?_|refine WL.e1 rfl ?_|refine WL.gyes rfl rfl rfl rfl ?_|refine W.condF rfl ?_)
 refine (?_:W _ _ _ _ _)
 refine W.loop (fun k:Nat=>k≤t.length∧(t.take k).all chOk=true) (fun k=>⟨[(0,.sc (.string (bs t))),(3,.sc (.int .i64 k))],[],0⟩) (fun k=>t.length - k) 0 ⟨by omega,by simp⟩ (zqt id) fun k hk=>?_
 obtain ⟨hk,hall⟩:=hk
 by_cases hlt:k < t.length
 rotate_left
 ·obtain rfl:k=t.length:=by omega
  rw [List.take_length] at hall
  rw [hall]
  repeat (first|refine W.gob rfl ?_|refine WL.nil ?_|refine WL.bf rfl rfl rfl z3o ?_|refine WL.e1 rfl ?_|refine WL.len rfl rfl zql ?_|refine W.condF rfl ?_)
  refine (?_:W _ _ _ _ _)
  exact W.ret (fin1 rfl rfl rfl rfl)
 have ek:((k:Nat):Int).toNat=k:=Int.toNat_natCast k
 have hst:=fun h=>ttl_step hlt hall h
 have hno:=fun h=>ttl_no hlt h
 have hch:chOk (t.getD k 0)=(decide (32≤((t.getD k 0).toNat:Int)) && decide (((t.getD k 0).toNat:Int)≤126)):=rfl
 obtain ⟨c,hc⟩:∃ c,((t.getD k 0).toNat:Int)=c:=⟨_,rfl⟩
 rw [hc] at hch
 rw [hch] at hst hno
 by_cases h5:c < 32
 ·rw [hno (by rw [decide_eq_false (by omega)];rfl)]
  repeat (first|refine W.gob rfl ?_|refine WL.nil ?_|refine WL.bt rfl rfl rfl z3o ?_|refine WL.e1 rfl ?_|refine WL.len rfl rfl zql ?_|refine W.condT rfl ?_)
  refine (?_:WL _ _ _ _ _ _)
  refine WL.six rfl rfl ⟨by omega,by omega⟩ ?_
  simp only [ek,hc]
  repeat (first|refine W.gob rfl ?_|refine WL.nil ?_|refine WL.bt rfl rfl rfl z3o ?_|refine WL.e1 rfl ?_|refine WL.opno rfl rfl rfl rfl rfl rfl rfl ?_|refine W.condT rfl ?_)
  refine (?_:W _ _ _ _ _)
  exact W.ret (fin1 rfl rfl rfl rfl)
 by_cases h6:c > 126
 ·rw [hno (by rw [decide_eq_false (show ¬ c≤126 by omega)];simp)]
  repeat (first|refine W.gob rfl ?_|refine WL.nil ?_|refine WL.bt rfl rfl rfl z3o ?_|refine WL.e1 rfl ?_|refine WL.len rfl rfl zql ?_|refine W.condT rfl ?_)
  refine (?_:WL _ _ _ _ _ _)
  refine WL.six rfl rfl ⟨by omega,by omega⟩ ?_
  simp only [ek,hc]
  repeat (first|refine WL.bf rfl rfl rfl z3o ?_|refine WL.e1 rfl ?_|refine WL.gyes rfl rfl rfl rfl ?_)
  refine (?_:WL _ _ _ _ _ _)
  refine WL.six rfl rfl ⟨by omega,by omega⟩ ?_
  simp only [ek,hc]
  repeat (first|refine W.gob rfl ?_|refine WL.nil ?_|refine WL.bt rfl rfl rfl z3o ?_|refine WL.e1 rfl ?_|refine WL.gyes rfl rfl rfl rfl ?_|refine W.condT rfl ?_)
  refine (?_:W _ _ _ _ _)
  exact W.ret (fin1 rfl rfl rfl rfl)
 have hnext:=hst (by rw [decide_eq_true (show 32≤c by omega),decide_eq_true (show c≤126 by omega)];rfl)
 repeat (first|refine W.gob rfl ?_|refine WL.nil ?_|refine WL.bt rfl rfl rfl z3o ?_|refine WL.e1 rfl ?_|refine WL.len rfl rfl zql ?_|refine W.condT rfl ?_)
 refine (?_:WL _ _ _ _ _ _)
 refine WL.six rfl rfl ⟨by omega,by omega⟩ ?_
 simp only [ek,hc]
 repeat (first|refine WL.bf rfl rfl rfl z3o ?_|refine WL.e1 rfl ?_|refine WL.gyes rfl rfl rfl rfl ?_)
 refine (?_:WL _ _ _ _ _ _)
 refine WL.six rfl rfl ⟨by omega,by omega⟩ ?_
 simp only [ek,hc]
 repeat (first|refine W.gob rfl ?_|refine WL.nil ?_|refine WL.bf rfl rfl rfl z3o ?_|refine WL.e1 rfl ?_|refine WL.gyes rfl rfl rfl rfl ?_|refine WL.ar rfl rfl z3i ?_|refine W.condF rfl ?_)
 exact ⟨k+1,⟨by omega,hnext⟩,by omega,(zqt id)⟩
theorem rTitle_FS (t:List UInt8) (hl:t.length≤1000000):Ctr Tryz.prog 126 [.sc (.string (bs t))] (.sc (.bool (ttlOk t))):=by
 by_cases h1:t.length < 1
 ·have e:ttlOk t=false:=by unfold ttlOk;rw [decide_eq_false (by omega)];rfl
  rw [e]
  refine Ctr.intro Tryz.func126 rfl Tryz.ntmps126 (Nat.le_of_ble_eq_true rfl) (bd_all rfl) fun w0 F0=>?_;dsimp only [St.init,number,Nat.reduceAdd]
  repeat (first|refine W.gob rfl ?_|refine WL.nil ?_|refine WL.bt rfl rfl rfl z3o ?_|refine WL.e1 rfl ?_|refine WL.opno rfl rfl rfl rfl rfl rfl rfl ?_|refine WL.len rfl rfl zql ?_|refine W.condT rfl ?_)
  refine (?_:W _ _ _ _ _)
  exact W.ret (fin1 rfl rfl rfl rfl)
 by_cases h2:t.length > 60
 ·have e:ttlOk t=false:=by unfold ttlOk;rw [decide_eq_false (by omega)];rfl
  rw [e]
  refine Ctr.intro Tryz.func126 rfl Tryz.ntmps126 (Nat.le_of_ble_eq_true rfl) (bd_all rfl) fun w0 F0=>?_;dsimp only [St.init,number,Nat.reduceAdd]
  repeat (first|refine W.gob rfl ?_|refine WL.nil ?_|refine WL.bt rfl rfl rfl z3o ?_|refine WL.bf rfl rfl rfl z3o ?_|refine WL.e1 rfl ?_|refine WL.gyes rfl rfl rfl rfl ?_|refine WL.opno rfl rfl rfl rfl rfl rfl rfl ?_|refine WL.len rfl rfl zql ?_|refine W.condT rfl ?_)
  refine (?_:W _ _ _ _ _)
  exact W.ret (fin1 rfl rfl rfl rfl)
 have e0:decide (1≤t.length∧t.length≤60)=true:=decide_eq_true z3o
 have ez:((0:Int)).toNat=0:=rfl
 have el:(((t.length:Nat):Int) - 1).toNat=t.length - 1:=by omega
 obtain ⟨c0,hc0⟩:∃ c,((t.getD 0 0).toNat:Int)=c:=⟨_,rfl⟩
 obtain ⟨c1,hc1⟩:∃ c,((t.getD (t.length - 1) 0).toNat:Int)=c:=⟨_,rfl⟩
 by_cases h3:c0=32
 ·have e:ttlOk t=false:=by unfold ttlOk;rw [e0,hc0,h3];rfl
  rw [e]
  refine Ctr.intro Tryz.func126 rfl Tryz.ntmps126 (Nat.le_of_ble_eq_true rfl) (bd_all rfl) fun w0 F0=>?_;dsimp only [St.init,number,Nat.reduceAdd]
  repeat (first|refine W.gob rfl ?_|refine WL.nil ?_|refine WL.bf rfl rfl rfl z3o ?_|refine WL.e1 rfl ?_|refine WL.gyes rfl rfl rfl rfl ?_|refine WL.len rfl rfl zql ?_)
  refine (?_:WL _ _ _ _ _ _)
  refine WL.six rfl rfl ⟨by omega,by omega⟩ ?_
  simp only [ez,hc0]
  repeat (first|refine W.gob rfl ?_|refine WL.nil ?_|refine WL.bt rfl rfl rfl z3o ?_|refine WL.e1 rfl ?_|refine WL.gyes rfl rfl rfl rfl ?_|refine WL.opno rfl rfl rfl rfl rfl rfl rfl ?_|refine W.condT rfl ?_)
  refine (?_:W _ _ _ _ _)
  exact W.ret (fin1 rfl rfl rfl rfl)
 by_cases h4:c1=32
 ·have e:ttlOk t=false:=by unfold ttlOk;rw [e0,hc0,hc1,h4];simp
  rw [e]
  refine Ctr.intro Tryz.func126 rfl Tryz.ntmps126 (Nat.le_of_ble_eq_true rfl) (bd_all rfl) fun w0 F0=>?_;dsimp only [St.init,number,Nat.reduceAdd]
  repeat (first|refine W.gob rfl ?_|refine WL.nil ?_|refine WL.bf rfl rfl rfl z3o ?_|refine WL.e1 rfl ?_|refine WL.gyes rfl rfl rfl rfl ?_|refine WL.len rfl rfl zql ?_)
  refine (?_:WL _ _ _ _ _ _)
  refine WL.six rfl rfl ⟨by omega,by omega⟩ ?_
  simp only [ez,hc0]
  repeat (first|refine WL.bf rfl rfl rfl z3o ?_|refine WL.e1 rfl ?_|refine WL.gyes rfl rfl rfl rfl ?_|refine WL.ar rfl rfl z3i ?_|refine WL.len rfl rfl zql ?_)
  refine (?_:WL _ _ _ _ _ _)
  refine WL.six rfl rfl ⟨by omega,by omega⟩ ?_
  simp only [el,hc1]
  repeat (first|refine W.gob rfl ?_|refine WL.nil ?_|refine WL.bt rfl rfl rfl z3o ?_|refine WL.e1 rfl ?_|refine WL.gyes rfl rfl rfl rfl ?_|refine W.condT rfl ?_)
  refine (?_:W _ _ _ _ _)
  exact W.ret (fin1 rfl rfl rfl rfl)
 have e:ttlOk t=t.all chOk:=by
  unfold ttlOk;rw [e0,hc0,hc1];simp [h3,h4]
 rw [e]
 refine Ctr.intro Tryz.func126 rfl Tryz.ntmps126 (Nat.le_of_ble_eq_true rfl) (bd_all rfl) fun w0 F0=>?_;dsimp only [St.init,number,Nat.reduceAdd]
 repeat (first|refine W.gob rfl ?_|refine WL.nil ?_|refine WL.bf rfl rfl rfl z3o ?_|refine WL.e1 rfl ?_|refine WL.gyes rfl rfl rfl rfl ?_|refine WL.len rfl rfl zql ?_)
 refine (?_:WL _ _ _ _ _ _)
 refine WL.six rfl rfl ⟨by omega,by omega⟩ ?_
 simp only [ez,hc0]
 repeat (first|refine WL.bf rfl rfl rfl z3o ?_|refine WL.e1 rfl ?_|refine WL.gyes rfl rfl rfl rfl ?_|refine WL.ar rfl rfl z3i ?_|refine WL.len rfl rfl zql ?_)
 refine (?_:WL _ _ _ _ _ _)
 refine WL.six rfl rfl ⟨by omega,by omega⟩ ?_
 simp only [el,hc1]
 repeat (first|refine W.gob rfl ?_|refine WL.nil ?_|refine WL.bf rfl rfl rfl z3o ?_|refine WL.e1 rfl ?_|refine WL.gyes rfl rfl rfl rfl ?_|refine W.condF rfl ?_)
 refine (?_:W _ _ _ _ _)
 refine W.loop (fun k:Nat=>k≤t.length∧(t.take k).all chOk=true) (fun k=>⟨[(0,.sc (.string (bs t))),(3,.sc (.int .i64 k))],[],0⟩) (fun k=>t.length - k) 0 ⟨by omega,by simp⟩ (zqt id) fun k hk=>?_
 obtain ⟨hk,hall⟩:=hk
 by_cases hlt:k < t.length
 rotate_left
 ·obtain rfl:k=t.length:=by omega
  rw [List.take_length] at hall
  rw [hall]
  repeat (first|refine W.gob rfl ?_|refine WL.nil ?_|refine WL.bf rfl rfl rfl z3o ?_|refine WL.e1 rfl ?_|refine WL.len rfl rfl zql ?_|refine W.condF rfl ?_)
  refine (?_:W _ _ _ _ _)
  exact W.ret (fin1 rfl rfl rfl rfl)
 have ek:((k:Nat):Int).toNat=k:=Int.toNat_natCast k
 have hst:=fun h=>ttl_step hlt hall h
 have hno:=fun h=>ttl_no hlt h
 have hch:chOk (t.getD k 0)=(decide (32≤((t.getD k 0).toNat:Int)) && decide (((t.getD k 0).toNat:Int)≤126)):=rfl
 obtain ⟨c,hc⟩:∃ c,((t.getD k 0).toNat:Int)=c:=⟨_,rfl⟩
 rw [hc] at hch
 rw [hch] at hst hno
 by_cases h5:c < 32
 ·rw [hno (by rw [decide_eq_false (by omega)];rfl)]
  repeat (first|refine W.gob rfl ?_|refine WL.nil ?_|refine WL.bt rfl rfl rfl z3o ?_|refine WL.e1 rfl ?_|refine WL.len rfl rfl zql ?_|refine W.condT rfl ?_)
  refine (?_:WL _ _ _ _ _ _)
  refine WL.six rfl rfl ⟨by omega,by omega⟩ ?_
  simp only [ek,hc]
  repeat (first|refine W.gob rfl ?_|refine WL.nil ?_|refine WL.bt rfl rfl rfl z3o ?_|refine WL.e1 rfl ?_|refine WL.opno rfl rfl rfl rfl rfl rfl rfl ?_|refine W.condT rfl ?_)
  refine (?_:W _ _ _ _ _)
  exact W.ret (fin1 rfl rfl rfl rfl)
 by_cases h6:c > 126
 ·rw [hno (by rw [decide_eq_false (show ¬ c≤126 by omega)];simp)]
  repeat (first|refine W.gob rfl ?_|refine WL.nil ?_|refine WL.bt rfl rfl rfl z3o ?_|refine WL.e1 rfl ?_|refine WL.len rfl rfl zql ?_|refine W.condT rfl ?_)
  refine (?_:WL _ _ _ _ _ _)
  refine WL.six rfl rfl ⟨by omega,by omega⟩ ?_
  simp only [ek,hc]
  repeat (first|refine WL.bf rfl rfl rfl z3o ?_|refine WL.e1 rfl ?_|refine WL.gyes rfl rfl rfl rfl ?_)
  refine (?_:WL _ _ _ _ _ _)
  refine WL.six rfl rfl ⟨by omega,by omega⟩ ?_
  simp only [ek,hc]
  repeat (first|refine W.gob rfl ?_|refine WL.nil ?_|refine WL.bt rfl rfl rfl z3o ?_|refine WL.e1 rfl ?_|refine WL.gyes rfl rfl rfl rfl ?_|refine W.condT rfl ?_)
  refine (?_:W _ _ _ _ _)
  exact W.ret (fin1 rfl rfl rfl rfl)
 have hnext:=hst (by rw [decide_eq_true (show 32≤c by omega),decide_eq_true (show c≤126 by omega)];rfl)
 repeat (first|refine W.gob rfl ?_|refine WL.nil ?_|refine WL.bt rfl rfl rfl z3o ?_|refine WL.e1 rfl ?_|refine WL.len rfl rfl zql ?_|refine W.condT rfl ?_)
 refine (?_:WL _ _ _ _ _ _)
 refine WL.six rfl rfl ⟨by omega,by omega⟩ ?_
 simp only [ek,hc]
 repeat (first|refine WL.bf rfl rfl rfl z3o ?_|refine WL.e1 rfl ?_|refine WL.gyes rfl rfl rfl rfl ?_)
 refine (?_:WL _ _ _ _ _ _)
 refine WL.six rfl rfl ⟨by omega,by omega⟩ ?_
 simp only [ek,hc]
 repeat (first|refine W.gob rfl ?_|refine WL.nil ?_|refine WL.bf rfl rfl rfl z3o ?_|refine WL.e1 rfl ?_|refine WL.gyes rfl rfl rfl rfl ?_|refine WL.ar rfl rfl z3i ?_|refine W.condF rfl ?_)
 exact ⟨k+1,⟨by omega,hnext⟩,by omega,(zqt id)⟩
end
section
open Go.RowKit
theorem rHasT_FS (b:List En) (t:List UInt8) (n:Nat) (hn:n≤b.length) (hb:b.length≤100000):Ctr Tryz.prog 127 [eBk b,.sc (.int .i64 n),.sc (.string (bs t))] (.sc (.bool (decide (ttlN b t < n)))):=by
 have hle:=ttlN_le b t
 refine Ctr.intro Tryz.func127 rfl Tryz.ntmps127 (Nat.le_of_ble_eq_true rfl) (bd_all rfl) fun w0 F0=>?_;dsimp only [St.init,number,Nat.reduceAdd]
 repeat refine W.go rfl ?_
 refine (?_:W _ _ _ _ _)
 refine W.loop (fun k:Nat=>k≤n∧∀ i (hi:i < k) (h:i < b.length),b[i].t≠t) (fun k=>⟨[(1,.sc (.int .i64 n)),(2,.sc (.string (bs t))),(3,.pt 0 0 0),(7,.sc (.int .i64 k))],[(0,.box 48 [.ls 5 (b.map eEn)])],1⟩) (fun k=>n - k) 0 ⟨by omega,fun i hi=>by omega⟩ (zqt id) fun k hk=>?_
 obtain ⟨hk,hno⟩:=hk
 by_cases hlt:k < n
 ·have hlt2:k < b.length:=by omega
  by_cases he:b[k].t=t
  ·have e:(b[k].t == t)=true:=by rw [he];simp
   have hn2:=ttlN_eq hlt2 (fun i hi=>hno i hi z3o) he
   rw [decide_eq_true (by omega)]
   repeat (first|refine W.gob rfl ?_|refine WL.nil ?_|refine WL.bt rfl rfl rfl z3o ?_|refine WL.e1 rfl ?_|refine WL.idx rfl rfl z3o zqm ?_|refine W.condT rfl ?_)
   refine (?_:W _ _ _ _ _)
   rw [e]
   repeat (first|refine W.gob rfl ?_|refine WL.nil ?_|refine WL.e1 rfl ?_|refine W.condT rfl ?_)
   refine (?_:W _ _ _ _ _)
   exact W.ret (fin1 rfl rfl rfl rfl)
  ·have e:(b[k].t == t)=false:=by simpa using he
   repeat (first|refine W.gob rfl ?_|refine WL.nil ?_|refine WL.bt rfl rfl rfl z3o ?_|refine WL.e1 rfl ?_|refine WL.idx rfl rfl z3o zqm ?_|refine W.condT rfl ?_)
   refine (?_:W _ _ _ _ _)
   rw [e]
   repeat (first|refine W.gob rfl ?_|refine WL.nil ?_|refine WL.e1 rfl ?_|refine WL.ar rfl rfl z3i ?_|refine W.condF rfl ?_)
   exact ⟨k+1,⟨by omega,fun i hi h=>by
    by_cases e:i=k
    ·subst e;exact he
    ·exact hno i z3o h⟩,by omega,(zqt id)⟩
 ·have hI:¬ ttlN b t < n:=fun h=>by
   have h2:ttlN b t < b.length:=by omega
   have:=ttlN_here h2
   exact hno _ (by omega) h2 (by simpa using this)
  rw [decide_eq_false hI]
  repeat (first|refine W.gob rfl ?_|refine WL.nil ?_|refine WL.bf rfl rfl rfl z3o ?_|refine WL.e1 rfl ?_|refine W.condF rfl ?_)
  refine (?_:W _ _ _ _ _)
  exact W.ret (fin1 rfl rfl rfl rfl)
theorem rBkCheck_FS (b:List En) (hB:BkOk b):Ctr Tryz.prog 60 [eBk b] (.sc (.int .i64 (bkE b))):=by
 have hn:=hB.n
 by_cases h64:b.length > 64
 ·have e:bkE b=2:=if_pos h64
  rw [e]
  refine Ctr.intro Tryz.func60 rfl Tryz.ntmps60 (Nat.le_of_ble_eq_true rfl) (bd_all rfl) fun w0 F0=>?_;dsimp only [St.init,number,Nat.reduceAdd]
  repeat (first|refine W.gob rfl ?_|refine WL.nil ?_|refine WL.bt rfl rfl rfl z3o ?_|refine WL.e1 rfl ?_|refine WL.len rfl rfl zql ?_|refine W.condT rfl ?_)
  refine (?_:W _ _ _ _ _)
  exact W.ret (fin1 rfl rfl rfl rfl)
 refine Ctr.intro Tryz.func60 rfl Tryz.ntmps60 (Nat.le_of_ble_eq_true rfl) (bd_all rfl) fun w0 F0=>?_;dsimp only [St.init,number,Nat.reduceAdd]
 repeat (first|refine W.gob rfl ?_|refine WL.nil ?_|refine WL.bf rfl rfl rfl z3o ?_|refine WL.e1 rfl ?_|refine WL.len rfl rfl zql ?_|refine W.condF rfl ?_)
 refine (?_:W _ _ _ _ _)
 refine W.loop (fun k:Nat=>k≤b.length∧∀ i (hi:i < k) (h:i < b.length),enE b i b[i]=0) (fun k=>⟨[(1,.pt 0 0 0),(3,.sc (.int .i64 k))],[(0,.box 48 [.ls 5 (b.map eEn)])],1⟩) (fun k=>b.length - k) 0 ⟨by omega,fun i hi=>by omega⟩ (zqt id) fun k hk=>?_
 obtain ⟨hk,hgood⟩:=hk
 by_cases hlt:k < b.length
 rotate_left
 ·rw [bkE_ok (by omega) fun i hi=>hgood i (by omega) hi]
  repeat (first|refine W.gob rfl ?_|refine WL.nil ?_|refine WL.bf rfl rfl rfl z3o ?_|refine WL.e1 rfl ?_|refine WL.len rfl rfl zql ?_|refine W.condF rfl ?_)
  refine (?_:W _ _ _ _ _)
  exact W.ret (fin1 rfl rfl rfl rfl)
 have hO:=hB.p k hlt
 have ht:=hB.t k hlt
 have hErr:enE b k b[k]≠0→bkE b=enE b k b[k]:=fun h=>bkE_at z3o hlt (fun j hj=>hgood j hj z3o) h
 have hNext:enE b k b[k]=0→∀ i (hi:i < k+1) (h:i < b.length),enE b i b[i]=0:=fun h0 i hi h=>by
  by_cases e:i=k
  ·subst e;exact h0
  ·exact hgood i z3o h
 have hT:=rTitle_FS b[k].t z3o
 have hH:=rHasT_FS b b[k].t k z3o z3o
 have hKn:=known_FS b[k].s
 have hC:=rCheck_FS b[k].p hO
 have hCan:=rCan_FS b[k].s b[k].p hO
 unfold enE at hErr hNext
 repeat (first|refine W.gob rfl ?_|refine WL.nil ?_|refine WL.bt rfl rfl rfl z3o ?_|refine WL.e1 rfl ?_|refine WL.len rfl rfl zql ?_|refine WL.idx rfl rfl z3o zqm ?_|refine W.condT rfl ?_)
 refine (?_:WL _ _ _ _ _ _)
 obtain ⟨e,he⟩:∃ e,b[k]=e:=⟨_,rfl⟩
 simp only [he] at hT hH hKn hC hCan hErr hNext hO ht ⊢
 refine WL.vl rfl (WV.call rfl (callF Tryz.func126 rfl rfl) rfl rfl hT) ?_
 cases hto:ttlOk e.t with
 | false =>
  rw [hErr (by rw [if_pos (.inl hto)];decide),if_pos (.inl hto)]
  repeat (first|refine W.gob rfl ?_|refine WL.nil ?_|refine WL.e1 rfl ?_|refine WL.opno rfl rfl rfl rfl rfl rfl rfl ?_|refine W.condT rfl ?_)
  refine (?_:W _ _ _ _ _)
  exact W.ret (fin1 rfl rfl rfl rfl)
 | true =>
  repeat (first|refine WL.e1 rfl ?_|refine WL.gyes rfl rfl rfl rfl ?_)
  refine (?_:WL _ _ _ _ _ _)
  refine WL.vl rfl (WV.call rfl (callF Tryz.func127 rfl rfl) rfl rfl hH) ?_
  by_cases hd:ttlN b e.t < k
  ·rw [decide_eq_true hd,hErr (by rw [if_pos (.inr hd)];decide),if_pos (.inr hd)]
   repeat (first|refine W.gob rfl ?_|refine WL.nil ?_|refine WL.e1 rfl ?_|refine W.condT rfl ?_)
   refine (?_:W _ _ _ _ _)
   exact W.ret (fin1 rfl rfl rfl rfl)
  have hA:¬ (ttlOk e.t=false∨ttlN b e.t < k):=by rintro (h|h);rw [hto] at h;cases h;exact hd h
  rw [if_neg hA] at hErr hNext
  rw [decide_eq_false hd]
  repeat (first|refine W.gob rfl ?_|refine WL.nil ?_|refine WL.e1 rfl ?_|refine W.condF rfl ?_)
  refine (?_:WL _ _ _ _ _ _)
  refine WL.vl rfl (WV.call rfl (callF Tryz.func75 rfl rfl) rfl rfl hKn) ?_
  by_cases hs:1≤e.s∧e.s≤4
  rotate_left
  ·rw [decide_eq_false hs,hErr (by rw [if_pos hs];decide),if_pos hs]
   repeat (first|refine W.gob rfl ?_|refine WL.nil ?_|refine WL.e1 rfl ?_|refine W.condT rfl ?_)
   refine (?_:W _ _ _ _ _)
   exact W.ret (fin1 rfl rfl rfl rfl)
  rw [if_neg (fun h=>h hs)] at hErr hNext
  rw [decide_eq_true hs]
  repeat (first|refine W.gob rfl ?_|refine WL.nil ?_|refine WL.e1 rfl ?_|refine W.condF rfl ?_)
  refine (?_:WL _ _ _ _ _ _)
  refine WL.vl rfl (WV.call rfl (callF Tryz.func28 rfl rfl) rfl rfl hC) ?_
  by_cases h0:pceE e.p=0
  rotate_left
  ·rw [if_pos h0] at hErr
   rw [hErr h0]
   obtain ⟨E,hE⟩:∃ E,pceE e.p=E:=⟨_,rfl⟩
   rw [hE] at h0 ⊢
   repeat (first|refine W.gob rfl ?_|refine WL.nil ?_|refine WL.nt rfl rfl rfl z3o ?_|refine WL.e1 rfl ?_|refine W.condT rfl ?_)
   refine (?_:W _ _ _ _ _)
   exact W.ret (fin1 rfl rfl rfl rfl)
  rw [if_neg (fun h=>h h0)] at hErr hNext
  have hlE:=(lks_ok hs h0).2
  rw [h0]
  rw [hlE] at hCan
  repeat (first|refine W.gob rfl ?_|refine WL.nil ?_|refine WL.nf rfl rfl rfl z3o ?_|refine WL.e1 rfl ?_|refine W.condF rfl ?_)
  refine (?_:WL _ _ _ _ _ _)
  by_cases hl:lksR e.s e.p=[]
  ·have hb:((0:Int) == 0 && ((lksR e.s e.p).length:Int) == 0)=true:=by rw [hl];rfl
   rw [hb] at hCan
   rw [if_pos hl] at hNext
   refine WL.vl rfl (WV.call rfl (callF Tryz.func76 rfl rfl) rfl rfl hCan) ?_
   repeat (first|refine W.gob rfl ?_|refine WL.nil ?_|refine WL.e1 rfl ?_|refine WL.ar rfl rfl z3i ?_|refine W.condF rfl ?_)
   exact ⟨k+1,⟨by omega,hNext rfl⟩,by omega,(zqt id)⟩
  ·have hb:((0:Int) == 0 && ((lksR e.s e.p).length:Int) == 0)=false:=by
    have:(lksR e.s e.p).length≠0:=fun h=>hl (List.eq_nil_of_length_eq_zero h)
    simp;omega
   rw [hb] at hCan
   rw [if_neg hl] at hErr
   rw [hErr (by decide)]
   refine WL.vl rfl (WV.call rfl (callF Tryz.func76 rfl rfl) rfl rfl hCan) ?_
   repeat (first|refine W.gob rfl ?_|refine WL.nil ?_|refine WL.e1 rfl ?_|refine W.condT rfl ?_)
   refine (?_:W _ _ _ _ _)
   exact W.ret (fin1 rfl rfl rfl rfl)
end
end Go.Proofs.YtgelfflighgajaaGreatDoor
