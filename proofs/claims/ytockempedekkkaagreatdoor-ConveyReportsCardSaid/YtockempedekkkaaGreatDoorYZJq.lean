/- What a system lacks, as a list of the caller's own (the program); where a lack's course stands. -/
import Derived.Test.YtockempedekkkaaGreatDoorRq4Jq
import Derived.Test.YtockempedekkkaaGreatDoorYFJq
import Derived.Test.YtockempedekkkaaGreatDoorYCJq
set_option maxHeartbeats 8000000
set_option maxRecDepth 100000
set_option linter.unusedVariables false
set_option linter.unusedSimpArgs false
namespace Go.Proofs.YtockempedekkkaaGreatDoor
section
open Go.RowKit
theorem z55i {z:Int} (h:I64 z:=by unfold I64;omega):I64 z:=h
theorem rq_rLn_len {ws:List (List UInt8)} (h:ws.length≠3):rq_rLn ws=none:=by
 match ws,h with
 | [],_=>rfl
 | [_],_=>rfl
 | [_,_],_=>rfl
 | [_,_,_],h=>exact absurd rfl h
 | _::_::_::_::_,_=>rfl
theorem rLine_FS (t:List UInt8) (ht:t.length≤1000000):Ctr Tryz.prog 24 [.sc (.string (bs t))] (.tu [.ag (eLk ((rq_rLn (rq_wds 32 t)).getD (0,0,0))),.sc (.bool (rq_rLn (rq_wds 32 t)).isSome)]):=by
 have hwb:=rq_wds_bytes 32 t
 have hW:=rWords_FS t ht
 obtain ⟨ws,hws⟩:∃ z,rq_wds 32 t=z:=⟨_,rfl⟩
 rw [hws] at hwb hW ⊢
 by_cases h3:ws.length=3
 rotate_left
 ·rw [rq_rLn_len h3]
  refine zqe Tryz.func24 Tryz.ntmps24 fun w0 F0=>?_;dsimp only [St.init,number,Nat.reduceAdd]
  repeat (first|refine W.gob rfl ?_|refine WL.nil ?_|refine WL.bt rfl rfl rfl zqo ?_|refine WL.bf rfl rfl rfl zqo ?_|refine WL.nt rfl rfl rfl zqo ?_|refine WL.nf rfl rfl rfl zqo ?_|refine WL.e1 rfl ?_|refine WL.gyes rfl rfl rfl rfl ?_|refine WL.opno rfl rfl rfl rfl rfl rfl rfl ?_|refine WL.ar rfl rfl z55i ?_|refine WL.len rfl rfl zql ?_|refine WL.idx rfl rfl zqo zqm ?_|refine W.condT rfl ?_|refine W.condF rfl ?_)
  (first|refine (?_:W _ _ _ _ _)|refine (?_:WL _ _ _ _ _ _)|skip)
  try dsimp only [St.put,Nat.reduceAdd]
  refine WL.vl rfl (zqc Tryz.func50 hW) ?_
  repeat (first|refine W.gob rfl ?_|refine WL.nil ?_|refine WL.bt rfl rfl rfl zqo ?_|refine WL.bf rfl rfl rfl zqo ?_|refine WL.nt rfl rfl rfl zqo ?_|refine WL.nf rfl rfl rfl zqo ?_|refine WL.e1 rfl ?_|refine WL.gyes rfl rfl rfl rfl ?_|refine WL.opno rfl rfl rfl rfl rfl rfl rfl ?_|refine WL.ar rfl rfl z55i ?_|refine WL.len rfl rfl zql ?_|refine WL.idx rfl rfl zqo zqm ?_|refine W.condT rfl ?_|refine W.condF rfl ?_)
  (first|refine (?_:W _ _ _ _ _)|refine (?_:WL _ _ _ _ _ _)|skip)
  try dsimp only [St.put,Nat.reduceAdd]
  exact W.ret (finN rfl rfl rfl rfl)
 obtain ⟨a,b,d,rfl⟩:=rq_three h3
 have hA:=rNumber_FS a (by have:=hwb a (by simp);omega)
 have hB2:=rNumber_FS b (by have:=hwb b (by simp);omega)
 have hl3:([a,b,d]:List (List UInt8)).length=3:=rfl
 clear hwb hws
 cases ha:rq_numR a with
 | none =>
  have e:rq_rLn [a,b,d]=none:=by unfold rq_rLn;dsimp only;rw [ha]
  rw [e]
  rw [ha] at hA
  obtain ⟨nb,hnb⟩:∃ z,(((rq_numR b).getD 0:Nat):Int)=z:=⟨_,rfl⟩
  obtain ⟨ib,hib⟩:∃ z,(rq_numR b).isSome=z:=⟨_,rfl⟩
  rw [hnb,hib] at hB2
  refine zqe Tryz.func24 Tryz.ntmps24 fun w0 F0=>?_;dsimp only [St.init,number,Nat.reduceAdd]
  repeat (first|refine W.gob rfl ?_|refine WL.nil ?_|refine WL.bt rfl rfl rfl zqo ?_|refine WL.bf rfl rfl rfl zqo ?_|refine WL.nt rfl rfl rfl zqo ?_|refine WL.nf rfl rfl rfl zqo ?_|refine WL.e1 rfl ?_|refine WL.gyes rfl rfl rfl rfl ?_|refine WL.opno rfl rfl rfl rfl rfl rfl rfl ?_|refine WL.ar rfl rfl z55i ?_|refine WL.len rfl rfl zql ?_|refine WL.idx rfl rfl zqo zqm ?_|refine W.condT rfl ?_|refine W.condF rfl ?_)
  (first|refine (?_:W _ _ _ _ _)|refine (?_:WL _ _ _ _ _ _)|skip)
  try dsimp only [St.put,Nat.reduceAdd]
  refine WL.vl rfl (zqc Tryz.func50 hW) ?_
  repeat (first|refine W.gob rfl ?_|refine WL.nil ?_|refine WL.bt rfl rfl rfl zqo ?_|refine WL.bf rfl rfl rfl zqo ?_|refine WL.nt rfl rfl rfl zqo ?_|refine WL.nf rfl rfl rfl zqo ?_|refine WL.e1 rfl ?_|refine WL.gyes rfl rfl rfl rfl ?_|refine WL.opno rfl rfl rfl rfl rfl rfl rfl ?_|refine WL.ar rfl rfl z55i ?_|refine WL.len rfl rfl zql ?_|refine WL.idx rfl rfl zqo zqm ?_|refine W.condT rfl ?_|refine W.condF rfl ?_)
  (first|refine (?_:W _ _ _ _ _)|refine (?_:WL _ _ _ _ _ _)|skip)
  try dsimp only [St.put,Nat.reduceAdd]
  refine WL.vl rfl (zqc Tryz.func51 hA) ?_
  repeat (first|refine W.gob rfl ?_|refine WL.nil ?_|refine WL.bt rfl rfl rfl zqo ?_|refine WL.bf rfl rfl rfl zqo ?_|refine WL.nt rfl rfl rfl zqo ?_|refine WL.nf rfl rfl rfl zqo ?_|refine WL.e1 rfl ?_|refine WL.gyes rfl rfl rfl rfl ?_|refine WL.opno rfl rfl rfl rfl rfl rfl rfl ?_|refine WL.ar rfl rfl z55i ?_|refine WL.len rfl rfl zql ?_|refine WL.idx rfl rfl zqo zqm ?_|refine W.condT rfl ?_|refine W.condF rfl ?_)
  (first|refine (?_:W _ _ _ _ _)|refine (?_:WL _ _ _ _ _ _)|skip)
  try dsimp only [St.put,Nat.reduceAdd]
  refine WL.vl rfl (zqc Tryz.func51 hB2) ?_
  repeat (first|refine W.gob rfl ?_|refine WL.nil ?_|refine WL.bt rfl rfl rfl zqo ?_|refine WL.bf rfl rfl rfl zqo ?_|refine WL.nt rfl rfl rfl zqo ?_|refine WL.nf rfl rfl rfl zqo ?_|refine WL.e1 rfl ?_|refine WL.gyes rfl rfl rfl rfl ?_|refine WL.opno rfl rfl rfl rfl rfl rfl rfl ?_|refine WL.ar rfl rfl z55i ?_|refine WL.len rfl rfl zql ?_|refine WL.idx rfl rfl zqo zqm ?_|refine W.condT rfl ?_|refine W.condF rfl ?_)
  (first|refine (?_:W _ _ _ _ _)|refine (?_:WL _ _ _ _ _ _)|skip)
  try dsimp only [St.put,Nat.reduceAdd]
  exact W.ret (finN rfl rfl rfl rfl)
 | some e1 =>
  rw [ha] at hA
  cases hb:rq_numR b with
  | none =>
   have e:rq_rLn [a,b,d]=none:=by unfold rq_rLn;dsimp only;rw [ha,hb]
   rw [e]
   rw [hb] at hB2
   refine zqe Tryz.func24 Tryz.ntmps24 fun w0 F0=>?_;dsimp only [St.init,number,Nat.reduceAdd]
   repeat (first|refine W.gob rfl ?_|refine WL.nil ?_|refine WL.bt rfl rfl rfl zqo ?_|refine WL.bf rfl rfl rfl zqo ?_|refine WL.nt rfl rfl rfl zqo ?_|refine WL.nf rfl rfl rfl zqo ?_|refine WL.e1 rfl ?_|refine WL.gyes rfl rfl rfl rfl ?_|refine WL.opno rfl rfl rfl rfl rfl rfl rfl ?_|refine WL.ar rfl rfl z55i ?_|refine WL.len rfl rfl zql ?_|refine WL.idx rfl rfl zqo zqm ?_|refine W.condT rfl ?_|refine W.condF rfl ?_)
   (first|refine (?_:W _ _ _ _ _)|refine (?_:WL _ _ _ _ _ _)|skip)
   try dsimp only [St.put,Nat.reduceAdd]
   refine WL.vl rfl (zqc Tryz.func50 hW) ?_
   repeat (first|refine W.gob rfl ?_|refine WL.nil ?_|refine WL.bt rfl rfl rfl zqo ?_|refine WL.bf rfl rfl rfl zqo ?_|refine WL.nt rfl rfl rfl zqo ?_|refine WL.nf rfl rfl rfl zqo ?_|refine WL.e1 rfl ?_|refine WL.gyes rfl rfl rfl rfl ?_|refine WL.opno rfl rfl rfl rfl rfl rfl rfl ?_|refine WL.ar rfl rfl z55i ?_|refine WL.len rfl rfl zql ?_|refine WL.idx rfl rfl zqo zqm ?_|refine W.condT rfl ?_|refine W.condF rfl ?_)
   (first|refine (?_:W _ _ _ _ _)|refine (?_:WL _ _ _ _ _ _)|skip)
   try dsimp only [St.put,Nat.reduceAdd]
   refine WL.vl rfl (zqc Tryz.func51 hA) ?_
   repeat (first|refine W.gob rfl ?_|refine WL.nil ?_|refine WL.bt rfl rfl rfl zqo ?_|refine WL.bf rfl rfl rfl zqo ?_|refine WL.nt rfl rfl rfl zqo ?_|refine WL.nf rfl rfl rfl zqo ?_|refine WL.e1 rfl ?_|refine WL.gyes rfl rfl rfl rfl ?_|refine WL.opno rfl rfl rfl rfl rfl rfl rfl ?_|refine WL.ar rfl rfl z55i ?_|refine WL.len rfl rfl zql ?_|refine WL.idx rfl rfl zqo zqm ?_|refine W.condT rfl ?_|refine W.condF rfl ?_)
   (first|refine (?_:W _ _ _ _ _)|refine (?_:WL _ _ _ _ _ _)|skip)
   try dsimp only [St.put,Nat.reduceAdd]
   refine WL.vl rfl (zqc Tryz.func51 hB2) ?_
   repeat (first|refine W.gob rfl ?_|refine WL.nil ?_|refine WL.bt rfl rfl rfl zqo ?_|refine WL.bf rfl rfl rfl zqo ?_|refine WL.nt rfl rfl rfl zqo ?_|refine WL.nf rfl rfl rfl zqo ?_|refine WL.e1 rfl ?_|refine WL.gyes rfl rfl rfl rfl ?_|refine WL.opno rfl rfl rfl rfl rfl rfl rfl ?_|refine WL.ar rfl rfl z55i ?_|refine WL.len rfl rfl zql ?_|refine WL.idx rfl rfl zqo zqm ?_|refine W.condT rfl ?_|refine W.condF rfl ?_)
   (first|refine (?_:W _ _ _ _ _)|refine (?_:WL _ _ _ _ _ _)|skip)
   try dsimp only [St.put,Nat.reduceAdd]
   exact W.ret (finN rfl rfl rfl rfl)
  | some c1 =>
   rw [hb] at hB2
   have hA:Ctr Tryz.prog 51 [.sc (.string (bs a))] (.tu [.sc (.int .i64 (e1:Int)),.sc (.bool true)]):=hA
   have hB2:Ctr Tryz.prog 51 [.sc (.string (bs b))] (.tu [.sc (.int .i64 (c1:Int)),.sc (.bool true)]):=hB2
   have hr:rq_rLn [a,b,d]=if e1 < 400∧c1≤14∧rq_nmL.idxOf d < 8 then some ((e1:Int),(c1:Int),((rq_nmL.idxOf d:Nat):Int)+1) else none:=by unfold rq_rLn;dsimp only;rw [ha,hb]
   by_cases k1:400≤e1
   ·rw [if_neg (by omega)] at hr
    rw [hr]
    refine zqe Tryz.func24 Tryz.ntmps24 fun w0 F0=>?_;dsimp only [St.init,number,Nat.reduceAdd]
    repeat (first|refine W.gob rfl ?_|refine WL.nil ?_|refine WL.bt rfl rfl rfl zqo ?_|refine WL.bf rfl rfl rfl zqo ?_|refine WL.nt rfl rfl rfl zqo ?_|refine WL.nf rfl rfl rfl zqo ?_|refine WL.e1 rfl ?_|refine WL.gyes rfl rfl rfl rfl ?_|refine WL.opno rfl rfl rfl rfl rfl rfl rfl ?_|refine WL.ar rfl rfl z55i ?_|refine WL.len rfl rfl zql ?_|refine WL.idx rfl rfl zqo zqm ?_|refine W.condT rfl ?_|refine W.condF rfl ?_)
    (first|refine (?_:W _ _ _ _ _)|refine (?_:WL _ _ _ _ _ _)|skip)
    try dsimp only [St.put,Nat.reduceAdd]
    refine WL.vl rfl (zqc Tryz.func50 hW) ?_
    repeat (first|refine W.gob rfl ?_|refine WL.nil ?_|refine WL.bt rfl rfl rfl zqo ?_|refine WL.bf rfl rfl rfl zqo ?_|refine WL.nt rfl rfl rfl zqo ?_|refine WL.nf rfl rfl rfl zqo ?_|refine WL.e1 rfl ?_|refine WL.gyes rfl rfl rfl rfl ?_|refine WL.opno rfl rfl rfl rfl rfl rfl rfl ?_|refine WL.ar rfl rfl z55i ?_|refine WL.len rfl rfl zql ?_|refine WL.idx rfl rfl zqo zqm ?_|refine W.condT rfl ?_|refine W.condF rfl ?_)
    (first|refine (?_:W _ _ _ _ _)|refine (?_:WL _ _ _ _ _ _)|skip)
    try dsimp only [St.put,Nat.reduceAdd]
    refine WL.vl rfl (zqc Tryz.func51 hA) ?_
    repeat (first|refine W.gob rfl ?_|refine WL.nil ?_|refine WL.bt rfl rfl rfl zqo ?_|refine WL.bf rfl rfl rfl zqo ?_|refine WL.nt rfl rfl rfl zqo ?_|refine WL.nf rfl rfl rfl zqo ?_|refine WL.e1 rfl ?_|refine WL.gyes rfl rfl rfl rfl ?_|refine WL.opno rfl rfl rfl rfl rfl rfl rfl ?_|refine WL.ar rfl rfl z55i ?_|refine WL.len rfl rfl zql ?_|refine WL.idx rfl rfl zqo zqm ?_|refine W.condT rfl ?_|refine W.condF rfl ?_)
    (first|refine (?_:W _ _ _ _ _)|refine (?_:WL _ _ _ _ _ _)|skip)
    try dsimp only [St.put,Nat.reduceAdd]
    refine WL.vl rfl (zqc Tryz.func51 hB2) ?_
    repeat (first|refine W.gob rfl ?_|refine WL.nil ?_|refine WL.bt rfl rfl rfl zqo ?_|refine WL.bf rfl rfl rfl zqo ?_|refine WL.nt rfl rfl rfl zqo ?_|refine WL.nf rfl rfl rfl zqo ?_|refine WL.e1 rfl ?_|refine WL.gyes rfl rfl rfl rfl ?_|refine WL.opno rfl rfl rfl rfl rfl rfl rfl ?_|refine WL.ar rfl rfl z55i ?_|refine WL.len rfl rfl zql ?_|refine WL.idx rfl rfl zqo zqm ?_|refine W.condT rfl ?_|refine W.condF rfl ?_)
    (first|refine (?_:W _ _ _ _ _)|refine (?_:WL _ _ _ _ _ _)|skip)
    try dsimp only [St.put,Nat.reduceAdd]
    exact W.ret (finN rfl rfl rfl rfl)
   by_cases k2:14 < c1
   ·rw [if_neg (by omega)] at hr
    rw [hr]
    refine zqe Tryz.func24 Tryz.ntmps24 fun w0 F0=>?_;dsimp only [St.init,number,Nat.reduceAdd]
    repeat (first|refine W.gob rfl ?_|refine WL.nil ?_|refine WL.bt rfl rfl rfl zqo ?_|refine WL.bf rfl rfl rfl zqo ?_|refine WL.nt rfl rfl rfl zqo ?_|refine WL.nf rfl rfl rfl zqo ?_|refine WL.e1 rfl ?_|refine WL.gyes rfl rfl rfl rfl ?_|refine WL.opno rfl rfl rfl rfl rfl rfl rfl ?_|refine WL.ar rfl rfl z55i ?_|refine WL.len rfl rfl zql ?_|refine WL.idx rfl rfl zqo zqm ?_|refine W.condT rfl ?_|refine W.condF rfl ?_)
    (first|refine (?_:W _ _ _ _ _)|refine (?_:WL _ _ _ _ _ _)|skip)
    try dsimp only [St.put,Nat.reduceAdd]
    refine WL.vl rfl (zqc Tryz.func50 hW) ?_
    repeat (first|refine W.gob rfl ?_|refine WL.nil ?_|refine WL.bt rfl rfl rfl zqo ?_|refine WL.bf rfl rfl rfl zqo ?_|refine WL.nt rfl rfl rfl zqo ?_|refine WL.nf rfl rfl rfl zqo ?_|refine WL.e1 rfl ?_|refine WL.gyes rfl rfl rfl rfl ?_|refine WL.opno rfl rfl rfl rfl rfl rfl rfl ?_|refine WL.ar rfl rfl z55i ?_|refine WL.len rfl rfl zql ?_|refine WL.idx rfl rfl zqo zqm ?_|refine W.condT rfl ?_|refine W.condF rfl ?_)
    (first|refine (?_:W _ _ _ _ _)|refine (?_:WL _ _ _ _ _ _)|skip)
    try dsimp only [St.put,Nat.reduceAdd]
    refine WL.vl rfl (zqc Tryz.func51 hA) ?_
    repeat (first|refine W.gob rfl ?_|refine WL.nil ?_|refine WL.bt rfl rfl rfl zqo ?_|refine WL.bf rfl rfl rfl zqo ?_|refine WL.nt rfl rfl rfl zqo ?_|refine WL.nf rfl rfl rfl zqo ?_|refine WL.e1 rfl ?_|refine WL.gyes rfl rfl rfl rfl ?_|refine WL.opno rfl rfl rfl rfl rfl rfl rfl ?_|refine WL.ar rfl rfl z55i ?_|refine WL.len rfl rfl zql ?_|refine WL.idx rfl rfl zqo zqm ?_|refine W.condT rfl ?_|refine W.condF rfl ?_)
    (first|refine (?_:W _ _ _ _ _)|refine (?_:WL _ _ _ _ _ _)|skip)
    try dsimp only [St.put,Nat.reduceAdd]
    refine WL.vl rfl (zqc Tryz.func51 hB2) ?_
    repeat (first|refine W.gob rfl ?_|refine WL.nil ?_|refine WL.bt rfl rfl rfl zqo ?_|refine WL.bf rfl rfl rfl zqo ?_|refine WL.nt rfl rfl rfl zqo ?_|refine WL.nf rfl rfl rfl zqo ?_|refine WL.e1 rfl ?_|refine WL.gyes rfl rfl rfl rfl ?_|refine WL.opno rfl rfl rfl rfl rfl rfl rfl ?_|refine WL.ar rfl rfl z55i ?_|refine WL.len rfl rfl zql ?_|refine WL.idx rfl rfl zqo zqm ?_|refine W.condT rfl ?_|refine W.condF rfl ?_)
    (first|refine (?_:W _ _ _ _ _)|refine (?_:WL _ _ _ _ _ _)|skip)
    try dsimp only [St.put,Nat.reduceAdd]
    exact W.ret (finN rfl rfl rfl rfl)
   have h9:rq_nmR.length=9:=rfl
   have h8:rq_nmL.length=8:=rfl
   refine zqe Tryz.func24 Tryz.ntmps24 fun w0 F0=>?_;dsimp only [St.init,number,Nat.reduceAdd]
   repeat (first|refine W.gob rfl ?_|refine WL.nil ?_|refine WL.bt rfl rfl rfl zqo ?_|refine WL.bf rfl rfl rfl zqo ?_|refine WL.nt rfl rfl rfl zqo ?_|refine WL.nf rfl rfl rfl zqo ?_|refine WL.e1 rfl ?_|refine WL.gyes rfl rfl rfl rfl ?_|refine WL.opno rfl rfl rfl rfl rfl rfl rfl ?_|refine WL.ar rfl rfl z55i ?_|refine WL.len rfl rfl zql ?_|refine WL.idx rfl rfl zqo zqm ?_|refine W.condT rfl ?_|refine W.condF rfl ?_)
   (first|refine (?_:W _ _ _ _ _)|refine (?_:WL _ _ _ _ _ _)|skip)
   try dsimp only [St.put,Nat.reduceAdd]
   refine WL.vl rfl (zqc Tryz.func50 hW) ?_
   repeat (first|refine W.gob rfl ?_|refine WL.nil ?_|refine WL.bt rfl rfl rfl zqo ?_|refine WL.bf rfl rfl rfl zqo ?_|refine WL.nt rfl rfl rfl zqo ?_|refine WL.nf rfl rfl rfl zqo ?_|refine WL.e1 rfl ?_|refine WL.gyes rfl rfl rfl rfl ?_|refine WL.opno rfl rfl rfl rfl rfl rfl rfl ?_|refine WL.ar rfl rfl z55i ?_|refine WL.len rfl rfl zql ?_|refine WL.idx rfl rfl zqo zqm ?_|refine W.condT rfl ?_|refine W.condF rfl ?_)
   (first|refine (?_:W _ _ _ _ _)|refine (?_:WL _ _ _ _ _ _)|skip)
   try dsimp only [St.put,Nat.reduceAdd]
   refine WL.vl rfl (zqc Tryz.func51 hA) ?_
   repeat (first|refine W.gob rfl ?_|refine WL.nil ?_|refine WL.bt rfl rfl rfl zqo ?_|refine WL.bf rfl rfl rfl zqo ?_|refine WL.nt rfl rfl rfl zqo ?_|refine WL.nf rfl rfl rfl zqo ?_|refine WL.e1 rfl ?_|refine WL.gyes rfl rfl rfl rfl ?_|refine WL.opno rfl rfl rfl rfl rfl rfl rfl ?_|refine WL.ar rfl rfl z55i ?_|refine WL.len rfl rfl zql ?_|refine WL.idx rfl rfl zqo zqm ?_|refine W.condT rfl ?_|refine W.condF rfl ?_)
   (first|refine (?_:W _ _ _ _ _)|refine (?_:WL _ _ _ _ _ _)|skip)
   try dsimp only [St.put,Nat.reduceAdd]
   refine WL.vl rfl (zqc Tryz.func51 hB2) ?_
   repeat (first|refine W.gob rfl ?_|refine WL.nil ?_|refine WL.bt rfl rfl rfl zqo ?_|refine WL.bf rfl rfl rfl zqo ?_|refine WL.nt rfl rfl rfl zqo ?_|refine WL.nf rfl rfl rfl zqo ?_|refine WL.e1 rfl ?_|refine WL.gyes rfl rfl rfl rfl ?_|refine WL.opno rfl rfl rfl rfl rfl rfl rfl ?_|refine WL.ar rfl rfl z55i ?_|refine WL.len rfl rfl zql ?_|refine WL.idx rfl rfl zqo zqm ?_|refine W.condT rfl ?_|refine W.condF rfl ?_)
   (first|refine (?_:W _ _ _ _ _)|refine (?_:WL _ _ _ _ _ _)|skip)
   try dsimp only [St.put,Nat.reduceAdd]
   refine W.loop (fun k:Nat=>k≤8∧∀ j (hj:j < rq_nmL.length),j < k→rq_nmL[j]≠d) (fun k=>⟨[(2,.pt 0 0 0),(4,.ls 1 ([a,b,d].map eTx)),(5,.sc (.int .i64 e1)),(7,.sc (.int .i64 c1)),(9,.sc (.int .i64 ((k:Int)+1)))],[(0,.box 53 [.sc (.int .i64 0),.sc (.int .i64 0),.sc (.int .i64 0)])],1⟩) (fun k=>8 - k) 0 ⟨by omega,fun j hj h=>absurd h zqo⟩ (zqt id) fun k hk=>?_
   obtain ⟨hk,hall⟩:=hk
   by_cases hlt:k < 8
   rotate_left
   ·obtain rfl:k=8:=by omega
    have hi:=rq_idx_none (l:=rq_nmL) (d:=d) fun j hj=>hall j hj zqo
    rw [if_neg (by omega)] at hr
    rw [hr]
    repeat (first|refine W.gob rfl ?_|refine WL.nil ?_|refine WL.bt rfl rfl rfl zqo ?_|refine WL.bf rfl rfl rfl zqo ?_|refine WL.nt rfl rfl rfl zqo ?_|refine WL.nf rfl rfl rfl zqo ?_|refine WL.e1 rfl ?_|refine WL.gyes rfl rfl rfl rfl ?_|refine WL.opno rfl rfl rfl rfl rfl rfl rfl ?_|refine WL.ar rfl rfl z55i ?_|refine WL.len rfl rfl zql ?_|refine WL.idx rfl rfl zqo zqm ?_|refine W.condT rfl ?_|refine W.condF rfl ?_)
    (first|refine (?_:W _ _ _ _ _)|refine (?_:WL _ _ _ _ _ _)|skip)
    try dsimp only [St.put,Nat.reduceAdd]
    exact W.ret (finN rfl rfl rfl rfl)
   have hk8:k < rq_nmL.length:=by omega
   have hix:∀ h,rq_nmR[((k:Int)+1).toNat]'h=rq_nmL[k]:=fun h=>by
    have e:((k:Int)+1).toNat=k+1:=by omega
    have e2:rq_nmR[((k:Int)+1).toNat]?=rq_nmL[k]?:=by rw [e];rfl
    rw [List.getElem?_eq_getElem h,List.getElem?_eq_getElem hk8] at e2
    exact Option.some.inj e2
   have hd2:∀ h,([a,b,d]:List (List UInt8))[Int.toNat 2]'h=d:=fun _=>rfl
   by_cases e:rq_nmL[k]=d
   ·have hi:=rq_idx_at hk8 hall e
    rw [if_pos ⟨by omega,by omega,by omega⟩,hi] at hr
    rw [hr]
    have hbq:(rq_nmL[k] == d)=true:=by simp [e]
    repeat (first|refine W.gob rfl ?_|refine WL.nil ?_|refine WL.bt rfl rfl rfl zqo ?_|refine WL.bf rfl rfl rfl zqo ?_|refine WL.nt rfl rfl rfl zqo ?_|refine WL.nf rfl rfl rfl zqo ?_|refine WL.e1 rfl ?_|refine WL.gyes rfl rfl rfl rfl ?_|refine WL.opno rfl rfl rfl rfl rfl rfl rfl ?_|refine WL.ar rfl rfl z55i ?_|refine WL.len rfl rfl zql ?_|refine WL.idx rfl rfl zqo zqm ?_|refine W.condT rfl ?_|refine W.condF rfl ?_)
    (first|refine (?_:W _ _ _ _ _)|refine (?_:WL _ _ _ _ _ _)|skip)
    try dsimp only [St.put,Nat.reduceAdd]
    refine W.drawK zqk zqk ?_
    repeat (first|refine DK.st rfl ?_|refine DK.idx rfl rfl zqo zqm ?_|refine DK.nil ?_)
    refine DK.vl rfl (zqc Tryz.func18 rWords4_FS) ?_
    repeat (first|refine DK.st rfl ?_|refine DK.idx rfl rfl zqo zqm ?_|refine DK.nil ?_)
    rw [hix,hd2]
    repeat (first|refine W.gob rfl ?_|refine WL.nil ?_|refine WL.bt rfl rfl rfl zqo ?_|refine WL.bf rfl rfl rfl zqo ?_|refine WL.nt rfl rfl rfl zqo ?_|refine WL.nf rfl rfl rfl zqo ?_|refine WL.e1 rfl ?_|refine WL.gyes rfl rfl rfl rfl ?_|refine WL.opno rfl rfl rfl rfl rfl rfl rfl ?_|refine WL.ar rfl rfl z55i ?_|refine WL.len rfl rfl zql ?_|refine WL.idx rfl rfl zqo zqm ?_|refine W.condT rfl ?_|refine W.condF rfl ?_)
    (first|refine (?_:W _ _ _ _ _)|refine (?_:WL _ _ _ _ _ _)|skip)
    try dsimp only [St.put,Nat.reduceAdd]
    rw [hbq]
    repeat (first|refine W.gob rfl ?_|refine WL.nil ?_|refine WL.bt rfl rfl rfl zqo ?_|refine WL.bf rfl rfl rfl zqo ?_|refine WL.nt rfl rfl rfl zqo ?_|refine WL.nf rfl rfl rfl zqo ?_|refine WL.e1 rfl ?_|refine WL.gyes rfl rfl rfl rfl ?_|refine WL.opno rfl rfl rfl rfl rfl rfl rfl ?_|refine WL.ar rfl rfl z55i ?_|refine WL.len rfl rfl zql ?_|refine WL.idx rfl rfl zqo zqm ?_|refine W.condT rfl ?_|refine W.condF rfl ?_)
    (first|refine (?_:W _ _ _ _ _)|refine (?_:WL _ _ _ _ _ _)|skip)
    try dsimp only [St.put,Nat.reduceAdd]
    exact W.ret (finN rfl rfl rfl rfl)
   ·have hbq:(rq_nmL[k] == d)=false:=by simpa using e
    repeat (first|refine W.gob rfl ?_|refine WL.nil ?_|refine WL.bt rfl rfl rfl zqo ?_|refine WL.bf rfl rfl rfl zqo ?_|refine WL.nt rfl rfl rfl zqo ?_|refine WL.nf rfl rfl rfl zqo ?_|refine WL.e1 rfl ?_|refine WL.gyes rfl rfl rfl rfl ?_|refine WL.opno rfl rfl rfl rfl rfl rfl rfl ?_|refine WL.ar rfl rfl z55i ?_|refine WL.len rfl rfl zql ?_|refine WL.idx rfl rfl zqo zqm ?_|refine W.condT rfl ?_|refine W.condF rfl ?_)
    (first|refine (?_:W _ _ _ _ _)|refine (?_:WL _ _ _ _ _ _)|skip)
    try dsimp only [St.put,Nat.reduceAdd]
    refine W.drawK zqk zqk ?_
    repeat (first|refine DK.st rfl ?_|refine DK.idx rfl rfl zqo zqm ?_|refine DK.nil ?_)
    refine DK.vl rfl (zqc Tryz.func18 rWords4_FS) ?_
    repeat (first|refine DK.st rfl ?_|refine DK.idx rfl rfl zqo zqm ?_|refine DK.nil ?_)
    rw [hix,hd2]
    repeat (first|refine W.gob rfl ?_|refine WL.nil ?_|refine WL.bt rfl rfl rfl zqo ?_|refine WL.bf rfl rfl rfl zqo ?_|refine WL.nt rfl rfl rfl zqo ?_|refine WL.nf rfl rfl rfl zqo ?_|refine WL.e1 rfl ?_|refine WL.gyes rfl rfl rfl rfl ?_|refine WL.opno rfl rfl rfl rfl rfl rfl rfl ?_|refine WL.ar rfl rfl z55i ?_|refine WL.len rfl rfl zql ?_|refine WL.idx rfl rfl zqo zqm ?_|refine W.condT rfl ?_|refine W.condF rfl ?_)
    (first|refine (?_:W _ _ _ _ _)|refine (?_:WL _ _ _ _ _ _)|skip)
    try dsimp only [St.put,Nat.reduceAdd]
    rw [hbq]
    repeat (first|refine W.gob rfl ?_|refine WL.nil ?_|refine WL.bt rfl rfl rfl zqo ?_|refine WL.bf rfl rfl rfl zqo ?_|refine WL.nt rfl rfl rfl zqo ?_|refine WL.nf rfl rfl rfl zqo ?_|refine WL.e1 rfl ?_|refine WL.gyes rfl rfl rfl rfl ?_|refine WL.opno rfl rfl rfl rfl rfl rfl rfl ?_|refine WL.ar rfl rfl z55i ?_|refine WL.len rfl rfl zql ?_|refine WL.idx rfl rfl zqo zqm ?_|refine W.condT rfl ?_|refine W.condF rfl ?_)
    (first|refine (?_:W _ _ _ _ _)|refine (?_:WL _ _ _ _ _ _)|skip)
    try dsimp only [St.put,Nat.reduceAdd]
    refine ⟨k+1,⟨by omega,fun j hj h=>?_⟩,by omega,?_⟩
    ·by_cases e2:j=k
     ·subst e2;exact e
     ·exact hall j hj zqo
    exact (zqu (fun q=>q) (by repeat (first|exact trivial|refine ⟨⟨?_,?_,?_⟩,?_⟩|rfl|exact congrArg (fun q=>some (AO.row _ _ q)) (by first|rfl|(simp;done)|(simp [eInt];done)|(simp [eLk];done)))) rfl)
def rq_rlX (l:List UInt8):Lck:=(rq_rLn (rq_wds 32 l)).getD (0,0,0)
theorem rq_mapM_bad {ls:List (List UInt8)} {tl:List UInt8} {k:Nat} (hk:k<ls.length)(h:rq_rLn (rq_wds 32 ls[k])=none):rq_prV ls tl=none:=by
 unfold rq_prV
 split
 ·exact rq_mapM_none (List.getElem_mem hk) h
 ·rfl
theorem rq_mapM_ok {ls:List (List UInt8)} (h:∀ j (hj:j<ls.length),(rq_rLn (rq_wds 32 ls[j])).isSome=true):rq_prV ls []=some (ls.map rq_rlX):=by
 unfold rq_prV
 rw [if_pos rfl]
 refine rq_mapM_some fun l hl=>?_
 obtain⟨j,hj,rfl⟩:=List.mem_iff_getElem.1 hl
 have:=h j hj
 unfold rq_rlX
 cases hx:rq_rLn (rq_wds 32 ls[j])with
 | none=>rw [hx]at this;cases this
 | some x=>rfl
theorem rParse_FS (t:List UInt8) (hl:t.length≤100000):Ctr Tryz.prog 10 [.sc (.string (bs t))] (.tu [.ls 3 ((rq_prL (rq_spl 10 t).1 (rq_spl 10 t).2).map eLk),.sc (.int .i64 (rq_prE (rq_spl 10 t).1 (rq_spl 10 t).2))]):=by
 have hLn:=rLines_FS t zqo
 have hj:=rq_spl_join 10 t
 obtain ⟨tl,htl⟩:∃ z,(rq_spl 10 t).2=z:=⟨_,rfl⟩
 obtain ⟨ls,hls⟩:∃ z,(rq_spl 10 t).1=z:=⟨_,rfl⟩
 rw [htl,hls] at hLn hj ⊢
 by_cases h0:tl=[]
 rotate_left
 ·have hy:=rq_no (rq_no_tl (ls:=ls) h0)
  rw [hy.1,hy.2]
  rw [if_neg h0,decide_eq_false h0] at hLn
  refine zqe Tryz.func10 Tryz.ntmps10 fun w0 F0=>?_;dsimp only [St.init,number,Nat.reduceAdd]
  repeat (first|refine W.gob rfl ?_|refine WL.nil ?_|refine WL.bt rfl rfl rfl zqo ?_|refine WL.bf rfl rfl rfl zqo ?_|refine WL.e1 rfl ?_|refine WL.ar rfl rfl z55i ?_|refine WL.len rfl rfl zql ?_|refine WL.idx rfl rfl zqo zqm ?_|refine WL.app rfl rfl rfl zqs ?_|refine W.condT rfl ?_|refine W.condF rfl ?_)
  (first|refine (?_:W _ _ _ _ _)|refine (?_:WL _ _ _ _ _ _)|skip)
  try dsimp only [St.put,Nat.reduceAdd]
  refine WL.vl rfl (zqc Tryz.func23 hLn) ?_
  repeat (first|refine W.gob rfl ?_|refine WL.nil ?_|refine WL.bt rfl rfl rfl zqo ?_|refine WL.bf rfl rfl rfl zqo ?_|refine WL.e1 rfl ?_|refine WL.ar rfl rfl z55i ?_|refine WL.len rfl rfl zql ?_|refine WL.idx rfl rfl zqo zqm ?_|refine WL.app rfl rfl rfl zqs ?_|refine W.condT rfl ?_|refine W.condF rfl ?_)
  (first|refine (?_:W _ _ _ _ _)|refine (?_:WL _ _ _ _ _ _)|skip)
  try dsimp only [St.put,Nat.reduceAdd]
  refine W.tr (Tr.nilLs (t:=2) 3 rfl) ?_
  exact W.ret (fin2 rfl rfl rfl rfl rfl rfl rfl)
 subst h0
 rw [if_pos rfl,decide_eq_true rfl] at hLn
 have hnum:=rq_num_le [] ls
 rw [hj] at hnum
 refine zqe Tryz.func10 Tryz.ntmps10 fun w0 F0=>?_;dsimp only [St.init,number,Nat.reduceAdd]
 repeat (first|refine W.gob rfl ?_|refine WL.nil ?_|refine WL.bt rfl rfl rfl zqo ?_|refine WL.bf rfl rfl rfl zqo ?_|refine WL.e1 rfl ?_|refine WL.ar rfl rfl z55i ?_|refine WL.len rfl rfl zql ?_|refine WL.idx rfl rfl zqo zqm ?_|refine WL.app rfl rfl rfl zqs ?_|refine W.condT rfl ?_|refine W.condF rfl ?_)
 (first|refine (?_:W _ _ _ _ _)|refine (?_:WL _ _ _ _ _ _)|skip)
 try dsimp only [St.put,Nat.reduceAdd]
 refine WL.vl rfl (zqc Tryz.func23 hLn) ?_
 repeat (first|refine W.gob rfl ?_|refine WL.nil ?_|refine WL.bt rfl rfl rfl zqo ?_|refine WL.bf rfl rfl rfl zqo ?_|refine WL.e1 rfl ?_|refine WL.ar rfl rfl z55i ?_|refine WL.len rfl rfl zql ?_|refine WL.idx rfl rfl zqo zqm ?_|refine WL.app rfl rfl rfl zqs ?_|refine W.condT rfl ?_|refine W.condF rfl ?_)
 (first|refine (?_:W _ _ _ _ _)|refine (?_:WL _ _ _ _ _ _)|skip)
 try dsimp only [St.put,Nat.reduceAdd]
 refine W.tr (Tr.nil (t:=6) 53 3 rfl rfl) ?_
 refine W.loop (fun k:Nat=>k≤ls.length∧∀ j (hj:j < ls.length),j < k→(rq_rLn (rq_wds 32 ls[j])).isSome=true) (fun k=>⟨[(4,.ls 1 (ls.map eTx)),(6,.sl 0),(7,.sc (.int .i64 k))],[(0,.row 53 3 (((ls.take k).map rq_rlX).map eLk))],1⟩) (fun k=>ls.length - k) 0 ⟨by omega,fun j hj h=>absurd h zqo⟩ (zqt id) fun k hk=>?_
 obtain ⟨hk,hall⟩:=hk
 by_cases hlt:k < ls.length
 rotate_left
 ·obtain rfl:k=ls.length:=by omega
  have hy:=rq_yes (rq_mapM_ok fun j hj=>hall j hj hj)
  rw [hy.1,hy.2,List.take_length]
  repeat (first|refine W.gob rfl ?_|refine WL.nil ?_|refine WL.bt rfl rfl rfl zqo ?_|refine WL.bf rfl rfl rfl zqo ?_|refine WL.e1 rfl ?_|refine WL.ar rfl rfl z55i ?_|refine WL.len rfl rfl zql ?_|refine WL.idx rfl rfl zqo zqm ?_|refine WL.app rfl rfl rfl zqs ?_|refine W.condT rfl ?_|refine W.condF rfl ?_)
  (first|refine (?_:W _ _ _ _ _)|refine (?_:WL _ _ _ _ _ _)|skip)
  try dsimp only [St.put,Nat.reduceAdd]
  refine W.tr (Tr.freeze 0 rfl) ?_
  exact W.ret (fin2 rfl rfl rfl rfl rfl rfl rfl)
 have hlen:ls[k].length≤100000:=by
  have h1:=rq_rest ls [] hlt
  have h2:=rq_drop_len [] ls k
  rw [h1,hj] at h2
  simp only [List.length_append,List.length_cons] at h2;omega
 have hline:=rLine_FS ls[k] zqo
 have hbad:=rq_mapM_bad (tl:=[]) hlt
 have hrow:((ls.take (k+1)).map rq_rlX).map eLk=((ls.take k).map rq_rlX).map eLk++[eLk (rq_rlX ls[k])]:=by
  rw [List.take_succ_eq_append_getElem hlt,List.map_append,List.map_append];rfl
 have hL:((ls.take k).map rq_rlX).length≤100000:=by rw [List.length_map,List.length_take];omega
 obtain ⟨ROW,hROW⟩:∃ z,(ls.take k).map rq_rlX=z:=⟨_,rfl⟩
 rw [hROW] at hrow hL ⊢
 cases hx:rq_rLn (rq_wds 32 ls[k]) with
 | none =>
  have hy:=rq_no (hbad hx)
  rw [hy.1,hy.2]
  rw [hx] at hline
  repeat (first|refine W.gob rfl ?_|refine WL.nil ?_|refine WL.bt rfl rfl rfl zqo ?_|refine WL.bf rfl rfl rfl zqo ?_|refine WL.e1 rfl ?_|refine WL.ar rfl rfl z55i ?_|refine WL.len rfl rfl zql ?_|refine WL.idx rfl rfl zqo zqm ?_|refine WL.app rfl rfl rfl zqs ?_|refine W.condT rfl ?_|refine W.condF rfl ?_)
  (first|refine (?_:W _ _ _ _ _)|refine (?_:WL _ _ _ _ _ _)|skip)
  try dsimp only [St.put,Nat.reduceAdd]
  refine WL.vl rfl (zqc Tryz.func24 hline) ?_
  repeat (first|refine W.gob rfl ?_|refine WL.nil ?_|refine WL.bt rfl rfl rfl zqo ?_|refine WL.bf rfl rfl rfl zqo ?_|refine WL.e1 rfl ?_|refine WL.ar rfl rfl z55i ?_|refine WL.len rfl rfl zql ?_|refine WL.idx rfl rfl zqo zqm ?_|refine WL.app rfl rfl rfl zqs ?_|refine W.condT rfl ?_|refine W.condF rfl ?_)
  (first|refine (?_:W _ _ _ _ _)|refine (?_:WL _ _ _ _ _ _)|skip)
  try dsimp only [St.put,Nat.reduceAdd]
  refine W.tr (Tr.nilLs (t:=2) 3 rfl) ?_
  exact W.ret (fin2 rfl rfl rfl rfl rfl rfl rfl)
 | some x =>
  have hnx:∀ j (hj:j < ls.length),j < k+1→(rq_rLn (rq_wds 32 ls[j])).isSome=true:=fun j hj hjk=>by
   by_cases e:j=k
   ·subst e;rw [hx];rfl
   ·exact hall j hj zqo
  have hxe:rq_rlX ls[k]=x:=by unfold rq_rlX;rw [hx];rfl
  rw [hxe] at hrow
  rw [hx] at hline
  have hline:Ctr Tryz.prog 24 [.sc (.string (bs ls[k]))] (.tu [.ag (eLk x),.sc (.bool true)]):=hline
  clear hall hbad
  repeat (first|refine W.gob rfl ?_|refine WL.nil ?_|refine WL.bt rfl rfl rfl zqo ?_|refine WL.bf rfl rfl rfl zqo ?_|refine WL.e1 rfl ?_|refine WL.ar rfl rfl z55i ?_|refine WL.len rfl rfl zql ?_|refine WL.idx rfl rfl zqo zqm ?_|refine WL.app rfl rfl rfl zqs ?_|refine W.condT rfl ?_|refine W.condF rfl ?_)
  (first|refine (?_:W _ _ _ _ _)|refine (?_:WL _ _ _ _ _ _)|skip)
  try dsimp only [St.put,Nat.reduceAdd]
  refine WL.vl rfl (zqc Tryz.func24 hline) ?_
  repeat (first|refine W.gob rfl ?_|refine WL.nil ?_|refine WL.bt rfl rfl rfl zqo ?_|refine WL.bf rfl rfl rfl zqo ?_|refine WL.e1 rfl ?_|refine WL.ar rfl rfl z55i ?_|refine WL.len rfl rfl zql ?_|refine WL.idx rfl rfl zqo zqm ?_|refine WL.app rfl rfl rfl zqs ?_|refine W.condT rfl ?_|refine W.condF rfl ?_)
  (first|refine (?_:W _ _ _ _ _)|refine (?_:WL _ _ _ _ _ _)|skip)
  try dsimp only [St.put,Nat.reduceAdd]
  refine ⟨k+1,⟨by omega,hnx⟩,by omega,?_⟩
  rw [hrow]
  exact (zqu (fun q=>bif Nat.beq q 0 then 3 else q) (by repeat (first|exact trivial|refine ⟨⟨?_,?_,?_⟩,?_⟩|rfl|exact congrArg (fun q=>some (AO.row _ _ q)) (by first|rfl|(simp;done)|(simp [eInt];done)|(simp [eLk];done)))) rfl)
end
section
open Go.RowKit
theorem eLk_sc(l:List Lck):∀ r∈l.map eLk,∀ av∈r,∃ z,av=.sc z:=fun r hr av hav=>by
 obtain⟨x,_,rfl⟩:=List.mem_map.1 hr
 simp only [eLk,List.mem_cons,List.not_mem_nil,or_false]at hav
 rcases hav with rfl|rfl|rfl<;>exact⟨_,rfl⟩
theorem lksR_len (s:Int) {p:Pce} (hO:PcOk p):(lksR s p).length≤27000:=by
 unfold lksR
 split
 ·exact lksTo_len s hO _ (Nat.le_refl _)
 ·simp
theorem pLacksO (s:Int) (p:Pce) (hO:PcOk p):Cto truB 0 Tryz.prog 27 [.sc (.int .u8 s),ePce p] [] 0 (.tu [.sl 0,.sc (.int .i64 (lksE s p))]) [(0,.row 53 3 ((lksR s p).map eLk))] 1:=by
 have hn3:=hO.n3
 have hCh:=pCheck_FS p hO
 have hPk:=fun (hs:1≤s∧s≤4) (h0:pceE p=0) k (hk2:k < p.evs.length)=>plack_FS s hs p k hk2 hO (stopsIn_of h0 k hk2)
 have hP:ePce p=.ag [.ls 3 (p.cs.map eCrs),.ls 1 (p.st.map eInt),.ls 6 (p.evs.map eEv)]:=rfl
 refine Cto.intro truS Tryz.func27 rfl Tryz.ntmps27 (Nat.le_of_ble_eq_true rfl) rfl fun w0 F0 fp pg hB=>?_
 dsimp only [number,Nat.reduceAdd]
 repeat (first|refine W.go rfl ?_|refine WL.ev rfl ?_|refine WL.ar rfl rfl z55i ?_|refine WL.len rfl rfl zql ?_|refine WL.app rfl rfl rfl zqs ?_)
 (first|refine (?_:W _ _ _ _ _)|refine (?_:WL _ _ _ _ _ _)|skip)
 try dsimp only [St.put,Nat.reduceAdd]
 refine WL.vl rfl (WV.call rfl (callF Tryz.func52 rfl rfl) rfl rfl (of_FS s)) ?_
 repeat (first|refine W.go rfl ?_|refine WL.ev rfl ?_|refine WL.ar rfl rfl z55i ?_|refine WL.len rfl rfl zql ?_|refine WL.app rfl rfl rfl zqs ?_)
 (first|refine (?_:W _ _ _ _ _)|refine (?_:WL _ _ _ _ _ _)|skip)
 try dsimp only [St.put,Nat.reduceAdd]
 (refine W.cond rfl (fun hif=>?_) (fun hif=>?_)<;>(try simp only [decide_eq_true_eq,decide_eq_false_iff_not,Int.not_lt,Int.not_le,Bool.not_eq_true',Bool.not_eq_false'] at hif))
 ·have hs:¬ (1≤s∧s≤4):=by simpa using hif
  rw [(lks_bad hs).1,(lks_bad hs).2]
  repeat (first|refine W.go rfl ?_|refine WL.ev rfl ?_|refine WL.ar rfl rfl z55i ?_|refine WL.len rfl rfl zql ?_|refine WL.app rfl rfl rfl zqs ?_)
  (first|refine (?_:W _ _ _ _ _)|refine (?_:WL _ _ _ _ _ _)|skip)
  try dsimp only [St.put,Nat.reduceAdd]
  refine W.tr (Tr.nil (t:=4) 53 3 rfl rfl) ?_
  refine W.tr (σ':=⟨[(4,.sl 0),(5,.sc (.int .i64 30))],[(0,.row 53 3 [])],1⟩) (zqu (fun q=>bif Nat.beq q 0 then 1 else q) (by repeat (first|exact trivial|refine ⟨⟨?_,?_,?_⟩,?_⟩|rfl|exact congrArg (fun q=>some (AO.row _ _ q)) (by first|rfl|(simp;done)|(simp [eInt];done)|(simp [eLk];done)))) rfl) ?_
  exact W.ret (finM rfl rfl rfl rfl rfl)
 have hs:1≤s∧s≤4:=by simpa using hif
 repeat (first|refine W.go rfl ?_|refine WL.ev rfl ?_|refine WL.ar rfl rfl z55i ?_|refine WL.len rfl rfl zql ?_|refine WL.app rfl rfl rfl zqs ?_)
 (first|refine (?_:W _ _ _ _ _)|refine (?_:WL _ _ _ _ _ _)|skip)
 try dsimp only [St.put,Nat.reduceAdd]
 refine WL.vl rfl (zqc Tryz.func26 hCh) ?_
 repeat (first|refine W.go rfl ?_|refine WL.ev rfl ?_|refine WL.ar rfl rfl z55i ?_|refine WL.len rfl rfl zql ?_|refine WL.app rfl rfl rfl zqs ?_)
 (first|refine (?_:W _ _ _ _ _)|refine (?_:WL _ _ _ _ _ _)|skip)
 try dsimp only [St.put,Nat.reduceAdd]
 (refine W.cond rfl (fun hif=>?_) (fun hif=>?_)<;>(try simp only [decide_eq_true_eq,decide_eq_false_iff_not,Int.not_lt,Int.not_le,Bool.not_eq_true',Bool.not_eq_false'] at hif))
 ·have h0:pceE p≠0:=by simpa using hif
  rw [(lks_err hs h0).1,(lks_err hs h0).2]
  repeat (first|refine W.go rfl ?_|refine WL.ev rfl ?_|refine WL.ar rfl rfl z55i ?_|refine WL.len rfl rfl zql ?_|refine WL.app rfl rfl rfl zqs ?_)
  (first|refine (?_:W _ _ _ _ _)|refine (?_:WL _ _ _ _ _ _)|skip)
  try dsimp only [St.put,Nat.reduceAdd]
  refine W.tr (Tr.nil (t:=4) 53 3 rfl rfl) ?_
  refine W.tr (σ':=⟨[(4,.sl 0),(5,.sc (.int .i64 (pceE p)))],[(0,.row 53 3 [])],1⟩) (zqu (fun q=>bif Nat.beq q 0 then 1 else q) (by repeat (first|exact trivial|refine ⟨⟨?_,?_,?_⟩,?_⟩|rfl|exact congrArg (fun q=>some (AO.row _ _ q)) (by first|rfl|(simp;done)|(simp [eInt];done)|(simp [eLk];done)))) rfl) ?_
  exact W.ret (finM rfl rfl rfl rfl rfl)
 have h0:pceE p=0:=by simpa using hif
 have hPk:=hPk hs h0
 rw [(lks_ok hs h0).1,(lks_ok hs h0).2]
 repeat (first|refine W.go rfl ?_|refine WL.ev rfl ?_|refine WL.ar rfl rfl z55i ?_|refine WL.len rfl rfl zql ?_|refine WL.app rfl rfl rfl zqs ?_)
 (first|refine (?_:W _ _ _ _ _)|refine (?_:WL _ _ _ _ _ _)|skip)
 try dsimp only [St.put,Nat.reduceAdd]
 refine W.tr (Tr.nil (t:=9) 53 3 rfl rfl) ?_
 refine W.loop (fun k:Nat=>k≤p.evs.length) (fun k=>⟨[(3,.pt 0 0 0),(6,.sc (sysV s)),(9,.sl 1),(25,.sc (.int .i64 p.evs.length)),(26,.sc (.int .i64 k))],[(0,.box 47 (ePce p).cells),(1,.row 53 3 ((lksTo s p k).map eLk))],2⟩) (fun k=>p.evs.length - k) 0 zqo (zqt id) fun k hk=>?_
 repeat (first|refine W.go rfl ?_|refine WL.ev rfl ?_|refine WL.ar rfl rfl z55i ?_|refine WL.len rfl rfl zql ?_|refine WL.app rfl rfl rfl zqs ?_)
 (first|refine (?_:W _ _ _ _ _)|refine (?_:WL _ _ _ _ _ _)|skip)
 try dsimp only [St.put,Nat.reduceAdd]
 (refine W.cond rfl (fun hif=>?_) (fun hif=>?_)<;>(try simp only [decide_eq_true_eq,decide_eq_false_iff_not,Int.not_lt,Int.not_le,Bool.not_eq_true',Bool.not_eq_false'] at hif))
 ·have hk2:k < p.evs.length:=by omega
  have hl1:=lksTo_len s hO k hk
  have hl2:=lackE_len s p k p.evs[k] (hO.n4 k hk2)
  have hrow:(lksTo s p k).map eLk++(lackE s p k p.evs[k]).map eLk=(lksTo s p (k+1)).map eLk:=by rw [lksTo_at s p hk2,List.map_append]
  repeat (first|refine W.go rfl ?_|refine WL.ev rfl ?_|refine WL.ar rfl rfl z55i ?_|refine WL.len rfl rfl zql ?_|refine WL.app rfl rfl rfl zqs ?_)
  (first|refine (?_:W _ _ _ _ _)|refine (?_:WL _ _ _ _ _ _)|skip)
  try dsimp only [St.put,Nat.reduceAdd]
  refine WL.vl rfl (WV.call rfl (callF Tryz.func56 rfl rfl) rfl rfl (hPk k hk2)) ?_
  repeat (first|refine W.go rfl ?_|refine WL.ev rfl ?_|refine WL.ar rfl rfl z55i ?_|refine WL.len rfl rfl zql ?_|refine WL.app rfl rfl rfl zqs ?_)
  (first|refine (?_:W _ _ _ _ _)|refine (?_:WL _ _ _ _ _ _)|skip)
  try dsimp only [St.put,Nat.reduceAdd]
  exact ⟨k+1,by omega,by omega,(zqu (fun q=>bif Nat.beq q 1 then 2 else q) (by repeat (first|exact trivial|refine ⟨⟨?_,?_,?_⟩,?_⟩|rfl|exact congrArg (fun q=>some (AO.row _ _ q)) hrow)) rfl)⟩
 ·have he:k=p.evs.length:=by omega
  subst he
  repeat (first|refine W.go rfl ?_|refine WL.ev rfl ?_|refine WL.ar rfl rfl z55i ?_|refine WL.len rfl rfl zql ?_|refine WL.app rfl rfl rfl zqs ?_)
  (first|refine (?_:W _ _ _ _ _)|refine (?_:WL _ _ _ _ _ _)|skip)
  try dsimp only [St.put,Nat.reduceAdd]
  refine W.tr (σ':=⟨[(4,.sl 0),(5,.sc (.int .i64 0))],[(0,.row 53 3 ((lksTo s p p.evs.length).map eLk))],1⟩) (zqu (fun q=>bif Nat.beq q 0 then 1 else q) (by repeat (first|exact trivial|refine ⟨⟨?_,?_,?_⟩,?_⟩|rfl|exact congrArg (fun q=>some (AO.row _ _ q)) (by first|rfl|(simp;done)|(simp [eInt];done)|(simp [eLk];done)))) rfl) ?_
  exact W.ret (finM rfl rfl rfl rfl rfl)
theorem red4O (s:Int) (p:Pce) (hO:PcOk p):(lksR s p).length≤30000∧Cto truB 0 Tryz.prog 37 [ePce p,.pr [.sc (.int .u8 s)]] [] 0 (.sl 0) [(0,.row 53 3 ((lksR s p).map eLk))] 1:=by
 have hL:=pLacksO s p hO
 refine ⟨by have:=lksR_len s hO;omega,?_⟩
 have hP:ePce p=.ag [.ls 3 (p.cs.map eCrs),.ls 1 (p.st.map eInt),.ls 6 (p.evs.map eEv)]:=rfl
 rw [hP] at hL ⊢
 refine Cto.intro truS Tryz.func37 rfl Tryz.ntmps37 (Nat.le_of_ble_eq_true rfl) rfl fun w0 F0 fp pg hB=>?_
 dsimp only [number,Nat.reduceAdd]
 repeat (first|refine W.go rfl ?_|refine WL.ev rfl ?_)
 (first|refine (?_:W _ _ _ _ _)|refine (?_:WL _ _ _ _ _ _)|skip)
 try dsimp only [St.put,Nat.reduceAdd]
 refine WL.cto (truH _) [] rfl rfl (callF Tryz.func27 rfl rfl) hL rfl rfl rfl trivial rfl rfl rfl rfl ?_
 repeat (first|refine W.go rfl ?_|refine WL.ev rfl ?_)
 (first|refine (?_:W _ _ _ _ _)|refine (?_:WL _ _ _ _ _ _)|skip)
 try dsimp only [St.put,Nat.reduceAdd]
 refine W.tr (σ':=⟨[(3,.sl 0)],[(0,.row 53 3 ((lksR s p).map eLk))],1⟩) (zqu (fun q=>bif Nat.beq q 0 then 1 else q) (by repeat (first|exact trivial|refine ⟨⟨?_,?_,?_⟩,?_⟩|rfl|exact congrArg (fun q=>some (AO.row _ _ q)) (by first|rfl|(simp;done)|(simp [eInt];done)|(simp [eLk];done)))) rfl) ?_
 exact W.ret (finM rfl rfl rfl rfl rfl)
theorem carry1_FS (y:Stp) (x:Lck):Ctr Tryz.prog 70 [.ag (eStp y),.pr (eLk x)] (.sc (.bool (y.1 == x.2.1))):=by
 refine zqe Tryz.func70 Tryz.ntmps70 fun w0 F0=>?_;dsimp only [St.init,number,Nat.reduceAdd]
 repeat (first|refine W.go rfl ?_)
 (first|refine (?_:W _ _ _ _ _)|refine (?_:WL _ _ _ _ _ _)|skip)
 try dsimp only [St.put,Nat.reduceAdd]
 refine W.ret (fin1 rfl rfl (sc_bool ?_) rfl)
 rfl
theorem idxK_FS (l:List Stp) (x:Lck) (hl:l.length≤100000):Ctr Tryz.prog 69 [.ls 5 (l.map eStp),.fn 70 [.pr (eLk x)]] (.sc (.int .i64 (ixB (fun z:Stp=>z.1 == x.2.1) l))):=by
 refine zqe Tryz.func69 Tryz.ntmps69 fun w0 F0=>?_;dsimp only [St.init,number,Nat.reduceAdd]
 repeat (first|refine W.go rfl ?_|refine WL.nil ?_|refine WL.ev rfl ?_|refine WL.ar rfl rfl z55i ?_|refine WL.len rfl rfl zql ?_|refine WL.idx rfl rfl zqo zqm ?_|refine W.condT rfl ?_|refine W.condF rfl ?_)
 (first|refine (?_:W _ _ _ _ _)|refine (?_:WL _ _ _ _ _ _)|skip)
 try dsimp only [St.put,Nat.reduceAdd]
 refine W.loop (fun k:Nat=>k≤l.length∧∀ i (hi:i < k) (h:i < l.length),(l[i].1 == x.2.1)=false) (fun k=>⟨[(0,.ls 5 (l.map eStp)),(1,.fn 70 [.pr (eLk x)]),(7,.sc (.int .i64 l.length)),(8,.sc (.int .i64 k))],[],0⟩) (fun k=>l.length - k) 0 ⟨by omega,fun i hi=>by omega⟩ (zqt id) fun k hk=>?_
 obtain ⟨hk,hno⟩:=hk
 by_cases hlt:k < l.length
 ·repeat (first|refine W.gob rfl ?_|refine WL.nil ?_|refine WL.bt rfl rfl rfl zqo ?_|refine WL.bf rfl rfl rfl zqo ?_|refine WL.e1 rfl ?_|refine WL.ar rfl rfl z55i ?_|refine WL.len rfl rfl zql ?_|refine WL.idx rfl rfl zqo zqm ?_|refine W.condT rfl ?_|refine W.condF rfl ?_)
  (first|refine (?_:W _ _ _ _ _)|refine (?_:WL _ _ _ _ _ _)|skip)
  try dsimp only [St.put,Nat.reduceAdd]
  refine WL.vl rfl (WV.callV (truH _) rfl (callF Tryz.func70 rfl rfl) rfl rfl rfl rfl rfl (carry1_FS l[k] x).g) ?_
  cases he:l[k].1 == x.2.1 with
  | true =>
   rw [ixB_at (t:=fun z:Stp=>z.1 == x.2.1) hlt he fun i hi=>hno i hi (by omega)]
   repeat (first|refine W.gob rfl ?_|refine WL.nil ?_|refine WL.bt rfl rfl rfl zqo ?_|refine WL.bf rfl rfl rfl zqo ?_|refine WL.e1 rfl ?_|refine WL.ar rfl rfl z55i ?_|refine WL.len rfl rfl zql ?_|refine WL.idx rfl rfl zqo zqm ?_|refine W.condT rfl ?_|refine W.condF rfl ?_)
   (first|refine (?_:W _ _ _ _ _)|refine (?_:WL _ _ _ _ _ _)|skip)
   try dsimp only [St.put,Nat.reduceAdd]
   exact W.ret zqr
  | false =>
   repeat (first|refine W.gob rfl ?_|refine WL.nil ?_|refine WL.bt rfl rfl rfl zqo ?_|refine WL.bf rfl rfl rfl zqo ?_|refine WL.e1 rfl ?_|refine WL.ar rfl rfl z55i ?_|refine WL.len rfl rfl zql ?_|refine WL.idx rfl rfl zqo zqm ?_|refine W.condT rfl ?_|refine W.condF rfl ?_)
   (first|refine (?_:W _ _ _ _ _)|refine (?_:WL _ _ _ _ _ _)|skip)
   try dsimp only [St.put,Nat.reduceAdd]
   exact ⟨k+1,⟨by omega,fun i hi h=>by
    by_cases e:i=k
    ·subst e;exact he
    ·exact hno i zqo h⟩,by omega,(zqt id)⟩
 ·rw [ixB_no (t:=fun z:Stp=>z.1 == x.2.1) fun i hi=>hno i (by omega) hi]
  repeat (first|refine W.gob rfl ?_|refine WL.nil ?_|refine WL.bt rfl rfl rfl zqo ?_|refine WL.bf rfl rfl rfl zqo ?_|refine WL.e1 rfl ?_|refine WL.ar rfl rfl z55i ?_|refine WL.len rfl rfl zql ?_|refine WL.idx rfl rfl zqo zqm ?_|refine W.condT rfl ?_|refine W.condF rfl ?_)
  (first|refine (?_:W _ _ _ _ _)|refine (?_:WL _ _ _ _ _ _)|skip)
  try dsimp only [St.put,Nat.reduceAdd]
  exact W.ret zqr
end
end Go.Proofs.YtockempedekkkaaGreatDoor
