/- Symbol and Cell of the program, over trees. -/
import Derived.Test.YtockempedekkkaaGreatDoorEGJq
set_option maxHeartbeats 8000000
set_option maxRecDepth 100000
set_option linter.unusedVariables false
set_option linter.unusedSimpArgs false
namespace Go.Proofs.YtockempedekkkaaGreatDoor
open Go.RowKit
theorem yCel_FS (s:Int)(hs:1≤s∧s≤4)(x:Stp)(L:Int)(hc:1≤x.1∧x.1≤14)(hf:0≤x.2.1∧x.2.1≤18)(hr:0≤x.2.2.1∧x.2.2.1≤3)(hg:0≤x.2.2.2.1∧x.2.2.2.1≤4)(hh:0≤x.2.2.2.2∧x.2.2.2.2≤15) :
  Ctr Tryz.prog 66 [.sc (sysV s),.ag (eStp x),.sc (.int .i64 L)] (.tu [.sc (.string (bs (cellS s x.1 x.2.1 x.2.2.1 x.2.2.2.1 x.2.2.2.2 L))),.sc (.bool (cellOk s x.1 x.2.1 x.2.2.1 x.2.2.2.1 x.2.2.2.2 L))]):=by
 rcases sys_cases hs with rfl|rfl|rfl|rfl
 ·exact Ctr.of_pl rfl (fun _=>rp_tu2) fun w=>pcell_1 _ _ _ _ _ _ w hc hf hr hg hh
 ·exact Ctr.of_pl rfl (fun _=>rp_tu2) fun w=>pcell_2 _ _ _ _ _ _ w hc hf hr hg hh
 ·exact Ctr.of_pl rfl (fun _=>rp_tu2) fun w=>pcell_3 _ _ _ _ _ _ w hc hf hr hg hh
 ·exact Ctr.of_pl rfl (fun _=>rp_tu2) fun w=>pcell_4 _ _ _ _ _ _ w hc hf hr hg hh
theorem yLong_FS (p:Pce) (hO:PcOk p) (i x:Int):Ctr Tryz.prog 68 [ePce p,.sc (.int .i64 i),.sc (.int .i64 x)] (.sc (.int .i64 (longestN p.evs i x))) :=
 Ctr.of_pc (pre:=[]) (post:=[.sc (.int .i64 i),.sc (.int .i64 x)]) rfl rfl (fun _=>.sc _) fun w M hM=>pLongest_any M p i x w hM hO
theorem placed_FS (s c f:Int) (hs:1≤s∧s≤4) (hc:1≤c∧c≤14) (hf:0≤f∧f≤18):Ctr Tryz.prog 65 [.sc (.int .u8 s),.sc (.int .i64 c),.sc (.int .i64 f)] (.tu [.sc (sysV s),.sc (.int .i64 0)]):=by
 have hO:=of_FS s
 rw [decide_eq_true hs] at hO
 refine zqe Tryz.func65 Tryz.ntmps65 fun w0 F0=>?_;dsimp only [St.init,number,Nat.reduceAdd]
 repeat (first|refine W.go rfl ?_|refine WL.nil ?_|refine WL.gyes rfl rfl rfl rfl ?_|refine W.condF rfl ?_)
 (first|refine (?_:W _ _ _ _ _)|refine (?_:WL _ _ _ _ _ _)|skip)
 try dsimp only [St.put,Nat.reduceAdd]
 refine WL.vl rfl (zqc Tryz.func52 hO) ?_
 repeat (first|refine W.gob rfl ?_|refine WL.nil ?_|refine WL.bf rfl rfl rfl zqo ?_|refine WL.e1 rfl ?_|refine WL.gyes rfl rfl rfl rfl ?_|refine W.condF rfl ?_)
 (first|refine (?_:W _ _ _ _ _)|refine (?_:WL _ _ _ _ _ _)|skip)
 try dsimp only [St.put,Nat.reduceAdd]
 exact W.ret (finN rfl rfl rfl rfl)
theorem ySym_FS (s c f:Int) (hs:1≤s∧s≤4) (hc:1≤c∧c≤14) (hf:0≤f∧f≤18):Ctr Tryz.prog 33 [.sc (.int .u8 s),.ag [.sc (.int .i64 c),.sc (.int .i64 f)]]
  (.tu [.sc (.string (bs (if pOk s c f=true then pS s c f else []))),.sc (.int .i64 (if pOk s c f=true then 0 else 31))]):=by
 have hP:=placed_FS s c f hs hc hf
 have hS:=symb_FS s hs c f hc hf
 cases hp:pOk s c f with
 | true =>
  rw [hp] at hS
  rw [if_pos rfl,if_pos rfl]
  refine zqe Tryz.func33 Tryz.ntmps33 fun w0 F0=>?_;dsimp only [St.init,number,Nat.reduceAdd]
  repeat (first|refine W.go rfl ?_|refine WL.nil ?_|refine W.condT rfl ?_|refine W.condF rfl ?_)
  (first|refine (?_:W _ _ _ _ _)|refine (?_:WL _ _ _ _ _ _)|skip)
  try dsimp only [St.put,Nat.reduceAdd]
  refine WL.vl rfl (zqc Tryz.func65 hP) ?_
  repeat (first|refine W.gob rfl ?_|refine WL.nil ?_|refine WL.nf rfl rfl rfl zqo ?_|refine WL.e1 rfl ?_|refine W.condT rfl ?_|refine W.condF rfl ?_)
  (first|refine (?_:W _ _ _ _ _)|refine (?_:WL _ _ _ _ _ _)|skip)
  try dsimp only [St.put,Nat.reduceAdd]
  refine WL.vl rfl (WV.sys hs symbolF rfl rfl (fun vs w=>by kernel_rfl) (fun vs w=>by kernel_rfl) (fun vs w=>by kernel_rfl) (fun vs w=>by kernel_rfl) rfl rfl hS) ?_
  repeat (first|refine W.gob rfl ?_|refine WL.nil ?_|refine WL.nf rfl rfl rfl zqo ?_|refine WL.e1 rfl ?_|refine W.condT rfl ?_|refine W.condF rfl ?_)
  (first|refine (?_:W _ _ _ _ _)|refine (?_:WL _ _ _ _ _ _)|skip)
  try dsimp only [St.put,Nat.reduceAdd]
  exact W.ret (finN rfl rfl rfl rfl)
 | false =>
  rw [hp] at hS
  rw [if_neg (by simp),if_neg (by simp)]
  refine zqe Tryz.func33 Tryz.ntmps33 fun w0 F0=>?_;dsimp only [St.init,number,Nat.reduceAdd]
  repeat (first|refine W.go rfl ?_|refine WL.nil ?_|refine W.condT rfl ?_|refine W.condF rfl ?_)
  (first|refine (?_:W _ _ _ _ _)|refine (?_:WL _ _ _ _ _ _)|skip)
  try dsimp only [St.put,Nat.reduceAdd]
  refine WL.vl rfl (zqc Tryz.func65 hP) ?_
  repeat (first|refine W.gob rfl ?_|refine WL.nil ?_|refine WL.nf rfl rfl rfl zqo ?_|refine WL.e1 rfl ?_|refine W.condT rfl ?_|refine W.condF rfl ?_)
  (first|refine (?_:W _ _ _ _ _)|refine (?_:WL _ _ _ _ _ _)|skip)
  try dsimp only [St.put,Nat.reduceAdd]
  refine WL.vl rfl (WV.sys hs symbolF rfl rfl (fun vs w=>by kernel_rfl) (fun vs w=>by kernel_rfl) (fun vs w=>by kernel_rfl) (fun vs w=>by kernel_rfl) rfl rfl hS) ?_
  repeat (first|refine W.gob rfl ?_|refine WL.nil ?_|refine WL.nf rfl rfl rfl zqo ?_|refine WL.e1 rfl ?_|refine W.condT rfl ?_|refine W.condF rfl ?_)
  (first|refine (?_:W _ _ _ _ _)|refine (?_:WL _ _ _ _ _ _)|skip)
  try dsimp only [St.put,Nat.reduceAdd]
  exact W.ret (finN rfl rfl rfl rfl)
theorem yCell_FS (s:Int) (hs:1≤s∧s≤4) (c f r g:Int) (hc:1≤c∧c≤14) (hf:0≤f∧f≤18) (hr:0≤r∧r≤3) (hg:0≤g∧g≤4) :
  Ctr Tryz.prog 36 [.sc (.int .u8 s),.ag [.sc (.int .i64 c),.sc (.int .i64 f),.sc (.int .i64 r),.sc (.int .i64 g),.sc (.int .i64 0)],.sc (.int .i64 0)]
  (.tu [.sc (.string (bs (if cellOk s c f r g 0 0=true then cellS s c f r g 0 0 else []))),.sc (.int .i64 (if cellOk s c f r g 0 0=true then 0 else 31))]):=by
 have hP:=placed_FS s c f hs hc hf
 have hS:Ctr Tryz.prog 66 [.sc (sysV s),.ag [.sc (.int .i64 c),.sc (.int .i64 f),.sc (.int .i64 r),.sc (.int .i64 g),.sc (.int .i64 0)],.sc (.int .i64 0)] (.tu [.sc (.string (bs (cellS s c f r g 0 0))),.sc (.bool (cellOk s c f r g 0 0))]):=yCel_FS s hs (c,f,r,g,0) 0 hc hf hr hg ⟨by show (0:Int)≤0;decide,by show (0:Int)≤15;decide⟩
 cases hp:cellOk s c f r g 0 0 with
 | true =>
  rw [hp] at hS
  rw [if_pos rfl,if_pos rfl]
  refine zqe Tryz.func36 Tryz.ntmps36 fun w0 F0=>?_;dsimp only [St.init,number,Nat.reduceAdd]
  repeat (first|refine W.go rfl ?_|refine WL.nil ?_|refine WL.gyes rfl rfl rfl rfl ?_|refine WL.opno rfl rfl rfl rfl rfl rfl rfl ?_|refine W.condT rfl ?_|refine W.condF rfl ?_)
  (first|refine (?_:W _ _ _ _ _)|refine (?_:WL _ _ _ _ _ _)|skip)
  try dsimp only [St.put,Nat.reduceAdd]
  refine WL.vl rfl (zqc Tryz.func65 hP) ?_
  repeat (first|refine W.gob rfl ?_|refine WL.nil ?_|refine WL.bf rfl rfl rfl zqo ?_|refine WL.nf rfl rfl rfl zqo ?_|refine WL.e1 rfl ?_|refine WL.gyes rfl rfl rfl rfl ?_|refine WL.opno rfl rfl rfl rfl rfl rfl rfl ?_|refine W.condT rfl ?_|refine W.condF rfl ?_)
  (first|refine (?_:W _ _ _ _ _)|refine (?_:WL _ _ _ _ _ _)|skip)
  try dsimp only [St.put,Nat.reduceAdd]
  refine WL.vl rfl (zqc Tryz.func66 hS) ?_
  repeat (first|refine W.gob rfl ?_|refine WL.nil ?_|refine WL.bf rfl rfl rfl zqo ?_|refine WL.nf rfl rfl rfl zqo ?_|refine WL.e1 rfl ?_|refine WL.gyes rfl rfl rfl rfl ?_|refine WL.opno rfl rfl rfl rfl rfl rfl rfl ?_|refine W.condT rfl ?_|refine W.condF rfl ?_)
  (first|refine (?_:W _ _ _ _ _)|refine (?_:WL _ _ _ _ _ _)|skip)
  try dsimp only [St.put,Nat.reduceAdd]
  exact W.ret (finN rfl rfl rfl rfl)
 | false =>
  rw [hp] at hS
  rw [if_neg (by simp),if_neg (by simp)]
  refine zqe Tryz.func36 Tryz.ntmps36 fun w0 F0=>?_;dsimp only [St.init,number,Nat.reduceAdd]
  repeat (first|refine W.go rfl ?_|refine WL.nil ?_|refine WL.gyes rfl rfl rfl rfl ?_|refine WL.opno rfl rfl rfl rfl rfl rfl rfl ?_|refine W.condT rfl ?_|refine W.condF rfl ?_)
  (first|refine (?_:W _ _ _ _ _)|refine (?_:WL _ _ _ _ _ _)|skip)
  try dsimp only [St.put,Nat.reduceAdd]
  refine WL.vl rfl (zqc Tryz.func65 hP) ?_
  repeat (first|refine W.gob rfl ?_|refine WL.nil ?_|refine WL.bf rfl rfl rfl zqo ?_|refine WL.nf rfl rfl rfl zqo ?_|refine WL.e1 rfl ?_|refine WL.gyes rfl rfl rfl rfl ?_|refine WL.opno rfl rfl rfl rfl rfl rfl rfl ?_|refine W.condT rfl ?_|refine W.condF rfl ?_)
  (first|refine (?_:W _ _ _ _ _)|refine (?_:WL _ _ _ _ _ _)|skip)
  try dsimp only [St.put,Nat.reduceAdd]
  refine WL.vl rfl (zqc Tryz.func66 hS) ?_
  repeat (first|refine W.gob rfl ?_|refine WL.nil ?_|refine WL.bf rfl rfl rfl zqo ?_|refine WL.nf rfl rfl rfl zqo ?_|refine WL.e1 rfl ?_|refine WL.gyes rfl rfl rfl rfl ?_|refine WL.opno rfl rfl rfl rfl rfl rfl rfl ?_|refine W.condT rfl ?_|refine W.condF rfl ?_)
  (first|refine (?_:W _ _ _ _ _)|refine (?_:WL _ _ _ _ _ _)|skip)
  try dsimp only [St.put,Nat.reduceAdd]
  exact W.ret (finN rfl rfl rfl rfl)
end Go.Proofs.YtockempedekkkaaGreatDoor
