/- A course tuned otherwise; the fret that sounds a pitch; the pitches of an event: the reference. -/
import Derived.Test.YtaeelcfjkhfpkaaGreatZ4Nq
import Derived.Test.YtaeelcfjkhfpkaaGreatUCNq
set_option maxHeartbeats 8000000
set_option maxRecDepth 100000
set_option linter.unusedVariables false
set_option linter.unusedSimpArgs false
namespace Go.Proofs.YtaeelcfjkhfpkaaGreat
open Go.RowKit
theorem z46i {z:Int} (h:I64 z:=by unfold I64;omega):I64 z:=h
theorem uChkd_FS (cs:List (Int×Int×Bool)) (st:List Int):Ctr Tryz.prog 125 [.ag [.ls 3 (cs.map eCrs),.ls 1 (st.map eInt)]] (.tu [.ag [.ls 3 ((if insE cs st=0 then cs else []).map eCrs),.ls 1 ((if insE cs st=0 then st else []).map eInt)],.sc (.int .i64 (insE cs st))]):=by
 have hI:Ctr Tryz.prog 69 [.ag [.ls 3 (cs.map eCrs),.ls 1 (st.map eInt)]] (.sc (.int .i64 (insE cs st))):=yrInsCheck_FS cs st
 by_cases h:insE cs st=0
 ·rw [h] at hI ⊢
  rw [if_pos rfl,if_pos rfl]
  refine zqe Tryz.func125 Tryz.ntmps125 fun w0 F0=>?_;dsimp only [St.init,number,Nat.reduceAdd]
  repeat (first|refine WL.vl rfl (WV.nch rfl rfl) ?_|refine W.gob rfl ?_|refine WL.nil ?_|refine WL.nt rfl rfl rfl zqo ?_|refine WL.nf rfl rfl rfl zqo ?_|refine WL.e1 rfl ?_|refine W.condT rfl ?_|refine W.condF rfl ?_)
  (first|refine (?_:W _ _ _ _ _)|refine (?_:WL _ _ _ _ _ _)|skip)
  try dsimp only [St.put,Nat.reduceAdd]
  refine WL.vl rfl (zqc Tryz.func69 hI) ?_
  repeat (first|refine WL.vl rfl (WV.nch rfl rfl) ?_|refine W.gob rfl ?_|refine WL.nil ?_|refine WL.nt rfl rfl rfl zqo ?_|refine WL.nf rfl rfl rfl zqo ?_|refine WL.e1 rfl ?_|refine W.condT rfl ?_|refine W.condF rfl ?_)
  (first|refine (?_:W _ _ _ _ _)|refine (?_:WL _ _ _ _ _ _)|skip)
  try dsimp only [St.put,Nat.reduceAdd]
  exact W.ret (finN rfl rfl rfl rfl)
 ·rw [if_neg h,if_neg h]
  obtain ⟨E,hE⟩:∃ z,insE cs st=z:=⟨_,rfl⟩
  rw [hE] at hI h ⊢
  refine zqe Tryz.func125 Tryz.ntmps125 fun w0 F0=>?_;dsimp only [St.init,number,Nat.reduceAdd]
  repeat (first|refine WL.vl rfl (WV.nch rfl rfl) ?_|refine W.gob rfl ?_|refine WL.nil ?_|refine WL.nt rfl rfl rfl zqo ?_|refine WL.nf rfl rfl rfl zqo ?_|refine WL.e1 rfl ?_|refine W.condT rfl ?_|refine W.condF rfl ?_)
  (first|refine (?_:W _ _ _ _ _)|refine (?_:WL _ _ _ _ _ _)|skip)
  try dsimp only [St.put,Nat.reduceAdd]
  refine WL.vl rfl (zqc Tryz.func69 hI) ?_
  repeat (first|refine WL.vl rfl (WV.nch rfl rfl) ?_|refine W.gob rfl ?_|refine WL.nil ?_|refine WL.nt rfl rfl rfl zqo ?_|refine WL.nf rfl rfl rfl zqo ?_|refine WL.e1 rfl ?_|refine W.condT rfl ?_|refine W.condF rfl ?_)
  (first|refine (?_:W _ _ _ _ _)|refine (?_:WL _ _ _ _ _ _)|skip)
  try dsimp only [St.put,Nat.reduceAdd]
  refine W.tr (Tr.nilC 1 0 3 rfl rfl rfl) ?_
  refine W.tr (Tr.nilC 1 1 1 rfl rfl rfl) ?_
  exact W.ret (finN rfl rfl rfl rfl)
theorem urTune_FS (cs:List (Int×Int×Bool)) (st:List Int) (c b:Int):Ctr Tryz.prog 86 [.ag [.ls 3 (cs.map eCrs),.ls 1 (st.map eInt)],.sc (.int .i64 c),.sc (.int .i64 b)]
  (.tu [.ag [.ls 3 ((tnCs cs st c b).map eCrs),.ls 1 ((tnSt cs st c b).map eInt)],.sc (.int .i64 (tnX cs st c b))]):=by
 have hI:Ctr Tryz.prog 69 [.ag [.ls 3 (cs.map eCrs),.ls 1 (st.map eInt)]] (.sc (.int .i64 (insE cs st))):=yrInsCheck_FS cs st
 have hEmp:tnX cs st c b≠0→tnCs cs st c b=[]∧tnSt cs st c b=[]:=fun h=>⟨if_neg h,if_neg h⟩
 by_cases hi:insE cs st=0
 rotate_left
 ·have e:tnX cs st c b=insE cs st:=if_pos hi
  obtain ⟨e1,e2⟩:=hEmp (by rw [e];exact hi)
  rw [e1,e2,e]
  obtain ⟨E,hE⟩:∃ z,insE cs st=z:=⟨_,rfl⟩
  rw [hE] at hI hi ⊢
  refine zqe Tryz.func86 Tryz.ntmps86 fun w0 F0=>?_;dsimp only [St.init,number,Nat.reduceAdd]
  repeat (first|refine WL.vl rfl (WV.nch rfl rfl) ?_|refine W.gob rfl ?_|refine WL.nil ?_|refine WL.bt rfl rfl rfl zqo ?_|refine WL.bf rfl rfl rfl zqo ?_|refine WL.nt rfl rfl rfl zqo ?_|refine WL.nf rfl rfl rfl zqo ?_|refine WL.e1 rfl ?_|refine WL.gyes rfl rfl rfl rfl ?_|refine WL.opno rfl rfl rfl rfl rfl rfl rfl ?_|refine WL.len rfl rfl rfl ?_|refine W.condT rfl ?_|refine W.condF rfl ?_)
  (first|refine (?_:W _ _ _ _ _)|refine (?_:WL _ _ _ _ _ _)|skip)
  try dsimp only [St.put,Nat.reduceAdd]
  refine WL.vl rfl (zqc Tryz.func69 hI) ?_
  repeat (first|refine WL.vl rfl (WV.nch rfl rfl) ?_|refine W.gob rfl ?_|refine WL.nil ?_|refine WL.bt rfl rfl rfl zqo ?_|refine WL.bf rfl rfl rfl zqo ?_|refine WL.nt rfl rfl rfl zqo ?_|refine WL.nf rfl rfl rfl zqo ?_|refine WL.e1 rfl ?_|refine WL.gyes rfl rfl rfl rfl ?_|refine WL.opno rfl rfl rfl rfl rfl rfl rfl ?_|refine WL.len rfl rfl rfl ?_|refine W.condT rfl ?_|refine W.condF rfl ?_)
  (first|refine (?_:W _ _ _ _ _)|refine (?_:WL _ _ _ _ _ _)|skip)
  try dsimp only [St.put,Nat.reduceAdd]
  refine W.tr (Tr.nilC 1 0 3 rfl rfl rfl) ?_
  refine W.tr (Tr.nilC 1 1 1 rfl rfl rfl) ?_
  exact W.ret (finN rfl rfl rfl rfl)
 rw [hi] at hI
 obtain ⟨l1,l2,l3,l4,l5⟩:=insE_len hi
 have hCl:(cs.map eCrs).length=cs.length:=List.length_map _
 have hcl:=insCopyOO_FS cs st zqo zqo
 by_cases hr:c < 1∨(cs.length:Int) < c
 ·have e:tnX cs st c b=12:=by unfold tnX;rw [if_neg (fun h=>h hi),if_pos hr]
  obtain ⟨e1,e2⟩:=hEmp (by rw [e];decide)
  rw [e1,e2,e]
  obtain ⟨CS,hCS⟩:∃ z,cs.map eCrs=z:=⟨_,rfl⟩
  rw [hCS] at hI hCl ⊢
  have hr2:c < 1∨(¬ c < 1∧(cs.length:Int) < c):=by omega
  rcases hr2 with hr2|hr2
  all_goals
   refine zqe Tryz.func86 Tryz.ntmps86 fun w0 F0=>?_;dsimp only [St.init,number,Nat.reduceAdd]
   repeat (first|refine WL.vl rfl (WV.nch rfl rfl) ?_|refine W.gob rfl ?_|refine WL.nil ?_|refine WL.bt rfl rfl rfl zqo ?_|refine WL.bf rfl rfl rfl zqo ?_|refine WL.nt rfl rfl rfl zqo ?_|refine WL.nf rfl rfl rfl zqo ?_|refine WL.e1 rfl ?_|refine WL.gyes rfl rfl rfl rfl ?_|refine WL.opno rfl rfl rfl rfl rfl rfl rfl ?_|refine WL.len rfl rfl rfl ?_|refine W.condT rfl ?_|refine W.condF rfl ?_)
   (first|refine (?_:W _ _ _ _ _)|refine (?_:WL _ _ _ _ _ _)|skip)
   try dsimp only [St.put,Nat.reduceAdd]
   refine WL.vl rfl (zqc Tryz.func69 hI) ?_
   repeat (first|refine WL.vl rfl (WV.nch rfl rfl) ?_|refine W.gob rfl ?_|refine WL.nil ?_|refine WL.bt rfl rfl rfl zqo ?_|refine WL.bf rfl rfl rfl zqo ?_|refine WL.nt rfl rfl rfl zqo ?_|refine WL.nf rfl rfl rfl zqo ?_|refine WL.e1 rfl ?_|refine WL.gyes rfl rfl rfl rfl ?_|refine WL.opno rfl rfl rfl rfl rfl rfl rfl ?_|refine WL.len rfl rfl rfl ?_|refine W.condT rfl ?_|refine W.condF rfl ?_)
   (first|refine (?_:W _ _ _ _ _)|refine (?_:WL _ _ _ _ _ _)|skip)
   try dsimp only [St.put,Nat.reduceAdd]
   refine W.tr (Tr.nilC 1 0 3 rfl rfl rfl) ?_
   refine W.tr (Tr.nilC 1 1 1 rfl rfl rfl) ?_
   exact W.ret (finN rfl rfl rfl rfl)
 by_cases hb:b < -127∨127 < b
 ·have e:tnX cs st c b=1:=by unfold tnX;rw [if_neg (fun h=>h hi),if_neg hr,if_pos hb]
  obtain ⟨e1,e2⟩:=hEmp (by rw [e];decide)
  rw [e1,e2,e]
  obtain ⟨CS,hCS⟩:∃ z,cs.map eCrs=z:=⟨_,rfl⟩
  rw [hCS] at hI hCl ⊢
  have hb2:b < -127∨(¬ b < -127∧127 < b):=by omega
  rcases hb2 with hb2|hb2
  all_goals
   refine zqe Tryz.func86 Tryz.ntmps86 fun w0 F0=>?_;dsimp only [St.init,number,Nat.reduceAdd]
   repeat (first|refine WL.vl rfl (WV.nch rfl rfl) ?_|refine W.gob rfl ?_|refine WL.nil ?_|refine WL.bt rfl rfl rfl zqo ?_|refine WL.bf rfl rfl rfl zqo ?_|refine WL.nt rfl rfl rfl zqo ?_|refine WL.nf rfl rfl rfl zqo ?_|refine WL.e1 rfl ?_|refine WL.gyes rfl rfl rfl rfl ?_|refine WL.opno rfl rfl rfl rfl rfl rfl rfl ?_|refine WL.len rfl rfl rfl ?_|refine W.condT rfl ?_|refine W.condF rfl ?_)
   (first|refine (?_:W _ _ _ _ _)|refine (?_:WL _ _ _ _ _ _)|skip)
   try dsimp only [St.put,Nat.reduceAdd]
   refine WL.vl rfl (zqc Tryz.func69 hI) ?_
   repeat (first|refine WL.vl rfl (WV.nch rfl rfl) ?_|refine W.gob rfl ?_|refine WL.nil ?_|refine WL.bt rfl rfl rfl zqo ?_|refine WL.bf rfl rfl rfl zqo ?_|refine WL.nt rfl rfl rfl zqo ?_|refine WL.nf rfl rfl rfl zqo ?_|refine WL.e1 rfl ?_|refine WL.gyes rfl rfl rfl rfl ?_|refine WL.opno rfl rfl rfl rfl rfl rfl rfl ?_|refine WL.len rfl rfl rfl ?_|refine W.condT rfl ?_|refine W.condF rfl ?_)
   (first|refine (?_:W _ _ _ _ _)|refine (?_:WL _ _ _ _ _ _)|skip)
   try dsimp only [St.put,Nat.reduceAdd]
   refine W.tr (Tr.nilC 1 0 3 rfl rfl rfl) ?_
   refine W.tr (Tr.nilC 1 1 1 rfl rfl rfl) ?_
   exact W.ret (finN rfl rfl rfl rfl)
 have e:tnX cs st c b=insE (tnC cs c b) st:=by unfold tnX;rw [if_neg (fun h=>h hi),if_neg hr,if_neg hb]
 have hc:1≤c∧c≤cs.length:=by omega
 have hR:=uChkd_FS (tnC cs c b) st
 rw [← e] at hR
 have hR:Ctr Tryz.prog 125 [.ag [.ls 3 ((tnC cs c b).map eCrs),.ls 1 (st.map eInt)]] (.tu [.ag [.ls 3 ((tnCs cs st c b).map eCrs),.ls 1 ((tnSt cs st c b).map eInt)],.sc (.int .i64 (tnX cs st c b))]):=hR
 have hrow:=fretsOf_row (cs:=cs) hc
 have hset:=tnC_map (b:=b) hc
 have hp:0≤(cs.getD (c.toNat - 1) (0,0,false)).1∧(cs.getD (c.toNat - 1) (0,0,false)).1≤127:=by
  have hk:c.toNat - 1 < cs.length:=by omega
  rw [List.getD_eq_getElem?_getD,List.getElem?_eq_getElem hk]
  exact yCrsE_p l5 _ hk
 obtain ⟨P,hP⟩:∃ z,(cs.getD (c.toNat - 1) (0,0,false)).1=z:=⟨_,rfl⟩
 rw [hP] at hrow hset hp
 obtain ⟨CS,hCS⟩:∃ z,cs.map eCrs=z:=⟨_,rfl⟩
 rw [hCS] at hI hCl hcl hrow hset ⊢
 obtain ⟨X,hX⟩:∃ z,tnX cs st c b=z:=⟨_,rfl⟩
 rw [hX] at hR ⊢
 clear hX e hEmp
 have hix:0≤c - 1∧c - 1 < (CS.length:Int):=by omega
 refine zqe Tryz.func86 Tryz.ntmps86 fun w0 F0=>?_;dsimp only [St.init,number,Nat.reduceAdd]
 repeat (first|refine WL.vl rfl (WV.nch rfl rfl) ?_|refine W.gob rfl ?_|refine WL.nil ?_|refine WL.bt rfl rfl rfl zqo ?_|refine WL.bf rfl rfl rfl zqo ?_|refine WL.nt rfl rfl rfl zqo ?_|refine WL.nf rfl rfl rfl zqo ?_|refine WL.e1 rfl ?_|refine WL.gyes rfl rfl rfl rfl ?_|refine WL.opno rfl rfl rfl rfl rfl rfl rfl ?_|refine WL.len rfl rfl rfl ?_|refine W.condT rfl ?_|refine W.condF rfl ?_)
 (first|refine (?_:W _ _ _ _ _)|refine (?_:WL _ _ _ _ _ _)|skip)
 try dsimp only [St.put,Nat.reduceAdd]
 refine WL.vl rfl (zqc Tryz.func69 hI) ?_
 repeat (first|refine WL.vl rfl (WV.nch rfl rfl) ?_|refine W.gob rfl ?_|refine WL.nil ?_|refine WL.bt rfl rfl rfl zqo ?_|refine WL.bf rfl rfl rfl zqo ?_|refine WL.nt rfl rfl rfl zqo ?_|refine WL.nf rfl rfl rfl zqo ?_|refine WL.e1 rfl ?_|refine WL.gyes rfl rfl rfl rfl ?_|refine WL.opno rfl rfl rfl rfl rfl rfl rfl ?_|refine WL.len rfl rfl rfl ?_|refine W.condT rfl ?_|refine W.condF rfl ?_)
 (first|refine (?_:W _ _ _ _ _)|refine (?_:WL _ _ _ _ _ _)|skip)
 try dsimp only [St.put,Nat.reduceAdd]
 refine WL.cto (truH _) [] rfl rfl (callF Tryz.func35 rfl rfl) hcl rfl rfl rfl trivial rfl rfl rfl rfl ?_
 repeat (first|refine WL.vl rfl (WV.nch rfl rfl) ?_|refine W.gob rfl ?_|refine WL.nil ?_|refine WL.bt rfl rfl rfl zqo ?_|refine WL.bf rfl rfl rfl zqo ?_|refine WL.nt rfl rfl rfl zqo ?_|refine WL.nf rfl rfl rfl zqo ?_|refine WL.e1 rfl ?_|refine WL.gyes rfl rfl rfl rfl ?_|refine WL.opno rfl rfl rfl rfl rfl rfl rfl ?_|refine WL.len rfl rfl rfl ?_|refine W.condT rfl ?_|refine W.condF rfl ?_)
 (first|refine (?_:W _ _ _ _ _)|refine (?_:WL _ _ _ _ _ _)|skip)
 try dsimp only [St.put,Nat.reduceAdd]
 refine W.dkT 15 zqk zqk zqk zqk ?_
 repeat (first|refine DK.st rfl ?_|refine DK.ar rfl rfl z46i ?_|refine DK.ixs rfl rfl hix ?_|refine DK.ldr rfl rfl hrow rfl rfl ?_|refine DK.nil ?_)
 refine ⟨rfl,?_⟩
 refine WL.sto rfl rfl rfl rfl hrow (by show 0+1≤3;omega) ?_
 dsimp only [AV.cells]
 rw [hset]
 repeat (first|refine WL.vl rfl (WV.nch rfl rfl) ?_|refine W.gob rfl ?_|refine WL.nil ?_|refine WL.bt rfl rfl rfl zqo ?_|refine WL.bf rfl rfl rfl zqo ?_|refine WL.nt rfl rfl rfl zqo ?_|refine WL.nf rfl rfl rfl zqo ?_|refine WL.e1 rfl ?_|refine WL.gyes rfl rfl rfl rfl ?_|refine WL.opno rfl rfl rfl rfl rfl rfl rfl ?_|refine WL.len rfl rfl rfl ?_|refine W.condT rfl ?_|refine W.condF rfl ?_)
 (first|refine (?_:W _ _ _ _ _)|refine (?_:WL _ _ _ _ _ _)|skip)
 try dsimp only [St.put,Nat.reduceAdd]
 refine WL.tr (Tr.freeze 2 rfl) ?_
 refine WL.tr (Tr.freeze 4 rfl) ?_
 refine WL.vl rfl (zqc Tryz.func125 hR) ?_
 repeat (first|refine WL.vl rfl (WV.nch rfl rfl) ?_|refine W.gob rfl ?_|refine WL.nil ?_|refine WL.bt rfl rfl rfl zqo ?_|refine WL.bf rfl rfl rfl zqo ?_|refine WL.nt rfl rfl rfl zqo ?_|refine WL.nf rfl rfl rfl zqo ?_|refine WL.e1 rfl ?_|refine WL.gyes rfl rfl rfl rfl ?_|refine WL.opno rfl rfl rfl rfl rfl rfl rfl ?_|refine WL.len rfl rfl rfl ?_|refine W.condT rfl ?_|refine W.condF rfl ?_)
 (first|refine (?_:W _ _ _ _ _)|refine (?_:WL _ _ _ _ _ _)|skip)
 try dsimp only [St.put,Nat.reduceAdd]
 exact W.ret (finN rfl rfl rfl rfl)
theorem uSound_FS (cs:List (Int×Int×Bool)) (st:List Int) (c f:Int) (hI:insE cs st=0) (hc:1≤c∧c≤cs.length) (hf0:0≤f∧f≤fretsOf cs c) :
  Ctr Tryz.prog 126 [.ag [.ls 3 (cs.map eCrs),.ls 1 (st.map eInt)],.ag [.sc (.int .i64 c),.sc (.int .i64 f)]] (.sc (.int .i64 (pitN cs st c f))):=by
 obtain ⟨l1,l2,l3,l4,l5⟩:=insE_len hI
 have hf:0≤f∧f≤st.length:=by
  have:=fretsOf_nn hI hc
  omega
 have hb1:=stepsBad_bd (Int.le_refl 0) l4
 have hrow:=fretsOf_row (cs:=cs) hc
 have hk:c.toNat - 1 < cs.length:=by omega
 have hp:0≤(cs.getD (c.toNat - 1) (0,0,false)).1∧(cs.getD (c.toNat - 1) (0,0,false)).1≤127:=by
  rw [List.getD_eq_getElem?_getD,List.getElem?_eq_getElem hk]
  exact yCrsE_p l5 _ hk
 have hq:pitN cs st c f=(cs.getD (c.toNat - 1) (0,0,false)).1+if 0 < f then st.getD (f - 1).toNat 0 else 0:=by
  unfold pitN;rw [show (c - 1).toNat=c.toNat - 1 by omega]
 rw [hq]
 obtain ⟨P,hP⟩:∃ z,(cs.getD (c.toNat - 1) (0,0,false)).1=z:=⟨_,rfl⟩
 rw [hP] at hrow hp ⊢
 obtain ⟨CS,hCS⟩:∃ z,cs.map eCrs=z:=⟨_,rfl⟩
 rw [hCS] at hrow ⊢
 by_cases h:0 < f
 ·have hs:(f - 1).toNat < st.length:=by omega
  have h2:=hb1 _ hs
  have hst:(st.map eInt)[(f - 1).toNat]?=some [.sc (.int .i64 st[(f - 1).toNat])]:=by rw [List.getElem?_map,List.getElem?_eq_getElem hs];rfl
  rw [if_pos h,List.getD_eq_getElem?_getD,List.getElem?_eq_getElem hs]
  simp only [Option.getD_some]
  obtain ⟨y,hy⟩:∃ y,st[(f - 1).toNat]=y:=⟨_,rfl⟩
  rw [hy] at h2 hst ⊢
  obtain ⟨SE,hSE⟩:∃ z,st.map eInt=z:=⟨_,rfl⟩
  rw [hSE] at hst ⊢
  refine zqe Tryz.func126 Tryz.ntmps126 fun w0 F0=>?_;dsimp only [St.init,number,Nat.reduceAdd]
  repeat (first|refine W.gob rfl ?_|refine WL.nil ?_|refine WL.bt rfl rfl rfl zqo ?_|refine WL.bf rfl rfl rfl zqo ?_|refine WL.e1 rfl ?_|refine WL.ar rfl rfl z46i ?_|refine W.condT rfl ?_|refine W.condF rfl ?_)
  (first|refine (?_:W _ _ _ _ _)|refine (?_:WL _ _ _ _ _ _)|skip)
  try dsimp only [St.put,Nat.reduceAdd]
  refine WL.idx rfl rfl zqo hrow ?_
  repeat (first|refine W.gob rfl ?_|refine WL.nil ?_|refine WL.bt rfl rfl rfl zqo ?_|refine WL.bf rfl rfl rfl zqo ?_|refine WL.e1 rfl ?_|refine WL.ar rfl rfl z46i ?_|refine W.condT rfl ?_|refine W.condF rfl ?_)
  (first|refine (?_:W _ _ _ _ _)|refine (?_:WL _ _ _ _ _ _)|skip)
  try dsimp only [St.put,Nat.reduceAdd]
  refine WL.idx rfl rfl zqo hst ?_
  repeat (first|refine W.gob rfl ?_|refine WL.nil ?_|refine WL.bt rfl rfl rfl zqo ?_|refine WL.bf rfl rfl rfl zqo ?_|refine WL.e1 rfl ?_|refine WL.ar rfl rfl z46i ?_|refine W.condT rfl ?_|refine W.condF rfl ?_)
  (first|refine (?_:W _ _ _ _ _)|refine (?_:WL _ _ _ _ _ _)|skip)
  try dsimp only [St.put,Nat.reduceAdd]
  exact W.ret zqr
 ·rw [if_neg h]
  refine zqe Tryz.func126 Tryz.ntmps126 fun w0 F0=>?_;dsimp only [St.init,number,Nat.reduceAdd]
  repeat (first|refine W.gob rfl ?_|refine WL.nil ?_|refine WL.bt rfl rfl rfl zqo ?_|refine WL.bf rfl rfl rfl zqo ?_|refine WL.e1 rfl ?_|refine WL.ar rfl rfl z46i ?_|refine W.condT rfl ?_|refine W.condF rfl ?_)
  (first|refine (?_:W _ _ _ _ _)|refine (?_:WL _ _ _ _ _ _)|skip)
  try dsimp only [St.put,Nat.reduceAdd]
  refine WL.idx rfl rfl zqo hrow ?_
  repeat (first|refine W.gob rfl ?_|refine WL.nil ?_|refine WL.bt rfl rfl rfl zqo ?_|refine WL.bf rfl rfl rfl zqo ?_|refine WL.e1 rfl ?_|refine WL.ar rfl rfl z46i ?_|refine W.condT rfl ?_|refine W.condF rfl ?_)
  (first|refine (?_:W _ _ _ _ _)|refine (?_:WL _ _ _ _ _ _)|skip)
  try dsimp only [St.put,Nat.reduceAdd]
  refine W.ret (fin1 rfl rfl (sc_int ?_) rfl)
  omega
theorem uFretOn_FS (cs:List (Int×Int×Bool)) (st:List Int) (c q:Int) (hI:insE cs st=0) (hc:1≤c∧c≤cs.length) :
  Ctr Tryz.prog 88 [.ag [.ls 3 (cs.map eCrs),.ls 1 (st.map eInt)],.sc (.int .i64 c),.sc (.int .i64 q)] (.sc (.int .i64 (match frN cs st c q with|some f=>(f:Int)|none=>-1))):=by
 have hn:=fretsOf_nn hI hc
 obtain ⟨l1,l2,l3,l4,l5⟩:=insE_len hI
 have hS:∀ k:Nat,(k:Int)≤fretsOf cs c→Ctr Tryz.prog 126 [.ag [.ls 3 (cs.map eCrs),.ls 1 (st.map eInt)],.ag [.sc (.int .i64 c),.sc (.int .i64 (k:Int))]] (.sc (.int .i64 (pitN cs st c (k:Int)))):=fun k hk=>uSound_FS cs st c (k:Int) hI hc ⟨by omega,hk⟩
 have hrow:=fretsOf_row (cs:=cs) hc
 have hCl:(cs.map eCrs).length=cs.length:=List.length_map _
 have hhit:=fun k=>frN_hit (cs:=cs) (st:=st) (c:=c) (q:=q) (k:=k)
 have hmiss:=frN_miss (cs:=cs) (st:=st) (c:=c) (q:=q)
 have hZ1:∀ k:Nat,frN cs st c q=some k→(match frN cs st c q with|some f=>(f:Int)|none=>-1)=(k:Int):=fun k h=>by rw [h]
 have hZ0:frN cs st c q=none→(match frN cs st c q with|some f=>(f:Int)|none=>-1)=-1:=fun h=>by rw [h]
 obtain ⟨Z,hZ⟩:∃ z,(match frN cs st c q with|some f=>(f:Int)|none=>-1)=z:=⟨_,rfl⟩
 rw [hZ] at hZ0 ⊢
 simp only [hZ] at hZ1
 clear hZ
 obtain ⟨TE,hTE⟩:∃ z,cs.map eCrs=z:=⟨_,rfl⟩
 rw [hTE] at hrow hCl ⊢
 simp only [hTE] at hS
 obtain ⟨F,hF⟩:∃ z,fretsOf cs c=z:=⟨_,rfl⟩
 rw [hF] at hn hrow hmiss
 simp only [hF] at hS hhit
 refine zqe Tryz.func88 Tryz.ntmps88 fun w0 F0=>?_;dsimp only [St.init,number,Nat.reduceAdd]
 repeat (first|refine WL.vl rfl (WV.nch rfl rfl) ?_|refine W.gob rfl ?_|refine WL.nil ?_|refine WL.bt rfl rfl rfl zqo ?_|refine WL.bf rfl rfl rfl zqo ?_|refine WL.e1 rfl ?_|refine WL.ar rfl rfl z46i ?_|refine W.condT rfl ?_|refine W.condF rfl ?_)
 (first|refine (?_:W _ _ _ _ _)|refine (?_:WL _ _ _ _ _ _)|skip)
 try dsimp only [St.put,Nat.reduceAdd]
 refine W.loop (fun k:Nat=>(k:Int)≤F+1∧∀ g,g < k→pitN cs st c (g:Nat)≠q) (fun k=>⟨[(1,.sc (.int .i64 c)),(2,.sc (.int .i64 q)),(3,.pt 0 0 0),(7,.sc (.int .i64 k))],[(0,.box 26 [.ls 3 TE,.ls 1 (st.map eInt)])],1⟩) (fun k=>F.toNat+1 - k) 0 ⟨by omega,fun g h=>absurd h (Nat.not_lt_zero _)⟩ (zqt id) fun k hk=>?_
 obtain ⟨hk,hno⟩:=hk
 by_cases hkF:(k:Int)≤F
 ·have gA:=hS k hkF
  have hh:=hhit k hkF hno
  have hnx:pitN cs st c (k:Nat)≠q→∀ g,g < k+1→pitN cs st c (g:Nat)≠q:=fun h g hg=>by
   by_cases e:g=k
   ·subst e;exact h
   ·exact hno g zqo
  obtain ⟨r,hr⟩:∃ z,pitN cs st c (k:Int)=z:=⟨_,rfl⟩
  rw [hr] at gA hh hnx
  clear hS hhit hmiss hno
  by_cases he:r=q
  ·obtain rfl:=hZ1 k (hh he)
   clear hZ1 hZ0
   repeat (first|refine WL.vl rfl (WV.nch rfl rfl) ?_|refine W.gob rfl ?_|refine WL.nil ?_|refine WL.bt rfl rfl rfl zqo ?_|refine WL.bf rfl rfl rfl zqo ?_|refine WL.e1 rfl ?_|refine WL.ar rfl rfl z46i ?_|refine W.condT rfl ?_|refine W.condF rfl ?_)
   (first|refine (?_:W _ _ _ _ _)|refine (?_:WL _ _ _ _ _ _)|skip)
   try dsimp only [St.put,Nat.reduceAdd]
   refine WL.idx rfl rfl zqo hrow ?_
   repeat (first|refine WL.vl rfl (WV.nch rfl rfl) ?_|refine W.gob rfl ?_|refine WL.nil ?_|refine WL.bt rfl rfl rfl zqo ?_|refine WL.bf rfl rfl rfl zqo ?_|refine WL.e1 rfl ?_|refine WL.ar rfl rfl z46i ?_|refine W.condT rfl ?_|refine W.condF rfl ?_)
   (first|refine (?_:W _ _ _ _ _)|refine (?_:WL _ _ _ _ _ _)|skip)
   try dsimp only [St.put,Nat.reduceAdd]
   refine WL.vl rfl (zqc Tryz.func126 gA) ?_
   repeat (first|refine WL.vl rfl (WV.nch rfl rfl) ?_|refine W.gob rfl ?_|refine WL.nil ?_|refine WL.bt rfl rfl rfl zqo ?_|refine WL.bf rfl rfl rfl zqo ?_|refine WL.e1 rfl ?_|refine WL.ar rfl rfl z46i ?_|refine W.condT rfl ?_|refine W.condF rfl ?_)
   (first|refine (?_:W _ _ _ _ _)|refine (?_:WL _ _ _ _ _ _)|skip)
   try dsimp only [St.put,Nat.reduceAdd]
   exact W.ret zqr
  ·have hn2:=hnx he
   repeat (first|refine WL.vl rfl (WV.nch rfl rfl) ?_|refine W.gob rfl ?_|refine WL.nil ?_|refine WL.bt rfl rfl rfl zqo ?_|refine WL.bf rfl rfl rfl zqo ?_|refine WL.e1 rfl ?_|refine WL.ar rfl rfl z46i ?_|refine W.condT rfl ?_|refine W.condF rfl ?_)
   (first|refine (?_:W _ _ _ _ _)|refine (?_:WL _ _ _ _ _ _)|skip)
   try dsimp only [St.put,Nat.reduceAdd]
   refine WL.idx rfl rfl zqo hrow ?_
   repeat (first|refine WL.vl rfl (WV.nch rfl rfl) ?_|refine W.gob rfl ?_|refine WL.nil ?_|refine WL.bt rfl rfl rfl zqo ?_|refine WL.bf rfl rfl rfl zqo ?_|refine WL.e1 rfl ?_|refine WL.ar rfl rfl z46i ?_|refine W.condT rfl ?_|refine W.condF rfl ?_)
   (first|refine (?_:W _ _ _ _ _)|refine (?_:WL _ _ _ _ _ _)|skip)
   try dsimp only [St.put,Nat.reduceAdd]
   refine WL.vl rfl (zqc Tryz.func126 gA) ?_
   repeat (first|refine WL.vl rfl (WV.nch rfl rfl) ?_|refine W.gob rfl ?_|refine WL.nil ?_|refine WL.bt rfl rfl rfl zqo ?_|refine WL.bf rfl rfl rfl zqo ?_|refine WL.e1 rfl ?_|refine WL.ar rfl rfl z46i ?_|refine W.condT rfl ?_|refine W.condF rfl ?_)
   (first|refine (?_:W _ _ _ _ _)|refine (?_:WL _ _ _ _ _ _)|skip)
   try dsimp only [St.put,Nat.reduceAdd]
   exact ⟨k+1,⟨by omega,hn2⟩,by omega,(zqt id)⟩
 ·have hm:=hmiss (fun g hg=>hno g zqo) hn.1
  obtain rfl:=hZ0 hm
  clear hS hhit hmiss hno
  repeat (first|refine WL.vl rfl (WV.nch rfl rfl) ?_|refine W.gob rfl ?_|refine WL.nil ?_|refine WL.bt rfl rfl rfl zqo ?_|refine WL.bf rfl rfl rfl zqo ?_|refine WL.e1 rfl ?_|refine WL.ar rfl rfl z46i ?_|refine W.condT rfl ?_|refine W.condF rfl ?_)
  (first|refine (?_:W _ _ _ _ _)|refine (?_:WL _ _ _ _ _ _)|skip)
  try dsimp only [St.put,Nat.reduceAdd]
  refine WL.idx rfl rfl zqo hrow ?_
  repeat (first|refine WL.vl rfl (WV.nch rfl rfl) ?_|refine W.gob rfl ?_|refine WL.nil ?_|refine WL.bt rfl rfl rfl zqo ?_|refine WL.bf rfl rfl rfl zqo ?_|refine WL.e1 rfl ?_|refine WL.ar rfl rfl z46i ?_|refine W.condT rfl ?_|refine W.condF rfl ?_)
  (first|refine (?_:W _ _ _ _ _)|refine (?_:WL _ _ _ _ _ _)|skip)
  try dsimp only [St.put,Nat.reduceAdd]
  exact W.ret zqr
theorem uTargets_FS (p:Pce) (hO:PcOk p) (h0:pceE p=0) (i:Nat) (hi:i < p.evs.length) :
  Ctr Tryz.prog 87 [ePce p,.sc (.int .i64 i),.sc (.int .i64 0)] (.ls 1 ((p.evs[i].stops.map fun x=>pitN p.cs p.st x.1 x.2.1).map eInt)):=by
 obtain ⟨hI,_,_⟩:=pceE_zero h0
 have hS:∀ k (hk:k < p.evs[i].stops.length),Ctr Tryz.prog 126 [.ag [.ls 3 (p.cs.map eCrs),.ls 1 (p.st.map eInt)],.ag [.sc (.int .i64 p.evs[i].stops[k].1),.sc (.int .i64 p.evs[i].stops[k].2.1)]] (.sc (.int .i64 (pitN p.cs p.st p.evs[i].stops[k].1 p.evs[i].stops[k].2.1))):=fun k hk=>by
  have h:=(evOk_of h0 hi).stops _ (List.getElem_mem hk)
  exact uSound_FS p.cs p.st _ _ hI h.crs h.fret
 have hbd:∀ k (hk:k < p.evs[i].stops.length),0≤pitN p.cs p.st p.evs[i].stops[k].1 p.evs[i].stops[k].2.1∧pitN p.cs p.st p.evs[i].stops[k].1 p.evs[i].stops[k].2.1≤254:=fun k hk=>by
  have h:=(evOk_of h0 hi).stops _ (List.getElem_mem hk)
  obtain ⟨l1,l2,l3,l4,l5⟩:=insE_len hI
  have hb1:=stepsBad_bd (Int.le_refl 0) l4
  have hcr:=h.crs
  have hfr:=h.fret
  have hn:=fretsOf_nn hI hcr
  have hkk:(p.evs[i].stops[k].1 - 1).toNat < p.cs.length:=by omega
  have hp:=yCrsE_p l5 _ hkk
  unfold pitN
  rw [List.getD_eq_getElem?_getD,List.getElem?_eq_getElem hkk]
  simp only [Option.getD_some]
  by_cases hf:0 < p.evs[i].stops[k].2.1
  ·have hs:(p.evs[i].stops[k].2.1 - 1).toNat < p.st.length:=by omega
   have:=hb1 _ hs
   rw [if_pos hf,List.getD_eq_getElem?_getD,List.getElem?_eq_getElem hs]
   simp only [Option.getD_some]
   omega
  ·rw [if_neg hf];omega
 have h1:(p.evs.map eEv)[((i:Nat):Int).toNat]?=some [.sc (.bool p.evs[i].bar),.sc (.int .i64 p.evs[i].val),.sc (.bool p.evs[i].dot),.sc (.bool p.evs[i].three),.sc (.bool p.evs[i].tie),.ls 5 (p.evs[i].stops.map eStp)]:=by
  rw [Int.toNat_natCast,List.getElem?_map,List.getElem?_eq_getElem hi];rfl
 have hPe:ePce p=.ag [.ls 3 (p.cs.map eCrs),.ls 1 (p.st.map eInt),.ls 6 (p.evs.map eEv)]:=rfl
 have h20:=hO.n4 i hi
 have hn3:=hO.n3
 have hEl:(p.evs.map eEv).length=p.evs.length:=List.length_map _
 have hSl:(p.evs[i].stops.map eStp).length=p.evs[i].stops.length:=List.length_map _
 have hSt2:∀ k (h:k < p.evs[i].stops.length),(p.evs[i].stops.map eStp)[((k:Nat):Int).toNat]?=some [.sc (.int .i64 p.evs[i].stops[k].1),.sc (.int .i64 p.evs[i].stops[k].2.1),.sc (.int .i64 p.evs[i].stops[k].2.2.1),.sc (.int .i64 p.evs[i].stops[k].2.2.2.1),.sc (.int .i64 p.evs[i].stops[k].2.2.2.2)]:=fun k h=>by
  rw [Int.toNat_natCast,List.getElem?_map,List.getElem?_eq_getElem h];rfl
 rw [hPe]
 obtain ⟨EV,hEV⟩:∃ z,p.evs.map eEv=z:=⟨_,rfl⟩
 rw [hEV] at h1 hEl ⊢
 obtain ⟨SE,hSE⟩:∃ z,p.evs[i].stops.map eStp=z:=⟨_,rfl⟩
 rw [hSE] at h1 hSl
 simp only [hSE] at hSt2
 generalize p.evs[i].bar=ya at h1
 generalize p.evs[i].val=yb at h1
 generalize p.evs[i].dot=yc at h1
 generalize p.evs[i].three=yd at h1
 generalize p.evs[i].tie=ye at h1
 obtain ⟨S,hS0⟩:∃ z,p.evs[i].stops=z:=⟨_,rfl⟩
 simp only [hS0] at hSl hSt2 hS hbd h20 ⊢
 refine zqe Tryz.func87 Tryz.ntmps87 fun w0 F0=>?_;dsimp only [St.init,number,Nat.reduceAdd]
 repeat (first|refine WL.vl rfl (WV.nch rfl rfl) ?_|refine W.gob rfl ?_|refine WL.nil ?_|refine WL.bt rfl rfl rfl zqo ?_|refine WL.bf rfl rfl rfl zqo ?_|refine WL.e1 rfl ?_|refine WL.ar rfl rfl z46i ?_|refine WL.len rfl rfl rfl ?_|refine WL.app rfl rfl rfl zqs ?_|refine W.condT rfl ?_|refine W.condF rfl ?_)
 (first|refine (?_:W _ _ _ _ _)|refine (?_:WL _ _ _ _ _ _)|skip)
 try dsimp only [St.put,Nat.reduceAdd]
 refine W.tr (Tr.nil (t:=7) 3 1 rfl rfl) ?_
 dsimp only [St.put,St.new,St.upd,Nat.reduceAdd]
 repeat (first|refine WL.vl rfl (WV.nch rfl rfl) ?_|refine W.gob rfl ?_|refine WL.nil ?_|refine WL.bt rfl rfl rfl zqo ?_|refine WL.bf rfl rfl rfl zqo ?_|refine WL.e1 rfl ?_|refine WL.ar rfl rfl z46i ?_|refine WL.len rfl rfl rfl ?_|refine WL.app rfl rfl rfl zqs ?_|refine W.condT rfl ?_|refine W.condF rfl ?_)
 (first|refine (?_:W _ _ _ _ _)|refine (?_:WL _ _ _ _ _ _)|skip)
 try dsimp only [St.put,Nat.reduceAdd]
 refine W.loop (fun k:Nat=>k≤S.length) (fun k=>⟨[(1,.sc (.int .i64 i)),(2,.sc (.int .i64 0)),(3,.pt 0 0 0),(7,.sl 1),(8,.sc (.int .i64 k))],[(0,.box 29 [.ls 3 (p.cs.map eCrs),.ls 1 (p.st.map eInt),.ls 6 EV]),(1,.row 3 1 (((S.take k).map fun x=>pitN p.cs p.st x.1 x.2.1).map eInt))],2⟩) (fun k=>S.length - k) 0 zqo (zqt id) fun k hk=>?_
 by_cases hlt:k < S.length
 ·have g1:=hSt2 k hlt
  have gS:=hS k hlt
  have gb:=hbd k hlt
  have hrow:((S.take k).map fun x=>pitN p.cs p.st x.1 x.2.1).map eInt++[[.sc (.int .i64 (pitN p.cs p.st S[k].1 S[k].2.1+0))]]=((S.take (k+1)).map fun x=>pitN p.cs p.st x.1 x.2.1).map eInt:=by
   rw [List.take_succ_eq_append_getElem hlt,List.map_append,List.map_append,Int.add_zero];rfl
  have hl:(((S.take k).map fun x=>pitN p.cs p.st x.1 x.2.1).map eInt).length=k:=by rw [List.length_map,List.length_map,List.length_take];omega
  obtain ⟨R,hR⟩:∃ z,((S.take k).map fun x=>pitN p.cs p.st x.1 x.2.1).map eInt=z:=⟨_,rfl⟩
  rw [hR] at hrow hl ⊢
  obtain ⟨q,hq⟩:∃ z,pitN p.cs p.st S[k].1 S[k].2.1=z:=⟨_,rfl⟩
  rw [hq] at gS gb hrow
  clear hS hbd hSt2
  repeat (first|refine WL.vl rfl (WV.nch rfl rfl) ?_|refine W.gob rfl ?_|refine WL.nil ?_|refine WL.bt rfl rfl rfl zqo ?_|refine WL.bf rfl rfl rfl zqo ?_|refine WL.e1 rfl ?_|refine WL.ar rfl rfl z46i ?_|refine WL.len rfl rfl rfl ?_|refine WL.app rfl rfl rfl zqs ?_|refine W.condT rfl ?_|refine W.condF rfl ?_)
  (first|refine (?_:W _ _ _ _ _)|refine (?_:WL _ _ _ _ _ _)|skip)
  try dsimp only [St.put,Nat.reduceAdd]
  refine WL.idx rfl rfl zqo h1 ?_
  repeat (first|refine WL.vl rfl (WV.nch rfl rfl) ?_|refine W.gob rfl ?_|refine WL.nil ?_|refine WL.bt rfl rfl rfl zqo ?_|refine WL.bf rfl rfl rfl zqo ?_|refine WL.e1 rfl ?_|refine WL.ar rfl rfl z46i ?_|refine WL.len rfl rfl rfl ?_|refine WL.app rfl rfl rfl zqs ?_|refine W.condT rfl ?_|refine W.condF rfl ?_)
  (first|refine (?_:W _ _ _ _ _)|refine (?_:WL _ _ _ _ _ _)|skip)
  try dsimp only [St.put,Nat.reduceAdd]
  refine WL.idx rfl rfl zqo h1 ?_
  repeat (first|refine WL.vl rfl (WV.nch rfl rfl) ?_|refine W.gob rfl ?_|refine WL.nil ?_|refine WL.bt rfl rfl rfl zqo ?_|refine WL.bf rfl rfl rfl zqo ?_|refine WL.e1 rfl ?_|refine WL.ar rfl rfl z46i ?_|refine WL.len rfl rfl rfl ?_|refine WL.app rfl rfl rfl zqs ?_|refine W.condT rfl ?_|refine W.condF rfl ?_)
  (first|refine (?_:W _ _ _ _ _)|refine (?_:WL _ _ _ _ _ _)|skip)
  try dsimp only [St.put,Nat.reduceAdd]
  refine WL.idx rfl rfl zqo g1 ?_
  repeat (first|refine WL.vl rfl (WV.nch rfl rfl) ?_|refine W.gob rfl ?_|refine WL.nil ?_|refine WL.bt rfl rfl rfl zqo ?_|refine WL.bf rfl rfl rfl zqo ?_|refine WL.e1 rfl ?_|refine WL.ar rfl rfl z46i ?_|refine WL.len rfl rfl rfl ?_|refine WL.app rfl rfl rfl zqs ?_|refine W.condT rfl ?_|refine W.condF rfl ?_)
  (first|refine (?_:W _ _ _ _ _)|refine (?_:WL _ _ _ _ _ _)|skip)
  try dsimp only [St.put,Nat.reduceAdd]
  refine WL.vl rfl (zqc Tryz.func126 gS) ?_
  repeat (first|refine WL.vl rfl (WV.nch rfl rfl) ?_|refine W.gob rfl ?_|refine WL.nil ?_|refine WL.bt rfl rfl rfl zqo ?_|refine WL.bf rfl rfl rfl zqo ?_|refine WL.e1 rfl ?_|refine WL.ar rfl rfl z46i ?_|refine WL.len rfl rfl rfl ?_|refine WL.app rfl rfl rfl zqs ?_|refine W.condT rfl ?_|refine W.condF rfl ?_)
  (first|refine (?_:W _ _ _ _ _)|refine (?_:WL _ _ _ _ _ _)|skip)
  try dsimp only [St.put,Nat.reduceAdd]
  exact ⟨k+1,by omega,by omega,(zqu (fun q=>bif Nat.beq q 1 then 4 else q) (by repeat (first|exact trivial|refine ⟨⟨?_,?_,?_⟩,?_⟩|rfl|exact congrArg (fun q=>some (AO.row _ _ q)) hrow)) rfl)⟩
 ·obtain rfl:k=S.length:=by omega
  rw [List.take_length]
  repeat (first|refine WL.vl rfl (WV.nch rfl rfl) ?_|refine W.gob rfl ?_|refine WL.nil ?_|refine WL.bt rfl rfl rfl zqo ?_|refine WL.bf rfl rfl rfl zqo ?_|refine WL.e1 rfl ?_|refine WL.ar rfl rfl z46i ?_|refine WL.len rfl rfl rfl ?_|refine WL.app rfl rfl rfl zqs ?_|refine W.condT rfl ?_|refine W.condF rfl ?_)
  (first|refine (?_:W _ _ _ _ _)|refine (?_:WL _ _ _ _ _ _)|skip)
  try dsimp only [St.put,Nat.reduceAdd]
  refine WL.idx rfl rfl zqo h1 ?_
  repeat (first|refine WL.vl rfl (WV.nch rfl rfl) ?_|refine W.gob rfl ?_|refine WL.nil ?_|refine WL.bt rfl rfl rfl zqo ?_|refine WL.bf rfl rfl rfl zqo ?_|refine WL.e1 rfl ?_|refine WL.ar rfl rfl z46i ?_|refine WL.len rfl rfl rfl ?_|refine WL.app rfl rfl rfl zqs ?_|refine W.condT rfl ?_|refine W.condF rfl ?_)
  (first|refine (?_:W _ _ _ _ _)|refine (?_:WL _ _ _ _ _ _)|skip)
  try dsimp only [St.put,Nat.reduceAdd]
  refine W.tr (Tr.freeze 1 rfl) ?_
  exact W.ret zqr
end Go.Proofs.YtaeelcfjkhfpkaaGreat
