/- A course tuned otherwise; Retune of the program. -/
import Derived.Test.YtaeelcfjkhfpkaaGreatU5Nq
import Derived.Test.YtaeelcfjkhfpkaaGreatYHNq
set_option maxHeartbeats 8000000
set_option maxRecDepth 100000
set_option linter.unusedVariables false
set_option linter.unusedSimpArgs false
namespace Go.Proofs.YtaeelcfjkhfpkaaGreat
open Go.RowKit
theorem z45i {z:Int} (h:I64 z:=by unfold I64;omega):I64 z:=h
theorem uRetd_FS (cs:List (Int×Int×Bool)) (st:List Int):Ctr Tryz.prog 123 [.ag [.ls 3 (cs.map eCrs),.ls 1 (st.map eInt)]] (.tu [.ag [.ls 3 ((if insE cs st=0 then cs else []).map eCrs),.ls 1 ((if insE cs st=0 then st else []).map eInt)],.sc (.int .i64 (insE cs st))]):=by
 have hI:Ctr Tryz.prog 93 [.ag [.ls 3 (cs.map eCrs),.ls 1 (st.map eInt)]] (.sc (.int .i64 (insE cs st))):=yInsCheck_FS cs st
 by_cases h:insE cs st=0
 ·rw [h] at hI ⊢
  rw [if_pos rfl,if_pos rfl]
  refine zqe Tryz.func123 Tryz.ntmps123 fun w0 F0=>?_;dsimp only [St.init,number,Nat.reduceAdd]
  repeat (first|refine WL.vl rfl (WV.nch rfl rfl) ?_|refine W.gob rfl ?_|refine WL.nil ?_|refine WL.nt rfl rfl rfl zqo ?_|refine WL.nf rfl rfl rfl zqo ?_|refine WL.e1 rfl ?_|refine W.condT rfl ?_|refine W.condF rfl ?_)
  (first|refine (?_:W _ _ _ _ _)|refine (?_:WL _ _ _ _ _ _)|skip)
  try dsimp only [St.put,Nat.reduceAdd]
  refine WL.vl rfl (zqc Tryz.func93 hI) ?_
  repeat (first|refine WL.vl rfl (WV.nch rfl rfl) ?_|refine W.gob rfl ?_|refine WL.nil ?_|refine WL.nt rfl rfl rfl zqo ?_|refine WL.nf rfl rfl rfl zqo ?_|refine WL.e1 rfl ?_|refine W.condT rfl ?_|refine W.condF rfl ?_)
  (first|refine (?_:W _ _ _ _ _)|refine (?_:WL _ _ _ _ _ _)|skip)
  try dsimp only [St.put,Nat.reduceAdd]
  exact W.ret (finN rfl rfl rfl rfl)
 ·rw [if_neg h,if_neg h]
  obtain ⟨E,hE⟩:∃ z,insE cs st=z:=⟨_,rfl⟩
  rw [hE] at hI h ⊢
  refine zqe Tryz.func123 Tryz.ntmps123 fun w0 F0=>?_;dsimp only [St.init,number,Nat.reduceAdd]
  repeat (first|refine WL.vl rfl (WV.nch rfl rfl) ?_|refine W.gob rfl ?_|refine WL.nil ?_|refine WL.nt rfl rfl rfl zqo ?_|refine WL.nf rfl rfl rfl zqo ?_|refine WL.e1 rfl ?_|refine W.condT rfl ?_|refine W.condF rfl ?_)
  (first|refine (?_:W _ _ _ _ _)|refine (?_:WL _ _ _ _ _ _)|skip)
  try dsimp only [St.put,Nat.reduceAdd]
  refine WL.vl rfl (zqc Tryz.func93 hI) ?_
  repeat (first|refine WL.vl rfl (WV.nch rfl rfl) ?_|refine W.gob rfl ?_|refine WL.nil ?_|refine WL.nt rfl rfl rfl zqo ?_|refine WL.nf rfl rfl rfl zqo ?_|refine WL.e1 rfl ?_|refine W.condT rfl ?_|refine W.condF rfl ?_)
  (first|refine (?_:W _ _ _ _ _)|refine (?_:WL _ _ _ _ _ _)|skip)
  try dsimp only [St.put,Nat.reduceAdd]
  refine W.tr (Tr.nilC 1 0 3 rfl rfl rfl) ?_
  refine W.tr (Tr.nilC 1 1 1 rfl rfl rfl) ?_
  exact W.ret (finN rfl rfl rfl rfl)
theorem tnC_map {cs:List (Int×Int×Bool)} {c b:Int} (hc:1≤c∧c≤cs.length):(cs.map eCrs).set (c-1).toNat (putL 0 [.sc (.int .i64 ((cs.getD (c.toNat-1) (0,0,false)).1+b))] [.sc (.int .i64 (cs.getD (c.toNat-1) (0,0,false)).1),.sc (.int .i64 (fretsOf cs c)),.sc (.bool (cs.getD (c.toNat-1) (0,0,false)).2.2)])=(tnC cs c b).map eCrs:=by
 unfold tnC
 rw [List.map_set,show (c-1).toNat=c.toNat-1 by omega];rfl
theorem uTune_FS (cs:List (Int×Int×Bool)) (st:List Int) (c b:Int):Ctr Tryz.prog 83 [.ag [.ls 3 (cs.map eCrs),.ls 1 (st.map eInt)],.sc (.int .i64 c),.sc (.int .i64 b)]
  (.tu [.ag [.ls 3 ((tnCs cs st c b).map eCrs),.ls 1 ((tnSt cs st c b).map eInt)],.sc (.int .i64 (tnX cs st c b))]):=by
 have hI:Ctr Tryz.prog 93 [.ag [.ls 3 (cs.map eCrs),.ls 1 (st.map eInt)]] (.sc (.int .i64 (insE cs st))):=yInsCheck_FS cs st
 have hEmp:tnX cs st c b≠0→tnCs cs st c b=[]∧tnSt cs st c b=[]:=fun h=>⟨if_neg h,if_neg h⟩
 by_cases hi:insE cs st=0
 rotate_left
 ·have e:tnX cs st c b=insE cs st:=if_pos hi
  obtain ⟨e1,e2⟩:=hEmp (by rw [e];exact hi)
  rw [e1,e2,e]
  obtain ⟨E,hE⟩:∃ z,insE cs st=z:=⟨_,rfl⟩
  rw [hE] at hI hi ⊢
  refine zqe Tryz.func83 Tryz.ntmps83 fun w0 F0=>?_;dsimp only [St.init,number,Nat.reduceAdd]
  repeat (first|refine WL.vl rfl (WV.nch rfl rfl) ?_|refine W.gob rfl ?_|refine WL.nil ?_|refine WL.bt rfl rfl rfl zqo ?_|refine WL.bf rfl rfl rfl zqo ?_|refine WL.nt rfl rfl rfl zqo ?_|refine WL.nf rfl rfl rfl zqo ?_|refine WL.e1 rfl ?_|refine WL.gyes rfl rfl rfl rfl ?_|refine WL.opno rfl rfl rfl rfl rfl rfl rfl ?_|refine WL.ar rfl rfl z45i ?_|refine WL.len rfl rfl rfl ?_|refine WL.ixs rfl rfl zqs ?_|refine W.condT rfl ?_|refine W.condF rfl ?_)
  (first|refine (?_:W _ _ _ _ _)|refine (?_:WL _ _ _ _ _ _)|skip)
  try dsimp only [St.put,Nat.reduceAdd]
  refine WL.vl rfl (zqc Tryz.func93 hI) ?_
  repeat (first|refine WL.vl rfl (WV.nch rfl rfl) ?_|refine W.gob rfl ?_|refine WL.nil ?_|refine WL.bt rfl rfl rfl zqo ?_|refine WL.bf rfl rfl rfl zqo ?_|refine WL.nt rfl rfl rfl zqo ?_|refine WL.nf rfl rfl rfl zqo ?_|refine WL.e1 rfl ?_|refine WL.gyes rfl rfl rfl rfl ?_|refine WL.opno rfl rfl rfl rfl rfl rfl rfl ?_|refine WL.ar rfl rfl z45i ?_|refine WL.len rfl rfl rfl ?_|refine WL.ixs rfl rfl zqs ?_|refine W.condT rfl ?_|refine W.condF rfl ?_)
  (first|refine (?_:W _ _ _ _ _)|refine (?_:WL _ _ _ _ _ _)|skip)
  try dsimp only [St.put,Nat.reduceAdd]
  refine W.tr (Tr.nilC 1 0 3 rfl rfl rfl) ?_
  refine W.tr (Tr.nilC 1 1 1 rfl rfl rfl) ?_
  exact W.ret (finN rfl rfl rfl rfl)
 rw [hi] at hI
 obtain ⟨l1,l2,l3,l4,l5⟩:=insE_len hi
 have hCl:(cs.map eCrs).length=cs.length:=List.length_map _
 have hcl:=clone_FS cs st zqo zqo
 by_cases hr:c < 1∨(cs.length:Int) < c
 ·have e:tnX cs st c b=12:=by unfold tnX;rw [if_neg (fun h=>h hi),if_pos hr]
  obtain ⟨e1,e2⟩:=hEmp (by rw [e];decide)
  rw [e1,e2,e]
  obtain ⟨CS,hCS⟩:∃ z,cs.map eCrs=z:=⟨_,rfl⟩
  rw [hCS] at hI hCl ⊢
  have hr2:c < 1∨(¬ c < 1∧(cs.length:Int) < c):=by omega
  rcases hr2 with hr2|hr2
  all_goals
   refine zqe Tryz.func83 Tryz.ntmps83 fun w0 F0=>?_;dsimp only [St.init,number,Nat.reduceAdd]
   repeat (first|refine WL.vl rfl (WV.nch rfl rfl) ?_|refine W.gob rfl ?_|refine WL.nil ?_|refine WL.bt rfl rfl rfl zqo ?_|refine WL.bf rfl rfl rfl zqo ?_|refine WL.nt rfl rfl rfl zqo ?_|refine WL.nf rfl rfl rfl zqo ?_|refine WL.e1 rfl ?_|refine WL.gyes rfl rfl rfl rfl ?_|refine WL.opno rfl rfl rfl rfl rfl rfl rfl ?_|refine WL.ar rfl rfl z45i ?_|refine WL.len rfl rfl rfl ?_|refine WL.ixs rfl rfl zqs ?_|refine W.condT rfl ?_|refine W.condF rfl ?_)
   (first|refine (?_:W _ _ _ _ _)|refine (?_:WL _ _ _ _ _ _)|skip)
   try dsimp only [St.put,Nat.reduceAdd]
   refine WL.vl rfl (zqc Tryz.func93 hI) ?_
   repeat (first|refine WL.vl rfl (WV.nch rfl rfl) ?_|refine W.gob rfl ?_|refine WL.nil ?_|refine WL.bt rfl rfl rfl zqo ?_|refine WL.bf rfl rfl rfl zqo ?_|refine WL.nt rfl rfl rfl zqo ?_|refine WL.nf rfl rfl rfl zqo ?_|refine WL.e1 rfl ?_|refine WL.gyes rfl rfl rfl rfl ?_|refine WL.opno rfl rfl rfl rfl rfl rfl rfl ?_|refine WL.ar rfl rfl z45i ?_|refine WL.len rfl rfl rfl ?_|refine WL.ixs rfl rfl zqs ?_|refine W.condT rfl ?_|refine W.condF rfl ?_)
   (first|refine (?_:W _ _ _ _ _)|refine (?_:WL _ _ _ _ _ _)|skip)
   try dsimp only [St.put,Nat.reduceAdd]
   refine W.tr (Tr.nilC 1 0 3 rfl rfl rfl) ?_
   refine W.tr (Tr.nilC 1 1 1 rfl rfl rfl) ?_
   exact W.ret (finN rfl rfl rfl rfl)
 by_cases hb:b < -127∨127 < b
 ·have e:tnX cs st c b=1:=by unfold tnX;rw [if_neg (fun h=>h hi),if_neg hr,if_pos hb]
  obtain ⟨e1,e2⟩:=hEmp (by rw [e];decide)
  rw [e1,e2,e]
  obtain ⟨CS,hCS⟩:∃ z,cs.map eCrs=z:=⟨_,rfl⟩
  rw [hCS] at hI hCl ⊢
  have hb2:b < -127∨(¬ b < -127∧127 < b):=by omega
  rcases hb2 with hb2|hb2
  all_goals
   refine zqe Tryz.func83 Tryz.ntmps83 fun w0 F0=>?_;dsimp only [St.init,number,Nat.reduceAdd]
   repeat (first|refine WL.vl rfl (WV.nch rfl rfl) ?_|refine W.gob rfl ?_|refine WL.nil ?_|refine WL.bt rfl rfl rfl zqo ?_|refine WL.bf rfl rfl rfl zqo ?_|refine WL.nt rfl rfl rfl zqo ?_|refine WL.nf rfl rfl rfl zqo ?_|refine WL.e1 rfl ?_|refine WL.gyes rfl rfl rfl rfl ?_|refine WL.opno rfl rfl rfl rfl rfl rfl rfl ?_|refine WL.ar rfl rfl z45i ?_|refine WL.len rfl rfl rfl ?_|refine WL.ixs rfl rfl zqs ?_|refine W.condT rfl ?_|refine W.condF rfl ?_)
   (first|refine (?_:W _ _ _ _ _)|refine (?_:WL _ _ _ _ _ _)|skip)
   try dsimp only [St.put,Nat.reduceAdd]
   refine WL.vl rfl (zqc Tryz.func93 hI) ?_
   repeat (first|refine WL.vl rfl (WV.nch rfl rfl) ?_|refine W.gob rfl ?_|refine WL.nil ?_|refine WL.bt rfl rfl rfl zqo ?_|refine WL.bf rfl rfl rfl zqo ?_|refine WL.nt rfl rfl rfl zqo ?_|refine WL.nf rfl rfl rfl zqo ?_|refine WL.e1 rfl ?_|refine WL.gyes rfl rfl rfl rfl ?_|refine WL.opno rfl rfl rfl rfl rfl rfl rfl ?_|refine WL.ar rfl rfl z45i ?_|refine WL.len rfl rfl rfl ?_|refine WL.ixs rfl rfl zqs ?_|refine W.condT rfl ?_|refine W.condF rfl ?_)
   (first|refine (?_:W _ _ _ _ _)|refine (?_:WL _ _ _ _ _ _)|skip)
   try dsimp only [St.put,Nat.reduceAdd]
   refine W.tr (Tr.nilC 1 0 3 rfl rfl rfl) ?_
   refine W.tr (Tr.nilC 1 1 1 rfl rfl rfl) ?_
   exact W.ret (finN rfl rfl rfl rfl)
 have e:tnX cs st c b=insE (tnC cs c b) st:=by unfold tnX;rw [if_neg (fun h=>h hi),if_neg hr,if_neg hb]
 have hc:1≤c∧c≤cs.length:=by omega
 have hR:=uRetd_FS (tnC cs c b) st
 rw [← e] at hR
 have hR:Ctr Tryz.prog 123 [.ag [.ls 3 ((tnC cs c b).map eCrs),.ls 1 (st.map eInt)]] (.tu [.ag [.ls 3 ((tnCs cs st c b).map eCrs),.ls 1 ((tnSt cs st c b).map eInt)],.sc (.int .i64 (tnX cs st c b))]):=hR
 have hrow:=fretsOf_row (cs:=cs) hc
 have hset:=tnC_map (b:=b) hc
 have hp:0≤(cs.getD (c.toNat - 1) (0,0,false)).1∧(cs.getD (c.toNat - 1) (0,0,false)).1≤127:=by
  have hk:c.toNat - 1 < cs.length:=by omega
  rw [List.getD_eq_getElem?_getD,List.getElem?_eq_getElem hk]
  exact yCrsE_p l5 _ hk
 obtain ⟨P,hP⟩:∃ z,(cs.getD (c.toNat - 1) (0,0,false)).1=z:=⟨_,rfl⟩
 rw [hP] at hrow hset hp
 obtain ⟨CS,hCS⟩:∃ z,cs.map eCrs=z:=⟨_,rfl⟩
 rw [hCS] at hI hCl hcl hrow hset ⊢
 obtain ⟨X,hX⟩:∃ z,tnX cs st c b=z:=⟨_,rfl⟩
 rw [hX] at hR ⊢
 clear hX e hEmp
 refine zqe Tryz.func83 Tryz.ntmps83 fun w0 F0=>?_;dsimp only [St.init,number,Nat.reduceAdd]
 repeat (first|refine WL.vl rfl (WV.nch rfl rfl) ?_|refine W.gob rfl ?_|refine WL.nil ?_|refine WL.bt rfl rfl rfl zqo ?_|refine WL.bf rfl rfl rfl zqo ?_|refine WL.nt rfl rfl rfl zqo ?_|refine WL.nf rfl rfl rfl zqo ?_|refine WL.e1 rfl ?_|refine WL.gyes rfl rfl rfl rfl ?_|refine WL.opno rfl rfl rfl rfl rfl rfl rfl ?_|refine WL.ar rfl rfl z45i ?_|refine WL.len rfl rfl rfl ?_|refine WL.ixs rfl rfl zqs ?_|refine W.condT rfl ?_|refine W.condF rfl ?_)
 (first|refine (?_:W _ _ _ _ _)|refine (?_:WL _ _ _ _ _ _)|skip)
 try dsimp only [St.put,Nat.reduceAdd]
 refine WL.vl rfl (zqc Tryz.func93 hI) ?_
 repeat (first|refine WL.vl rfl (WV.nch rfl rfl) ?_|refine W.gob rfl ?_|refine WL.nil ?_|refine WL.bt rfl rfl rfl zqo ?_|refine WL.bf rfl rfl rfl zqo ?_|refine WL.nt rfl rfl rfl zqo ?_|refine WL.nf rfl rfl rfl zqo ?_|refine WL.e1 rfl ?_|refine WL.gyes rfl rfl rfl rfl ?_|refine WL.opno rfl rfl rfl rfl rfl rfl rfl ?_|refine WL.ar rfl rfl z45i ?_|refine WL.len rfl rfl rfl ?_|refine WL.ixs rfl rfl zqs ?_|refine W.condT rfl ?_|refine W.condF rfl ?_)
 (first|refine (?_:W _ _ _ _ _)|refine (?_:WL _ _ _ _ _ _)|skip)
 try dsimp only [St.put,Nat.reduceAdd]
 refine WL.cto (truH _) [] rfl rfl (callF Tryz.func117 rfl rfl) hcl rfl rfl rfl trivial rfl rfl rfl rfl ?_
 repeat (first|refine WL.vl rfl (WV.nch rfl rfl) ?_|refine W.gob rfl ?_|refine WL.nil ?_|refine WL.bt rfl rfl rfl zqo ?_|refine WL.bf rfl rfl rfl zqo ?_|refine WL.nt rfl rfl rfl zqo ?_|refine WL.nf rfl rfl rfl zqo ?_|refine WL.e1 rfl ?_|refine WL.gyes rfl rfl rfl rfl ?_|refine WL.opno rfl rfl rfl rfl rfl rfl rfl ?_|refine WL.ar rfl rfl z45i ?_|refine WL.len rfl rfl rfl ?_|refine WL.ixs rfl rfl zqs ?_|refine W.condT rfl ?_|refine W.condF rfl ?_)
 (first|refine (?_:W _ _ _ _ _)|refine (?_:WL _ _ _ _ _ _)|skip)
 try dsimp only [St.put,Nat.reduceAdd]
 refine WL.ldr rfl rfl hrow rfl rfl ?_
 repeat (first|refine WL.vl rfl (WV.nch rfl rfl) ?_|refine W.gob rfl ?_|refine WL.nil ?_|refine WL.bt rfl rfl rfl zqo ?_|refine WL.bf rfl rfl rfl zqo ?_|refine WL.nt rfl rfl rfl zqo ?_|refine WL.nf rfl rfl rfl zqo ?_|refine WL.e1 rfl ?_|refine WL.gyes rfl rfl rfl rfl ?_|refine WL.opno rfl rfl rfl rfl rfl rfl rfl ?_|refine WL.ar rfl rfl z45i ?_|refine WL.len rfl rfl rfl ?_|refine WL.ixs rfl rfl zqs ?_|refine W.condT rfl ?_|refine W.condF rfl ?_)
 (first|refine (?_:W _ _ _ _ _)|refine (?_:WL _ _ _ _ _ _)|skip)
 try dsimp only [St.put,Nat.reduceAdd]
 refine WL.sto rfl rfl rfl rfl hrow (by show 0+1≤3;omega) ?_
 dsimp only [AV.cells]
 rw [hset]
 repeat (first|refine WL.vl rfl (WV.nch rfl rfl) ?_|refine W.gob rfl ?_|refine WL.nil ?_|refine WL.bt rfl rfl rfl zqo ?_|refine WL.bf rfl rfl rfl zqo ?_|refine WL.nt rfl rfl rfl zqo ?_|refine WL.nf rfl rfl rfl zqo ?_|refine WL.e1 rfl ?_|refine WL.gyes rfl rfl rfl rfl ?_|refine WL.opno rfl rfl rfl rfl rfl rfl rfl ?_|refine WL.ar rfl rfl z45i ?_|refine WL.len rfl rfl rfl ?_|refine WL.ixs rfl rfl zqs ?_|refine W.condT rfl ?_|refine W.condF rfl ?_)
 (first|refine (?_:W _ _ _ _ _)|refine (?_:WL _ _ _ _ _ _)|skip)
 try dsimp only [St.put,Nat.reduceAdd]
 refine WL.tr (Tr.freeze 2 rfl) ?_
 refine WL.vl rfl (zqc Tryz.func123 hR) ?_
 repeat (first|refine WL.vl rfl (WV.nch rfl rfl) ?_|refine W.gob rfl ?_|refine WL.nil ?_|refine WL.bt rfl rfl rfl zqo ?_|refine WL.bf rfl rfl rfl zqo ?_|refine WL.nt rfl rfl rfl zqo ?_|refine WL.nf rfl rfl rfl zqo ?_|refine WL.e1 rfl ?_|refine WL.gyes rfl rfl rfl rfl ?_|refine WL.opno rfl rfl rfl rfl rfl rfl rfl ?_|refine WL.ar rfl rfl z45i ?_|refine WL.len rfl rfl rfl ?_|refine WL.ixs rfl rfl zqs ?_|refine W.condT rfl ?_|refine W.condF rfl ?_)
 (first|refine (?_:W _ _ _ _ _)|refine (?_:WL _ _ _ _ _ _)|skip)
 try dsimp only [St.put,Nat.reduceAdd]
 exact W.ret (finN rfl rfl rfl rfl)
def rtV (p:Pce)(c b:Int):List AV:=[.pr [.sc (.int .i64 c)],.pr [.ls 3 (p.cs.map eCrs),.ls 1 (p.st.map eInt),.ls 6 (p.evs.map eEv)],.pr [.ls 3 ((tnC p.cs c b).map eCrs),.ls 1 (p.st.map eInt)]]
theorem retune1_FS (p:Pce) (c b:Int) (hX:tnX p.cs p.st c b=0) (x:Stp) (hx:1≤x.1∧x.1≤p.cs.length) (hf:0≤x.2.1∧x.2.1≤fretsOf p.cs x.1) :
  Cto truB 0 Tryz.prog 84 (.pt 0 0 0::rtV p c b) [(0,.box 48 (eStp x))] 1 (.sc (.bool (!((rtC p.cs (tnC p.cs c b) p.st c).ch x).2)))
   [(0,.box 48 (eStp ((rtC p.cs (tnC p.cs c b) p.st c).ch x).1))] 1:=by
 obtain ⟨hI,hc,hb,hI2⟩:=tnX_0 hX
 have hE:eStp x=[.sc (.int .i64 x.1),.sc (.int .i64 x.2.1),.sc (.int .i64 x.2.2.1),.sc (.int .i64 x.2.2.2.1),.sc (.int .i64 x.2.2.2.2)]:=rfl
 have hE2:∀ z:Int,eStp (x.1,z,x.2.2)=[.sc (.int .i64 x.1),.sc (.int .i64 z),.sc (.int .i64 x.2.2.1),.sc (.int .i64 x.2.2.2.1),.sc (.int .i64 x.2.2.2.2)]:=fun _=>rfl
 have hch:(rtC p.cs (tnC p.cs c b) p.st c).ch x=if x.1=c then rtF p.cs (tnC p.cs c b) p.st c x else (x,false):=rfl
 unfold rtV
 by_cases hxc:x.1=c
 rotate_left
 ·rw [hch,if_neg hxc,hE]
  refine Cto.intro truS Tryz.func84 rfl Tryz.ntmps84 (Nat.le_of_ble_eq_true rfl) rfl fun w0 F0 fp pg hB=>?_
  dsimp only [number,Nat.reduceAdd]
  repeat (first|refine WL.vl rfl (WV.nch rfl rfl) ?_|refine W.gob rfl ?_|refine WL.nil ?_|refine WL.bt rfl rfl rfl zqo ?_|refine WL.bf rfl rfl rfl zqo ?_|refine WL.e1 rfl ?_|refine WL.gyes rfl rfl rfl rfl ?_|refine WL.ar rfl rfl z45i ?_|refine W.condT rfl ?_|refine W.condF rfl ?_)
  (first|refine (?_:W _ _ _ _ _)|refine (?_:WL _ _ _ _ _ _)|skip)
  try dsimp only [St.put,Nat.reduceAdd]
  refine W.drawK zqk zqk ?_
  repeat (first|refine DK.vl rfl (WV.nch rfl rfl) ?_|refine DK.ff rfl (by first|(simp;done)|fail) ?_|refine DK.st rfl ?_|refine DK.nil ?_)
  rw [decide_eq_false hxc]
  repeat (first|refine WL.vl rfl (WV.nch rfl rfl) ?_|refine W.gob rfl ?_|refine WL.nil ?_|refine WL.bt rfl rfl rfl zqo ?_|refine WL.bf rfl rfl rfl zqo ?_|refine WL.e1 rfl ?_|refine WL.gyes rfl rfl rfl rfl ?_|refine WL.ar rfl rfl z45i ?_|refine W.condT rfl ?_|refine W.condF rfl ?_)
  (first|refine (?_:W _ _ _ _ _)|refine (?_:WL _ _ _ _ _ _)|skip)
  try dsimp only [St.put,Nat.reduceAdd]
  exact W.ret (finM rfl rfl rfl rfl rfl)
 rw [hch,if_pos hxc]
 have hAt:=pAt_FS p.cs p.st c x.2.1 hI hc (by rw [← hxc];exact hf)
 have hAt:Ctr Tryz.prog 85 [.ag [.ls 3 (p.cs.map eCrs),.ls 1 (p.st.map eInt)],.ag [.sc (.int .i64 c),.sc (.int .i64 x.2.1)]] (.tu [.sc (.int .i64 (pitN p.cs p.st c x.2.1)),.sc (.int .i64 0)]):=hAt
 have hc2:1≤c∧c≤(tnC p.cs c b).length:=by rw [tnC_len];exact hc
 have hn:=fretsOf_nn hI2 hc2
 obtain ⟨l1,l2,l3,l4,l5⟩:=insE_len hI2
 have hAt2:∀ k:Nat,(k:Int)≤fretsOf (tnC p.cs c b) c→Ctr Tryz.prog 85 [.ag [.ls 3 ((tnC p.cs c b).map eCrs),.ls 1 (p.st.map eInt)],.ag [.sc (.int .i64 c),.sc (.int .i64 (k:Int))]] (.tu [.sc (.int .i64 (pitN (tnC p.cs c b) p.st c (k:Int))),.sc (.int .i64 0)]):=fun k hk =>
  pAt_FS (tnC p.cs c b) p.st c (k:Int) hI2 hc2 ⟨by omega,hk⟩
 have hrow:=fretsOf_row (cs:=tnC p.cs c b) hc2
 have hTl:((tnC p.cs c b).map eCrs).length=p.cs.length:=by rw [List.length_map,tnC_len]
 have hhit:=fun k=>frN_hit (cs:=tnC p.cs c b) (st:=p.st) (c:=c) (q:=pitN p.cs p.st c x.2.1) (k:=k)
 have hmiss:=frN_miss (cs:=tnC p.cs c b) (st:=p.st) (c:=c) (q:=pitN p.cs p.st c x.2.1)
 have hZ1:∀ k:Nat,frN (tnC p.cs c b) p.st c (pitN p.cs p.st c x.2.1)=some k→rtF p.cs (tnC p.cs c b) p.st c x=((x.1,(k:Int),x.2.2),false):=fun k h=>by unfold rtF;rw [h]
 have hZ0:frN (tnC p.cs c b) p.st c (pitN p.cs p.st c x.2.1)=none→rtF p.cs (tnC p.cs c b) p.st c x=(x,true):=fun h=>by unfold rtF;rw [h]
 obtain ⟨Z,hZ⟩:∃ z,rtF p.cs (tnC p.cs c b) p.st c x=z:=⟨_,rfl⟩
 rw [hZ] at hZ0 ⊢
 simp only [hZ] at hZ1
 clear hZ
 obtain ⟨q,hq⟩:∃ z,pitN p.cs p.st c x.2.1=z:=⟨_,rfl⟩
 rw [hq] at hAt hmiss hZ0
 simp only [hq] at hhit hZ1
 obtain ⟨T,hT⟩:∃ z,tnC p.cs c b=z:=⟨_,rfl⟩
 rw [hT] at hn hrow hTl hmiss hZ0 ⊢
 simp only [hT] at hAt2 hhit hZ1
 obtain ⟨TE,hTE⟩:∃ z,T.map eCrs=z:=⟨_,rfl⟩
 rw [hTE] at hrow hTl ⊢
 simp only [hTE] at hAt2
 obtain ⟨F,hF⟩:∃ z,fretsOf T c=z:=⟨_,rfl⟩
 rw [hF] at hn hrow hmiss
 simp only [hF] at hAt2 hhit
 subst hxc
 rw [hE]
 refine Cto.intro truS Tryz.func84 rfl Tryz.ntmps84 (Nat.le_of_ble_eq_true rfl) rfl fun w0 F0 fp pg hB=>?_
 dsimp only [number,Nat.reduceAdd]
 repeat (first|refine WL.vl rfl (WV.nch rfl rfl) ?_|refine W.gob rfl ?_|refine WL.nil ?_|refine WL.bt rfl rfl rfl zqo ?_|refine WL.bf rfl rfl rfl zqo ?_|refine WL.e1 rfl ?_|refine WL.gyes rfl rfl rfl rfl ?_|refine WL.ar rfl rfl z45i ?_|refine W.condT rfl ?_|refine W.condF rfl ?_)
 (first|refine (?_:W _ _ _ _ _)|refine (?_:WL _ _ _ _ _ _)|skip)
 try dsimp only [St.put,Nat.reduceAdd]
 refine W.drawK zqk zqk ?_
 repeat (first|refine DK.vl rfl (WV.nch rfl rfl) ?_|refine DK.ff rfl (by first|(simp;done)|fail) ?_|refine DK.st rfl ?_|refine DK.nil ?_)
 repeat (first|refine WL.vl rfl (WV.nch rfl rfl) ?_|refine W.gob rfl ?_|refine WL.nil ?_|refine WL.bt rfl rfl rfl zqo ?_|refine WL.bf rfl rfl rfl zqo ?_|refine WL.e1 rfl ?_|refine WL.gyes rfl rfl rfl rfl ?_|refine WL.ar rfl rfl z45i ?_|refine W.condT rfl ?_|refine W.condF rfl ?_)
 (first|refine (?_:W _ _ _ _ _)|refine (?_:WL _ _ _ _ _ _)|skip)
 try dsimp only [St.put,Nat.reduceAdd]
 refine W.drawK zqk zqk ?_
 repeat (first|refine DK.vl rfl (WV.nch rfl rfl) ?_|refine DK.st rfl ?_|refine DK.vl rfl (zqc Tryz.func85 hAt) ?_|refine DK.nil ?_)
 repeat (first|refine WL.vl rfl (WV.nch rfl rfl) ?_|refine W.gob rfl ?_|refine WL.nil ?_|refine WL.bt rfl rfl rfl zqo ?_|refine WL.bf rfl rfl rfl zqo ?_|refine WL.e1 rfl ?_|refine WL.gyes rfl rfl rfl rfl ?_|refine WL.ar rfl rfl z45i ?_|refine W.condT rfl ?_|refine W.condF rfl ?_)
 (first|refine (?_:W _ _ _ _ _)|refine (?_:WL _ _ _ _ _ _)|skip)
 try dsimp only [St.put,Nat.reduceAdd]
 refine W.loop (fun k:Nat=>(k:Int)≤F+1∧∀ g,g < k→pitN T p.st x.1 (g:Nat)≠q) (fun k=>⟨[(0,.pt 0 0 0),(1,.pr [.sc (.int .i64 x.1)]),(3,.pr [.ls 3 TE,.ls 1 (p.st.map eInt)]),(6,.sc (.int .i64 q)),(8,.sc (.int .i64 k))],[(0,.box 48 [.sc (.int .i64 x.1),.sc (.int .i64 x.2.1),.sc (.int .i64 x.2.2.1),.sc (.int .i64 x.2.2.2.1),.sc (.int .i64 x.2.2.2.2)])],1⟩) (fun k=>F.toNat+1 - k) 0 ⟨by omega,fun g h=>absurd h (Nat.not_lt_zero _)⟩ (zqt id) fun k hk=>?_
 obtain ⟨hk,hno⟩:=hk
 by_cases hkF:(k:Int)≤F
 ·have gA:=hAt2 k hkF
  have hh:=hhit k hkF hno
  have hnx:pitN T p.st x.1 (k:Nat)≠q→∀ g,g < k+1→pitN T p.st x.1 (g:Nat)≠q:=fun h g hg=>by
   by_cases e:g=k
   ·subst e;exact h
   ·exact hno g zqo
  obtain ⟨r,hr⟩:∃ z,pitN T p.st x.1 (k:Int)=z:=⟨_,rfl⟩
  rw [hr] at gA hh hnx
  clear hAt2 hhit hmiss hno
  by_cases he:r=q
  ·obtain rfl:=hZ1 k (hh he)
   clear hZ1 hZ0
   repeat (first|refine WL.vl rfl (WV.nch rfl rfl) ?_|refine W.gob rfl ?_|refine WL.nil ?_|refine WL.bt rfl rfl rfl zqo ?_|refine WL.bf rfl rfl rfl zqo ?_|refine WL.e1 rfl ?_|refine WL.gyes rfl rfl rfl rfl ?_|refine WL.ar rfl rfl z45i ?_|refine W.condT rfl ?_|refine W.condF rfl ?_)
   (first|refine (?_:W _ _ _ _ _)|refine (?_:WL _ _ _ _ _ _)|skip)
   try dsimp only [St.put,Nat.reduceAdd]
   refine WL.idx rfl rfl zqo hrow ?_
   repeat (first|refine WL.vl rfl (WV.nch rfl rfl) ?_|refine W.gob rfl ?_|refine WL.nil ?_|refine WL.bt rfl rfl rfl zqo ?_|refine WL.bf rfl rfl rfl zqo ?_|refine WL.e1 rfl ?_|refine WL.gyes rfl rfl rfl rfl ?_|refine WL.ar rfl rfl z45i ?_|refine W.condT rfl ?_|refine W.condF rfl ?_)
   (first|refine (?_:W _ _ _ _ _)|refine (?_:WL _ _ _ _ _ _)|skip)
   try dsimp only [St.put,Nat.reduceAdd]
   refine WL.vl rfl (zqc Tryz.func85 gA) ?_
   repeat (first|refine WL.vl rfl (WV.nch rfl rfl) ?_|refine W.gob rfl ?_|refine WL.nil ?_|refine WL.bt rfl rfl rfl zqo ?_|refine WL.bf rfl rfl rfl zqo ?_|refine WL.e1 rfl ?_|refine WL.gyes rfl rfl rfl rfl ?_|refine WL.ar rfl rfl z45i ?_|refine W.condT rfl ?_|refine W.condF rfl ?_)
   (first|refine (?_:W _ _ _ _ _)|refine (?_:WL _ _ _ _ _ _)|skip)
   try dsimp only [St.put,Nat.reduceAdd]
   exact W.ret (finM rfl rfl rfl rfl rfl)
  ·have hn2:=hnx he
   repeat (first|refine WL.vl rfl (WV.nch rfl rfl) ?_|refine W.gob rfl ?_|refine WL.nil ?_|refine WL.bt rfl rfl rfl zqo ?_|refine WL.bf rfl rfl rfl zqo ?_|refine WL.e1 rfl ?_|refine WL.gyes rfl rfl rfl rfl ?_|refine WL.ar rfl rfl z45i ?_|refine W.condT rfl ?_|refine W.condF rfl ?_)
   (first|refine (?_:W _ _ _ _ _)|refine (?_:WL _ _ _ _ _ _)|skip)
   try dsimp only [St.put,Nat.reduceAdd]
   refine WL.idx rfl rfl zqo hrow ?_
   repeat (first|refine WL.vl rfl (WV.nch rfl rfl) ?_|refine W.gob rfl ?_|refine WL.nil ?_|refine WL.bt rfl rfl rfl zqo ?_|refine WL.bf rfl rfl rfl zqo ?_|refine WL.e1 rfl ?_|refine WL.gyes rfl rfl rfl rfl ?_|refine WL.ar rfl rfl z45i ?_|refine W.condT rfl ?_|refine W.condF rfl ?_)
   (first|refine (?_:W _ _ _ _ _)|refine (?_:WL _ _ _ _ _ _)|skip)
   try dsimp only [St.put,Nat.reduceAdd]
   refine WL.vl rfl (zqc Tryz.func85 gA) ?_
   repeat (first|refine WL.vl rfl (WV.nch rfl rfl) ?_|refine W.gob rfl ?_|refine WL.nil ?_|refine WL.bt rfl rfl rfl zqo ?_|refine WL.bf rfl rfl rfl zqo ?_|refine WL.e1 rfl ?_|refine WL.gyes rfl rfl rfl rfl ?_|refine WL.ar rfl rfl z45i ?_|refine W.condT rfl ?_|refine W.condF rfl ?_)
   (first|refine (?_:W _ _ _ _ _)|refine (?_:WL _ _ _ _ _ _)|skip)
   try dsimp only [St.put,Nat.reduceAdd]
   exact ⟨k+1,⟨by omega,hn2⟩,by omega,(zqt id)⟩
 ·have hm:=hmiss (fun g hg=>hno g zqo) hn.1
  obtain rfl:=hZ0 hm
  clear hAt2 hhit hmiss hno
  repeat (first|refine WL.vl rfl (WV.nch rfl rfl) ?_|refine W.gob rfl ?_|refine WL.nil ?_|refine WL.bt rfl rfl rfl zqo ?_|refine WL.bf rfl rfl rfl zqo ?_|refine WL.e1 rfl ?_|refine WL.gyes rfl rfl rfl rfl ?_|refine WL.ar rfl rfl z45i ?_|refine W.condT rfl ?_|refine W.condF rfl ?_)
  (first|refine (?_:W _ _ _ _ _)|refine (?_:WL _ _ _ _ _ _)|skip)
  try dsimp only [St.put,Nat.reduceAdd]
  refine WL.idx rfl rfl zqo hrow ?_
  repeat (first|refine WL.vl rfl (WV.nch rfl rfl) ?_|refine W.gob rfl ?_|refine WL.nil ?_|refine WL.bt rfl rfl rfl zqo ?_|refine WL.bf rfl rfl rfl zqo ?_|refine WL.e1 rfl ?_|refine WL.gyes rfl rfl rfl rfl ?_|refine WL.ar rfl rfl z45i ?_|refine W.condT rfl ?_|refine W.condF rfl ?_)
  (first|refine (?_:W _ _ _ _ _)|refine (?_:WL _ _ _ _ _ _)|skip)
  try dsimp only [St.put,Nat.reduceAdd]
  exact W.ret (finM rfl rfl rfl rfl rfl)
theorem movR_FS (p:Pce) (c b:Int) (hX:tnX p.cs p.st c b=0) (l:List Stp) (hl:l.length≤20) (hb:∀ k (h:k < l.length),(1≤l[k].1∧l[k].1≤p.cs.length)∧(0≤l[k].2.1∧l[k].2.1≤fretsOf p.cs l[k].1)) :
  Ctr Tryz.prog 118 [.ls 5 (l.map eStp),.pr [.fn 84 (rtV p c b)]] (.ls 6 ((l.map (rtC p.cs (tnC p.cs c b) p.st c).ch).map eKp)):=by
 have hRv:rtV p c b=[.pr [.sc (.int .i64 c)],.pr [.ls 3 (p.cs.map eCrs),.ls 1 (p.st.map eInt),.ls 6 (p.evs.map eEv)],.pr [.ls 3 ((tnC p.cs c b).map eCrs),.ls 1 (p.st.map eInt)]]:=rfl
 have hG:=fun k (h:k < l.length)=>retune1_FS p c b hX l[k] (hb k h).1 (hb k h).2
 rw [hRv] at hG ⊢
 obtain ⟨TE,hTE⟩:∃ z,(tnC p.cs c b).map eCrs=z:=⟨_,rfl⟩
 rw [hTE] at hG ⊢
 obtain ⟨D,hD⟩:∃ z,(rtC p.cs (tnC p.cs c b) p.st c).ch=z:=⟨_,rfl⟩
 rw [hD] at hG ⊢
 refine zqe Tryz.func118 Tryz.ntmps118 fun w0 F0=>?_;dsimp only [St.init,number,Nat.reduceAdd]
 repeat (first|refine W.go rfl ?_|refine WL.nil ?_|refine WL.ev rfl ?_|refine WL.ar rfl rfl z45i ?_|refine WL.len rfl rfl zql ?_|refine WL.idx rfl rfl zqo zqm ?_|refine WL.app rfl rfl rfl zqs ?_|refine W.condT rfl ?_|refine W.condF rfl ?_)
 (first|refine (?_:W _ _ _ _ _)|refine (?_:WL _ _ _ _ _ _)|skip)
 try dsimp only [St.put,Nat.reduceAdd]
 refine W.tr (Tr.nil (t:=4) 91 6 rfl rfl) ?_
 dsimp only [St.put,St.new,St.upd,Nat.reduceAdd]
 repeat (first|refine W.go rfl ?_|refine WL.nil ?_|refine WL.ev rfl ?_|refine WL.ar rfl rfl z45i ?_|refine WL.len rfl rfl zql ?_|refine WL.idx rfl rfl zqo zqm ?_|refine WL.app rfl rfl rfl zqs ?_|refine W.condT rfl ?_|refine W.condF rfl ?_)
 (first|refine (?_:W _ _ _ _ _)|refine (?_:WL _ _ _ _ _ _)|skip)
 try dsimp only [St.put,Nat.reduceAdd]
 refine W.loop (fun k:Nat=>k≤l.length) (fun k=>⟨[(1,.pr [.fn 84 [.pr [.sc (.int .i64 c)],.pr [.ls 3 (p.cs.map eCrs),.ls 1 (p.st.map eInt),.ls 6 (p.evs.map eEv)],.pr [.ls 3 TE,.ls 1 (p.st.map eInt)]]]),(4,.sl 0),(8,.ls 5 (l.map eStp)),(9,.sc (.int .i64 l.length)),(10,.sc (.int .i64 k))],[(0,.row 91 6 (((l.take k).map D).map eKp))],1⟩) (fun k=>l.length - k) 0 zqo (zqt id) fun k hk=>?_
 by_cases hlt:k < l.length
 ·have hC:=hG k hlt
  have hrow:((l.take k).map D).map eKp++[eKp ((D l[k]).1,(D l[k]).2)]=((l.take (k+1)).map D).map eKp:=by
   rw [List.take_succ_eq_append_getElem hlt,List.map_append,List.map_append];rfl
  have hRl:(((l.take k).map D).map eKp).length=k:=by rw [List.length_map,List.length_map,List.length_take];omega
  obtain ⟨R,hR⟩:∃ z,((l.take k).map D).map eKp=z:=⟨_,rfl⟩
  rw [hR] at hrow hRl ⊢
  obtain ⟨Y,hY⟩:∃ z,(D l[k]).1=z:=⟨_,rfl⟩
  rw [hY] at hC hrow
  obtain ⟨bb,hb2⟩:∃ z,(D l[k]).2=z:=⟨_,rfl⟩
  rw [hb2] at hC hrow
  clear hG
  cases bb
  all_goals
   repeat (first|refine W.gob rfl ?_|refine WL.nil ?_|refine WL.bt rfl rfl rfl zqo ?_|refine WL.bf rfl rfl rfl zqo ?_|refine WL.e1 rfl ?_|refine WL.ar rfl rfl z45i ?_|refine WL.len rfl rfl zql ?_|refine WL.idx rfl rfl zqo zqm ?_|refine WL.app rfl rfl rfl zqs ?_|refine W.condT rfl ?_|refine W.condF rfl ?_)
   (first|refine (?_:W _ _ _ _ _)|refine (?_:WL _ _ _ _ _ _)|skip)
   try dsimp only [St.put,Nat.reduceAdd]
   refine WL.cto (truH _) [1] rfl rfl (callF Tryz.func84 rfl rfl) hC rfl rfl rfl ⟨⟨rfl,rfl,rfl⟩,trivial⟩ rfl rfl rfl rfl ?_
   repeat (first|refine W.gob rfl ?_|refine WL.nil ?_|refine WL.bt rfl rfl rfl zqo ?_|refine WL.bf rfl rfl rfl zqo ?_|refine WL.e1 rfl ?_|refine WL.ar rfl rfl z45i ?_|refine WL.len rfl rfl zql ?_|refine WL.idx rfl rfl zqo zqm ?_|refine WL.app rfl rfl rfl zqs ?_|refine W.condT rfl ?_|refine W.condF rfl ?_)
   (first|refine (?_:W _ _ _ _ _)|refine (?_:WL _ _ _ _ _ _)|skip)
   try dsimp only [St.put,Nat.reduceAdd]
   exact ⟨k+1,by omega,by omega,(zqu (fun q=>bif Nat.beq q 0 then 3 else q) (by repeat (first|exact trivial|refine ⟨⟨?_,?_,?_⟩,?_⟩|rfl|exact congrArg (fun q=>some (AO.row _ _ q)) hrow)) rfl)⟩
 ·obtain rfl:k=l.length:=by omega
  rw [List.take_length]
  repeat (first|refine W.gob rfl ?_|refine WL.nil ?_|refine WL.bt rfl rfl rfl zqo ?_|refine WL.bf rfl rfl rfl zqo ?_|refine WL.e1 rfl ?_|refine WL.ar rfl rfl z45i ?_|refine WL.len rfl rfl zql ?_|refine WL.idx rfl rfl zqo zqm ?_|refine WL.app rfl rfl rfl zqs ?_|refine W.condT rfl ?_|refine W.condF rfl ?_)
  (first|refine (?_:W _ _ _ _ _)|refine (?_:WL _ _ _ _ _ _)|skip)
  try dsimp only [St.put,Nat.reduceAdd]
  refine W.tr (Tr.freeze 0 rfl) ?_
  exact W.ret zqr
theorem movedR_FS (p:Pce) (hO:PcOk p) (h0:pceE p=0) (c b:Int) (hX:tnX p.cs p.st c b=0) :
  Ctr Tryz.prog 72 [ePce p,.ag [.ls 3 ((tnC p.cs c b).map eCrs),.ls 1 (p.st.map eInt)],.fn 84 (rtV p c b)]
   (.tu [ePce ⟨tnC p.cs c b,p.st,fnL (ftH (rtN p c b)) (rtN p c b)⟩,.ls 3 ((lsL (rtC p.cs (tnC p.cs c b) p.st c) (ftH (rtN p c b)) p.evs p.evs.length).map eLk)]):=by
 have hA:=pAppend_FS p hO h0
 have hC:=carryA (rtC p.cs (tnC p.cs c b) p.st c) (fun _=>rfl) (fun _=>rfl) (fun _ _=>rfl) (fun _=>rfl) rtC_crs (tnC p.cs c b) p.st (by rw [tnC_len];exact hO.n1) hO.n2 [.fn 84 (rtV p c b)] p hO h0 fun k hk=>by
  have hE:=evOk_of h0 hk
  refine movR_FS p c b hX p.evs[k].stops (hO.n4 k hk) fun j hj=>?_
  have hS:=hE.stops _ (List.getElem_mem hj)
  exact ⟨hS.crs,hS.fret⟩
 have hRv:rtV p c b=[.pr [.sc (.int .i64 c)],.pr [.ls 3 (p.cs.map eCrs),.ls 1 (p.st.map eInt),.ls 6 (p.evs.map eEv)],.pr [.ls 3 ((tnC p.cs c b).map eCrs),.ls 1 (p.st.map eInt)]]:=rfl
 rw [hRv] at hC ⊢
 have hPe:ePce p=.ag [.ls 3 (p.cs.map eCrs),.ls 1 (p.st.map eInt),.ls 6 (p.evs.map eEv)]:=rfl
 rw [hPe] at hA hC ⊢
 show Ctr Tryz.prog 72 _ (.tu [ePce ⟨tnC p.cs c b,p.st,fnL (ftH (nwL (rtC p.cs (tnC p.cs c b) p.st c) p.evs)) (nwL (rtC p.cs (tnC p.cs c b) p.st c) p.evs)⟩,.ls 3 ((lsL (rtC p.cs (tnC p.cs c b) p.st c) (ftH (nwL (rtC p.cs (tnC p.cs c b) p.st c) p.evs)) p.evs p.evs.length).map eLk)])
 obtain ⟨R,hR⟩:∃ z,ePce ⟨tnC p.cs c b,p.st,fnL (ftH (nwL (rtC p.cs (tnC p.cs c b) p.st c) p.evs)) (nwL (rtC p.cs (tnC p.cs c b) p.st c) p.evs)⟩=z:=⟨_,rfl⟩
 have hRe:R=.ag [.ls 3 ((tnC p.cs c b).map eCrs),.ls 1 (p.st.map eInt),.ls 6 ((fnL (ftH (nwL (rtC p.cs (tnC p.cs c b) p.st c) p.evs)) (nwL (rtC p.cs (tnC p.cs c b) p.st c) p.evs)).map eEv)]:=hR.symm
 rw [hR] at hC ⊢
 rw [hRe] at hC ⊢
 obtain ⟨RE,hRE⟩:∃ z,(fnL (ftH (nwL (rtC p.cs (tnC p.cs c b) p.st c) p.evs)) (nwL (rtC p.cs (tnC p.cs c b) p.st c) p.evs)).map eEv=z:=⟨_,rfl⟩
 obtain ⟨RL,hRL⟩:∃ z,(lsL (rtC p.cs (tnC p.cs c b) p.st c) (ftH (nwL (rtC p.cs (tnC p.cs c b) p.st c) p.evs)) p.evs p.evs.length).map eLk=z:=⟨_,rfl⟩
 obtain ⟨TE,hTE⟩:∃ z,(tnC p.cs c b).map eCrs=z:=⟨_,rfl⟩
 rw [hRE,hRL,hTE] at hC ⊢
 clear hR hRe hRE hRL hTE
 refine zqe Tryz.func72 Tryz.ntmps72 fun w0 F0=>?_;dsimp only [St.init,number,Nat.reduceAdd]
 repeat (first|refine W.go rfl ?_|refine WL.ev rfl ?_)
 (first|refine (?_:W _ _ _ _ _)|refine (?_:WL _ _ _ _ _ _)|skip)
 try dsimp only [St.put,Nat.reduceAdd]
 refine WL.vl rfl (WV.mkf rfl rfl) ?_
 repeat (first|refine W.go rfl ?_|refine WL.ev rfl ?_)
 (first|refine (?_:W _ _ _ _ _)|refine (?_:WL _ _ _ _ _ _)|skip)
 try dsimp only [St.put,Nat.reduceAdd]
 refine WL.tr (Tr.nilA (t:=18) 2 6 rfl rfl rfl rfl) ?_
 refine WL.vl rfl (zqc Tryz.func49 hA) ?_
 repeat (first|refine W.go rfl ?_|refine WL.ev rfl ?_)
 (first|refine (?_:W _ _ _ _ _)|refine (?_:WL _ _ _ _ _ _)|skip)
 try dsimp only [St.put,Nat.reduceAdd]
 refine WL.tr (Tr.freezeB 2 rfl rfl) ?_
 refine WL.vl rfl (zqc Tryz.func57 hC) ?_
 repeat (first|refine W.go rfl ?_|refine WL.ev rfl ?_)
 (first|refine (?_:W _ _ _ _ _)|refine (?_:WL _ _ _ _ _ _)|skip)
 try dsimp only [St.put,Nat.reduceAdd]
 exact W.ret (finN rfl rfl rfl rfl)
theorem pRetune_FS (p:Pce) (hO:PcOk p) (c b:Int):Ctr Tryz.prog 39 [ePce p,.sc (.int .i64 c),.sc (.int .i64 b)] (.tu [ePce (rtP p c b),.ls 3 ((rtL p c b).map eLk),.sc (.int .i64 (rtE p c b))]):=by
 have hC:=pCheck_FS p hO
 have hPe:ePce p=.ag [.ls 3 (p.cs.map eCrs),.ls 1 (p.st.map eInt),.ls 6 (p.evs.map eEv)]:=rfl
 have hbad:rtE p c b≠0→ePce (rtP p c b)=.ag [.ls 3 [],.ls 1 [],.ls 6 []]∧rtL p c b=[]:=fun h=>⟨by rw [show rtP p c b=noP from if_neg h];rfl,if_neg h⟩
 have hI:=uTune_FS p.cs p.st c b
 by_cases h0:pceE p=0
 rotate_left
 ·have e:rtE p c b=pceE p:=if_pos h0
  obtain ⟨e1,e2⟩:=hbad (by rw [e];exact h0)
  rw [e1,e2,e]
  obtain ⟨E,hE⟩:∃ z,pceE p=z:=⟨_,rfl⟩
  rw [hE] at hC h0 ⊢
  rw [hPe] at hC ⊢
  refine zqe Tryz.func39 Tryz.ntmps39 fun w0 F0=>?_;dsimp only [St.init,number,Nat.reduceAdd]
  repeat (first|refine W.go rfl ?_|refine WL.nil ?_|refine WL.ev rfl ?_|refine W.condT rfl ?_|refine W.condF rfl ?_)
  (first|refine (?_:W _ _ _ _ _)|refine (?_:WL _ _ _ _ _ _)|skip)
  try dsimp only [St.put,Nat.reduceAdd]
  refine WL.vl rfl (zqc Tryz.func45 hC) ?_
  repeat (first|refine W.gob rfl ?_|refine WL.nil ?_|refine WL.nt rfl rfl rfl zqo ?_|refine WL.nf rfl rfl rfl zqo ?_|refine WL.e1 rfl ?_|refine W.condT rfl ?_|refine W.condF rfl ?_)
  (first|refine (?_:W _ _ _ _ _)|refine (?_:WL _ _ _ _ _ _)|skip)
  try dsimp only [St.put,Nat.reduceAdd]
  refine W.tr (Tr.nilC 2 0 3 rfl rfl rfl) ?_
  refine W.tr (Tr.nilC 2 1 1 rfl rfl rfl) ?_
  refine W.tr (Tr.nilC 2 2 6 rfl rfl rfl) ?_
  refine W.tr (Tr.nilLs (t:=7) 3 rfl) ?_
  exact W.ret (finN rfl rfl rfl rfl)
 rw [h0] at hC
 have e:rtE p c b=tnX p.cs p.st c b:=if_neg (fun h=>h h0)
 by_cases hx:tnX p.cs p.st c b=0
 rotate_left
 ·obtain ⟨e1,e2⟩:=hbad (by rw [e];exact hx)
  rw [e1,e2,e]
  obtain ⟨E,hE⟩:∃ z,tnX p.cs p.st c b=z:=⟨_,rfl⟩
  rw [hE] at hI hx ⊢
  rw [hPe] at hC ⊢
  refine zqe Tryz.func39 Tryz.ntmps39 fun w0 F0=>?_;dsimp only [St.init,number,Nat.reduceAdd]
  repeat (first|refine W.go rfl ?_|refine WL.nil ?_|refine WL.ev rfl ?_|refine W.condT rfl ?_|refine W.condF rfl ?_)
  (first|refine (?_:W _ _ _ _ _)|refine (?_:WL _ _ _ _ _ _)|skip)
  try dsimp only [St.put,Nat.reduceAdd]
  refine WL.vl rfl (zqc Tryz.func45 hC) ?_
  repeat (first|refine W.gob rfl ?_|refine WL.nil ?_|refine WL.nt rfl rfl rfl zqo ?_|refine WL.nf rfl rfl rfl zqo ?_|refine WL.e1 rfl ?_|refine W.condT rfl ?_|refine W.condF rfl ?_)
  (first|refine (?_:W _ _ _ _ _)|refine (?_:WL _ _ _ _ _ _)|skip)
  try dsimp only [St.put,Nat.reduceAdd]
  refine WL.vl rfl (zqc Tryz.func83 hI) ?_
  repeat (first|refine W.gob rfl ?_|refine WL.nil ?_|refine WL.nt rfl rfl rfl zqo ?_|refine WL.nf rfl rfl rfl zqo ?_|refine WL.e1 rfl ?_|refine W.condT rfl ?_|refine W.condF rfl ?_)
  (first|refine (?_:W _ _ _ _ _)|refine (?_:WL _ _ _ _ _ _)|skip)
  try dsimp only [St.put,Nat.reduceAdd]
  refine W.tr (Tr.nilC 2 0 3 rfl rfl rfl) ?_
  refine W.tr (Tr.nilC 2 1 1 rfl rfl rfl) ?_
  refine W.tr (Tr.nilC 2 2 6 rfl rfl rfl) ?_
  refine W.tr (Tr.nilLs (t:=7) 3 rfl) ?_
  exact W.ret (finN rfl rfl rfl rfl)
 have hM:=movedR_FS p hO h0 c b hx
 have e1:ePce (rtP p c b)=ePce ⟨tnC p.cs c b,p.st,fnL (ftH (rtN p c b)) (rtN p c b)⟩:=by rw [show rtP p c b=_ from if_pos (e.trans hx)]
 have e2:rtL p c b=lsL (rtC p.cs (tnC p.cs c b) p.st c) (ftH (rtN p c b)) p.evs p.evs.length:=if_pos (e.trans hx)
 have e3:tnCs p.cs p.st c b=tnC p.cs c b:=if_pos hx
 have e4:tnSt p.cs p.st c b=p.st:=if_pos hx
 rw [e1,e2,e,hx]
 rw [hx,e3,e4] at hI
 have hRv:rtV p c b=[.pr [.sc (.int .i64 c)],.pr [.ls 3 (p.cs.map eCrs),.ls 1 (p.st.map eInt),.ls 6 (p.evs.map eEv)],.pr [.ls 3 ((tnC p.cs c b).map eCrs),.ls 1 (p.st.map eInt)]]:=rfl
 rw [hRv] at hM
 obtain ⟨R,hR⟩:∃ z,ePce ⟨tnC p.cs c b,p.st,fnL (ftH (rtN p c b)) (rtN p c b)⟩=z:=⟨_,rfl⟩
 have hRe:R=.ag [.ls 3 ((tnC p.cs c b).map eCrs),.ls 1 (p.st.map eInt),.ls 6 ((fnL (ftH (rtN p c b)) (rtN p c b)).map eEv)]:=hR.symm
 rw [hR] at hM ⊢
 rw [hRe] at hM ⊢
 obtain ⟨RE,hRE⟩:∃ z,(fnL (ftH (rtN p c b)) (rtN p c b)).map eEv=z:=⟨_,rfl⟩
 obtain ⟨RL,hRL⟩:∃ z,(lsL (rtC p.cs (tnC p.cs c b) p.st c) (ftH (rtN p c b)) p.evs p.evs.length).map eLk=z:=⟨_,rfl⟩
 obtain ⟨RC,hRC⟩:∃ z,(tnC p.cs c b).map eCrs=z:=⟨_,rfl⟩
 rw [hRE,hRL,hRC] at hM ⊢
 rw [hRC] at hI
 rw [hPe] at hC hM ⊢
 clear hR hRe hRE hRL hRC
 refine zqe Tryz.func39 Tryz.ntmps39 fun w0 F0=>?_;dsimp only [St.init,number,Nat.reduceAdd]
 repeat (first|refine W.go rfl ?_|refine WL.nil ?_|refine WL.ev rfl ?_|refine W.condT rfl ?_|refine W.condF rfl ?_)
 (first|refine (?_:W _ _ _ _ _)|refine (?_:WL _ _ _ _ _ _)|skip)
 try dsimp only [St.put,Nat.reduceAdd]
 refine WL.vl rfl (zqc Tryz.func45 hC) ?_
 repeat (first|refine W.gob rfl ?_|refine WL.nil ?_|refine WL.nt rfl rfl rfl zqo ?_|refine WL.nf rfl rfl rfl zqo ?_|refine WL.e1 rfl ?_|refine W.condT rfl ?_|refine W.condF rfl ?_)
 (first|refine (?_:W _ _ _ _ _)|refine (?_:WL _ _ _ _ _ _)|skip)
 try dsimp only [St.put,Nat.reduceAdd]
 refine WL.vl rfl (zqc Tryz.func83 hI) ?_
 repeat (first|refine W.gob rfl ?_|refine WL.nil ?_|refine WL.nt rfl rfl rfl zqo ?_|refine WL.nf rfl rfl rfl zqo ?_|refine WL.e1 rfl ?_|refine W.condT rfl ?_|refine W.condF rfl ?_)
 (first|refine (?_:W _ _ _ _ _)|refine (?_:WL _ _ _ _ _ _)|skip)
 try dsimp only [St.put,Nat.reduceAdd]
 refine WL.tr (Tr.freezeB 0 rfl rfl) ?_
 refine WL.tr (Tr.freezeB 1 rfl rfl) ?_
 refine WL.tr (Tr.freezeB 3 rfl rfl) ?_
 repeat (first|refine W.go rfl ?_|refine WL.nil ?_|refine WL.ev rfl ?_|refine W.condT rfl ?_|refine W.condF rfl ?_)
 (first|refine (?_:W _ _ _ _ _)|refine (?_:WL _ _ _ _ _ _)|skip)
 try dsimp only [St.put,Nat.reduceAdd]
 refine WL.vl rfl (WV.mkf rfl rfl) ?_
 refine WL.vl rfl (zqc Tryz.func72 hM) ?_
 repeat (first|refine W.go rfl ?_|refine WL.nil ?_|refine WL.ev rfl ?_|refine W.condT rfl ?_|refine W.condF rfl ?_)
 (first|refine (?_:W _ _ _ _ _)|refine (?_:WL _ _ _ _ _ _)|skip)
 try dsimp only [St.put,Nat.reduceAdd]
 exact W.ret (finN rfl rfl rfl rfl)
end Go.Proofs.YtaeelcfjkhfpkaaGreat
