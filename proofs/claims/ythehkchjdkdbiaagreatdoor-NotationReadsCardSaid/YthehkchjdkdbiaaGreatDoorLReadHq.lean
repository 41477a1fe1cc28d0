/- The law of reading: both sides read every text alike. -/
import Derived.Test.YthehkchjdkdbiaaGreatDoorNr8Hq
import Derived.Test.YthehkchjdkdbiaaGreatDoorNrZHq
import Derived.Test.YthehkchjdkdbiaaGreatDoorNrJHq
set_option maxHeartbeats 16000000
set_option maxRecDepth 100000
set_option linter.unusedVariables false
set_option linter.unusedSimpArgs false
namespace Go.Proofs.YthehkchjdkdbiaaGreatDoor
section
open Go.RowKit
theorem z11i {z:Int} (h:I64 z:=by unfold I64;omega):I64 z:=h
theorem rpsys_FS (l:List UInt8):Ctr Tryz.prog 44 [.sc (.string (bs l))] (.tu [.sc (.int .u8 (nr_ps l).1),.sc (.int .i64 (nr_ps l).2)]) :=
 Ctr.of_sc (v:=psV l) rfl (fun F=>by rw [nr_ps_v];exact rp_plT rfl) fun w=>rparseSystem_any l w
def rf_b5:List (List UInt8)→Bool
 | []=>true
 | l0::_=>!(nr_pfx nr_hdW l0)
def rf_b10:List (List UInt8)→Bool
 | []=>true
 | _::_=>false
theorem rf_nc_bd(s:Int)(cs:List Crs)(t:List UInt8):(nr_nc s cs t).l.length≤20:=by have:=nr_nc_len s cs t;omega
theorem rRead_FS (t:List UInt8) (ht:t.length≤65536):Ctr Tryz.prog 12 [.sc (.string (bs t))] (rdR (nr_read t)):=by
 have hW:=rLines_FS t zqo
 have hwb:∀ w∈rq_wds 10 t,w.length≤65536:=fun w hw=>Nat.le_trans (rq_wds_bytes 10 t w hw) ht
 have hwl:(rq_wds 10 t).length≤65537:=by
  rw [rq_wds_len,Lib.count_one]
  have:=List.count_le_length (a:=(10:UInt8)) (l:=t)
  omega
 have hR:nr_read t=nr_one (rq_spl 10 t).2 (rq_spl 10 t).1:=rfl
 rw [hR]
 clear hR
 unfold rq_wds at hwb hwl
 obtain ⟨⟨F,tl⟩,hF⟩:∃ z,rq_spl 10 t=z:=⟨_,rfl⟩
 rw [hF] at hW hwb hwl ⊢
 dsimp only at hW hwb hwl ⊢
 have hgt:=fun k=>rdL_get F tl (k:=k)
 have hLl:=rdL_len F tl
 have hLb:∀ w∈rdL F tl,w.length≤65536:=fun w hw=>by
  have:w∈F++[tl]:=by
   unfold rdL at hw;split at hw
   ·exact List.mem_append_left _ hw
   ·exact hw
  exact hwb w this
 have hFl:F.length≤65536:=by simp at hwl;omega
 have hWe:(if tl=[] then F else F++[tl])=rdL F tl:=rfl
 rw [hWe] at hW
 have hLat:∀ k (h:k < F.length),((rdL F tl).map eTx)[((k:Nat):Int).toNat]?=some (eTx F[k]):=fun k h=>by
  have h2:k < (rdL F tl).length:=by rw [hLl];omega
  have h3:=hgt k h
  rw [List.getD_eq_getElem?_getD,List.getElem?_eq_getElem h2] at h3
  rw [Int.toNat_natCast,List.getElem?_map,List.getElem?_eq_getElem h2]
  exact congrArg (fun z=>some (eTx z)) h3
 obtain ⟨LT,hLT⟩:∃ z,(rdL F tl).map eTx=z:=⟨_,rfl⟩
 have hLTl:LT.length=F.length+(if tl=[] then 0 else 1):=by rw [← hLT,List.length_map,hLl]
 rw [hLT] at hW hLat
 clear hgt hLl hWe hF hLT hwl
 have hLTb:LT.length≤65537:=by rw [hLTl];split<;>omega
 refine zqe Tryz.func12 Tryz.ntmps12 fun w0 F0=>?_;dsimp only [St.init,number,Nat.reduceAdd]
 refine zqg9 ?_
 refine WL.vl rfl (zqc Tryz.func16 hW) ?_
 refine zqg9 ?_
 refine WL.meetT ⟨[(3,.pt 0 0 0),(6,.pt 1 0 0),(7,.ls 1 LT),(8,.sc (.bool (decide (tl=[])))),(52,.sc (.bool (rf_b5 F)))],[(0,.box 30 [.sc (.slice none 0 0),.sc (.slice none 0 0),.sc (.slice none 0 0)]),(1,.box 30 [.sc (.slice none 0 0),.sc (.slice none 0 0),.sc (.slice none 0 0)])],2⟩ ?_ ?_
 ·cases F with
  | nil =>
   show WL _ _ _ _ _ (QThen (fun s=>Tr _ s ⟨[_,_,_,_,(52,.sc (.bool true))],_,_⟩) _)
   by_cases htl:tl=[]
   ·rw [if_pos htl] at hLTl
    have hn:LT.length=0:=hLTl
    rw [decide_eq_true (show (LT.length:Int) < 1 by omega),decide_eq_true htl]
    refine zqg9 ?_
    refine (?_:Tr _ _ _)
    exact (zqt id)
   ·rw [if_neg htl] at hLTl
    have hn:LT.length=1:=by rw [hLTl];rfl
    rw [decide_eq_false (show ¬ (LT.length:Int) < 1 by omega),decide_eq_false htl]
    refine zqg9 ?_
    refine (?_:Tr _ _ _)
    exact (zqt id)
  | cons l0 F1 =>
   have hat:LT[Int.toNat 0]?=some (eTx l0):=hLat 0 (by simp)
   have hpf:nr_pfx nr_hdW l0=decide (l0.take 10=nr_hdW):=nr_pfx_take
   have hl0:l0.length≤65536:=hwb l0 (by simp)
   have hb5:rf_b5 (l0::F1)=!(decide (l0.take 10=nr_hdW)):=by rw [← hpf];rfl
   rw [hb5]
   have hcut:cut l0 0 10=l0.take 10:=by simp [cut]
   have hneq:∀ z:List UInt8,z=l0.take 10→(z != [116,97,98,108,97,116,117,114,101,32])=!(decide (l0.take 10=nr_hdW)):=fun z hz=>by
    subst hz
    show (!(l0.take 10 == nr_hdW))=_
    rw [show (l0.take 10 == nr_hdW)=decide (l0.take 10=nr_hdW) by rw [Bool.eq_iff_iff];simp]
   have h10:l0.length < 10→(!(decide (l0.take 10=nr_hdW)))=true:=fun h=>by
    rw [decide_eq_false];rfl
    intro e
    have:=congrArg List.length e
    rw [List.length_take,show nr_hdW.length=10 from rfl] at this
    omega
   have hn1:1≤LT.length:=by rw [hLTl];simp;omega
   obtain ⟨B5,hB5⟩:∃ z,(!(decide (l0.take 10=nr_hdW)))=z:=⟨_,rfl⟩
   rw [hB5] at hneq h10 ⊢
   have hcl:LT.length=1→decide (tl=[])=true:=fun h=>by
    by_cases htl:tl=[]
    ·exact decide_eq_true htl
    ·rw [if_neg htl] at hLTl;simp at hLTl;omega
   obtain ⟨CL,hCL⟩:∃ z,decide (tl=[])=z:=⟨_,rfl⟩
   rw [hCL] at hcl ⊢
   clear hpf hb5 hB5 hLat hLTl hW
   rw [decide_eq_false (show ¬ (LT.length:Int) < 1 by omega)]
   by_cases h1:LT.length=1
   ·rw [hcl h1]
    clear hcl
    by_cases hs:l0.length < 10
    ·rw [h10 hs]
     refine zqg9 ?_
     refine WL.idx rfl rfl zqo hat ?_
     refine zqg9 ?_
     refine (?_:Tr _ _ _)
     exact (zqt id)
    ·refine zqg9 ?_
     refine WL.idx rfl rfl zqo hat ?_
     refine zqg9 ?_
     refine WL.idx rfl rfl zqo hat ?_
     refine zqg9 ?_
     refine WL.cut rfl rfl zqo ?_
     rw [hcut]
     refine zqg9 ?_
     refine (?_:Tr _ _ _)
     rw [← hneq _ rfl]
     exact (zqt id)
   ·clear hcl
    by_cases hs:l0.length < 10
    ·rw [h10 hs]
     refine zqg9 ?_
     refine WL.idx rfl rfl zqo hat ?_
     refine zqg9 ?_
     refine (?_:Tr _ _ _)
     exact (zqt id)
    ·refine zqg9 ?_
     refine WL.idx rfl rfl zqo hat ?_
     refine zqg9 ?_
     refine WL.idx rfl rfl zqo hat ?_
     refine zqg9 ?_
     refine WL.cut rfl rfl zqo ?_
     rw [hcut]
     refine zqg9 ?_
     refine (?_:Tr _ _ _)
     rw [← hneq _ rfl]
     exact (zqt id)
 cases hb5:rf_b5 F with
 | true =>
  have hno:nr_one tl F=nr_no 1 4:=by
   cases F with
   | nil=>rfl
   | cons l0 F1 =>
    have:nr_pfx nr_hdW l0=false:=by
     unfold rf_b5 at hb5;simpa using hb5
    unfold nr_one
    dsimp only
    rw [nr_sys_no this]
  rw [hno]
  unfold rdR nr_no
  dsimp only
  refine zqg9 ?_
  refine W.of_wa zqk ?_
  refine WA.dt [false,false,true,false,false] [1] [1] 2 zqk zqk zqk ⟨rfl,trivial⟩ ⟨rfl,trivial⟩ ?_
  refine DTK.v0 rfl (stepV_of rfl rfl) ?_
  refine DTK.v0 rfl (stepV_of rfl rfl) ?_
  refine DTK.sto rfl rfl rfl rfl rfl rfl rfl rfl rfl rfl rfl rfl rfl rfl ⟨rfl,trivial⟩ (fun h=>by cases h) ?_
  refine DTK.v0 rfl (stepV_of rfl rfl) ?_
  refine DTK.v0 rfl (stepV_of rfl rfl) ?_
  refine DTK.nil ?_
  refine zqg9 ?_
  refine W.tr (Tr.nilC 0 0 3 rfl rfl rfl) ?_
  refine W.tr (Tr.nilC 0 1 1 rfl rfl rfl) ?_
  refine W.tr (Tr.nilC 0 2 6 rfl rfl rfl) ?_
  exact W.ret (finN rfl rfl rfl rfl)
 | false =>
 obtain ⟨l0,F1,rfl⟩:∃ l0 F1,F=l0::F1:=by
  cases F with
  | nil=>cases hb5
  | cons l0 F1=>exact ⟨l0,F1,rfl⟩
 have hpf:nr_pfx nr_hdW l0=true:=by unfold rf_b5 at hb5;simpa using hb5
 have hl10:10≤l0.length:=by
  rw [nr_pfx_take] at hpf
  have h2:=congrArg List.length (of_decide_eq_true hpf)
  rw [List.length_take,show nr_hdW.length=10 from rfl] at h2
  omega
 have hat:LT[Int.toNat 0]?=some (eTx l0):=hLat 0 (by simp)
 have hl0:l0.length≤65536:=hwb l0 (by simp)
 have hsy:=nr_sys_at hpf
 have hPS:=rpsys_FS (l0.drop 10)
 have hcut:cut l0 10 (l0.length:Int)=l0.drop 10:=by
  unfold cut
  rw [Int.toNat_natCast]
  exact List.take_of_length_le (by rw [List.length_drop];exact Nat.le_refl _)
 have hc9:=nr_ps_cases (l0.drop 10)
 obtain ⟨⟨s,e0⟩,hps⟩:∃ z,nr_ps (l0.drop 10)=z:=⟨_,rfl⟩
 rw [hps] at hsy hPS hc9
 dsimp only at hsy hPS hc9
 have hn1:1≤LT.length:=by rw [hLTl];simp;omega
 clear hb5 hpf hps
 by_cases he0:e0=0
 rotate_left
 ·obtain rfl:e0=4:=by rcases hc9 with q|q<;>omega
  have hno:nr_one tl (l0::F1)=nr_no 1 4:=by
   unfold nr_one
   dsimp only
   rw [hsy];rfl
  rw [hno]
  unfold rdR nr_no
  dsimp only
  clear hLat hsy
  refine zqg9 ?_
  refine WL.idx rfl rfl zqo hat ?_
  refine zqg9 ?_
  refine WL.cut rfl rfl zqo ?_
  rw [hcut]
  refine zqg9 ?_
  refine WL.vl rfl (zqc Tryz.func44 hPS) ?_
  refine zqg9 ?_
  refine W.of_wa zqk ?_
  refine WA.dt [false,false,false,true,false,false] [1] [1] 3 zqk zqk zqk ⟨rfl,trivial⟩ ⟨rfl,trivial⟩ ?_
  refine DTK.v0 rfl (stepV_of rfl rfl) ?_
  refine DTK.v0 rfl (stepV_of rfl rfl) ?_
  refine DTK.v0 rfl (stepV_of rfl rfl) ?_
  refine DTK.sto rfl rfl rfl rfl rfl rfl rfl rfl rfl rfl rfl rfl rfl rfl ⟨rfl,trivial⟩ (fun h=>by cases h) ?_
  refine DTK.v0 rfl (stepV_of rfl rfl) ?_
  refine DTK.v0 rfl (stepV_of rfl rfl) ?_
  refine DTK.nil ?_
  refine zqg9 ?_
  refine W.tr (Tr.nilC 0 0 3 rfl rfl rfl) ?_
  refine W.tr (Tr.nilC 0 1 1 rfl rfl rfl) ?_
  refine W.tr (Tr.nilC 0 2 6 rfl rfl rfl) ?_
  exact W.ret (finN rfl rfl rfl rfl)
 subst he0
 rw [if_pos rfl] at hsy
 have hs:1≤s∧s≤4:=by omega
 have hone:nr_one tl (l0::F1)=nr_two s tl F1:=by
  unfold nr_one
  dsimp only
  rw [hsy]
 rw [hone]
 clear hc9 hsy hone
 refine zqg9 ?_
 refine WL.idx rfl rfl zqo hat ?_
 refine zqg9 ?_
 refine WL.cut rfl rfl zqo ?_
 rw [hcut]
 refine zqg9 ?_
 refine WL.vl rfl (zqc Tryz.func44 hPS) ?_
 refine zqg9 ?_
 refine WL.meetT ⟨[(3,.pt 0 0 0),(6,.pt 1 0 0),(7,.ls 1 LT),(8,.sc (.bool (decide (tl=[])))),(9,.sc (.int .u8 s)),(77,.sc (.bool (rf_b10 F1)))],[(0,.box 30 [.sc (.slice none 0 0),.sc (.slice none 0 0),.sc (.slice none 0 0)]),(1,.box 30 [.sc (.slice none 0 0),.sc (.slice none 0 0),.sc (.slice none 0 0)])],2⟩ ?_ ?_
 ·clear hat hcut hPS hLat hW
  cases F1 with
  | nil =>
   show WL _ _ _ _ _ (QThen (fun s=>Tr _ s ⟨[_,_,_,_,_,(77,.sc (.bool true))],_,_⟩) _)
   by_cases htl:tl=[]
   ·rw [if_pos htl] at hLTl
    have hn:LT.length=1:=by rw [hLTl];rfl
    rw [decide_eq_true (show (LT.length:Int) < 2 by omega),decide_eq_true htl]
    refine zqg9 ?_
    refine (?_:Tr _ _ _)
    exact (zqt id)
   ·rw [if_neg htl] at hLTl
    have hn:LT.length=2:=by rw [hLTl];rfl
    rw [decide_eq_false (show ¬ (LT.length:Int) < 2 by omega),decide_eq_false htl]
    refine zqg9 ?_
    refine (?_:Tr _ _ _)
    exact (zqt id)
  | cons l1 F2 =>
   show WL _ _ _ _ _ (QThen (fun s=>Tr _ s ⟨[_,_,_,_,_,(77,.sc (.bool false))],_,_⟩) _)
   have hn2:2≤LT.length:=by rw [hLTl];simp;omega
   have hcl:LT.length=2→decide (tl=[])=true:=fun h=>by
    by_cases htl:tl=[]
    ·exact decide_eq_true htl
    ·rw [if_neg htl] at hLTl;simp at hLTl;omega
   obtain ⟨CL,hCL⟩:∃ z,decide (tl=[])=z:=⟨_,rfl⟩
   rw [hCL] at hcl ⊢
   clear hLTl
   rw [decide_eq_false (show ¬ (LT.length:Int) < 2 by omega)]
   by_cases h2:LT.length=2
   ·rw [hcl h2]
    clear hcl
    refine zqg9 ?_
    refine (?_:Tr _ _ _)
    exact (zqt id)
   ·clear hcl
    refine zqg9 ?_
    refine (?_:Tr _ _ _)
    exact (zqt id)
 cases F1 with
 | nil =>
  show W _ _ _ ⟨[_,_,_,_,_,(77,.sc (.bool true))],_,_⟩ _
  rw [show nr_two s tl []=nr_no 2 4 from rfl]
  unfold rdR nr_no
  dsimp only
  clear hat hcut hPS hLat hW
  refine zqg9 ?_
  refine W.of_wa zqk ?_
  refine WA.dt [false,false,true,false,false] [1] [1] 2 zqk zqk zqk ⟨rfl,trivial⟩ ⟨rfl,trivial⟩ ?_
  refine DTK.v0 rfl (stepV_of rfl rfl) ?_
  refine DTK.v0 rfl (stepV_of rfl rfl) ?_
  refine DTK.sto rfl rfl rfl rfl rfl rfl rfl rfl rfl rfl rfl rfl rfl rfl ⟨rfl,trivial⟩ (fun h=>by cases h) ?_
  refine DTK.v0 rfl (stepV_of rfl rfl) ?_
  refine DTK.v0 rfl (stepV_of rfl rfl) ?_
  refine DTK.nil ?_
  refine zqg9 ?_
  refine W.tr (Tr.nilC 0 0 3 rfl rfl rfl) ?_
  refine W.tr (Tr.nilC 0 1 1 rfl rfl rfl) ?_
  refine W.tr (Tr.nilC 0 2 6 rfl rfl rfl) ?_
  exact W.ret (finN rfl rfl rfl rfl)
 | cons l1 F2 =>
 show W _ _ _ ⟨[_,_,_,_,_,(77,.sc (.bool false))],_,_⟩ _
 have hat1:LT[Int.toNat 1]?=some (eTx l1):=hLat 1 (by simp)
 have hl1:l1.length≤65536:=hwb l1 (by simp)
 have hIn:=rParse_FS l1 zqo
 have hI:=fun h=>nr_ins_ok (l:=l1) h
 have hn2:2≤LT.length:=by rw [hLTl];simp;omega
 unfold nr_two
 dsimp only
 obtain ⟨⟨⟨cs,st⟩,e0⟩,hnI⟩:∃ z,nr_ins l1=z:=⟨_,rfl⟩
 rw [hnI] at hIn hI ⊢
 unfold eIns at hIn
 dsimp only at hIn hI ⊢
 clear hat hcut hPS hW hnI
 by_cases he0:e0=0
 rotate_left
 ·rw [if_pos he0]
  unfold rdR nr_no
  dsimp only
  clear hLat hI
  refine zqg9 ?_
  refine WL.idx rfl rfl zqo hat1 ?_
  refine zqg9 ?_
  refine WL.vl rfl (zqc Tryz.func45 hIn) ?_
  refine zqg9 ?_
  refine W.of_wa zqk ?_
  refine WA.dt [false,false,false,true,false,false] [1] [1] 3 zqk zqk zqk ⟨rfl,trivial⟩ ⟨rfl,trivial⟩ ?_
  refine DTK.v0 rfl (stepV_of rfl rfl) ?_
  refine DTK.v0 rfl (stepV_of rfl rfl) ?_
  refine DTK.v0 rfl (stepV_of rfl rfl) ?_
  refine DTK.sto rfl rfl rfl rfl rfl rfl rfl rfl rfl rfl rfl rfl rfl rfl ⟨rfl,trivial⟩ (fun h=>by cases h) ?_
  refine DTK.v0 rfl (stepV_of rfl rfl) ?_
  refine DTK.v0 rfl (stepV_of rfl rfl) ?_
  refine DTK.nil ?_
  refine zqg9 ?_
  refine W.tr (Tr.nilC 0 0 3 rfl rfl rfl) ?_
  refine W.tr (Tr.nilC 0 1 1 rfl rfl rfl) ?_
  refine W.tr (Tr.nilC 0 2 6 rfl rfl rfl) ?_
  exact W.ret (finN rfl rfl rfl rfl)
 rw [if_neg (fun q=>q he0)]
 subst he0
 have hI:=hI rfl
 obtain ⟨hc1,hc14,hst18,_,hcr⟩:=insE_len hI
 have hLT2:LT.length=F2.length+2+(if tl=[] then 0 else 1):=hLTl
 by_cases hbig:400 < F2.length+(if tl=[] then 0 else 1)
 ·rw [if_pos hbig]
  unfold rdR nr_no
  dsimp only
  have hbg:402 < LT.length:=by omega
  clear hLat hLTl hLT2 hbig
  refine zqg9 ?_
  refine WL.idx rfl rfl zqo hat1 ?_
  refine zqg9 ?_
  refine WL.vl rfl (zqc Tryz.func45 hIn) ?_
  refine zqg9 ?_
  refine W.of_wa zqk ?_
  refine WA.dt [false,false,true,false,false] [1] [1] 2 zqk zqk zqk ⟨rfl,trivial⟩ ⟨rfl,trivial⟩ ?_
  refine DTK.v0 rfl (stepV_of rfl rfl) ?_
  refine DTK.v0 rfl (stepV_of rfl rfl) ?_
  refine DTK.sto rfl rfl rfl rfl rfl rfl rfl rfl rfl rfl rfl rfl rfl rfl ⟨rfl,trivial⟩ (fun h=>by cases h) ?_
  refine DTK.v0 rfl (stepV_of rfl rfl) ?_
  refine DTK.v0 rfl (stepV_of rfl rfl) ?_
  refine DTK.nil ?_
  refine zqg9 ?_
  refine W.tr (Tr.nilC 0 0 3 rfl rfl rfl) ?_
  refine W.tr (Tr.nilC 0 1 1 rfl rfl rfl) ?_
  refine W.tr (Tr.nilC 0 2 6 rfl rfl rfl) ?_
  exact W.ret (finN rfl rfl rfl rfl)
 rw [if_neg hbig]
 have hbg:¬ 402 < LT.length:=by omega
 have hF2l:F2.length≤400:=by omega
 have hLat2:∀ k (h:k < F2.length),LT[((k:Int)+2).toNat]?=some (eTx F2[k]):=fun k h=>by
  have:=hLat (k+2) (by simp;omega)
  rw [show ((k:Int)+2)=(((k+2:Nat)):Int) by omega]
  exact this
 have hF2b:∀ k (h:k < F2.length),F2[k].length≤65536:=fun k h=>hwb _ (by simp)
 unfold nr_evs
 have hcs14:cs.length≤64:=by omega
 have hH:=rHolds_G s hs cs st (F2.map (nr_nc s cs)) (by omega) (by omega) (by rw [List.length_map];omega) (fun x hx=>by
  obtain ⟨u,_,rfl⟩:=List.mem_map.1 hx
  exact rf_nc_bd s cs u)
 have hEv:=fun k (h:k < F2.length)=>rEvent_G s hs cs st hcs14 k zqo F2[k] (by have:=hF2b k h;omega)
 unfold eIns at hEv
 obtain ⟨CR,hCR⟩:∃ z,cs.map eCrs=z:=⟨_,rfl⟩
 obtain ⟨SR,hSR⟩:∃ z,st.map eInt=z:=⟨_,rfl⟩
 rw [hCR,hSR] at hIn hH hEv
 clear hLat hLTl hbig hF2b hwb
 refine zqg9 ?_
 refine WL.idx rfl rfl zqo hat1 ?_
 refine zqg9 ?_
 refine WL.vl rfl (zqc Tryz.func45 hIn) ?_
 refine zqg9 ?_
 refine W.tr (Tr.nilBox 90 6 (k:=3) (j:=2) rfl rfl rfl rfl) ?_
 dsimp only [St.put,St.new,St.upd,Nat.reduceAdd]
 refine W.tr (Tr.widen 4 rfl) ?_
 dsimp only [St.upd]
 refine W.loop (fun k:Nat=>k≤F2.length∧∀ j (h:j < F2.length),j < k→nr_err s cs j F2[j]=0) (fun k=>⟨[(3,.pt 0 0 0),(6,.pt 1 0 0),(7,.ls 1 LT),(8,.sc (.bool (decide (tl=[])))),(9,.sc (.int .u8 s)),(11,.pt 2 0 0),(12,.pt 3 0 0),(13,.sc (.int .i64 ((k:Int)+2)))],
  [(0,.box 30 [.sc (.slice none 0 0),.sc (.slice none 0 0),.sc (.slice none 0 0)]),(1,.box 30 [.sc (.slice none 0 0),.sc (.slice none 0 0),.sc (.slice none 0 0)]),(2,.box 27 [.ls 3 CR,.ls 1 SR]),(3,.box 30 [.ls 3 CR,.ls 1 SR,.sl 4]),(4,.rwn 90 6 ((((F2.take k).map (nr_nc s cs)).map nr_rh).map eEvO))],5⟩) (fun k=>F2.length+1 - k) 0 ⟨by omega,fun j hj h=>absurd h (by omega)⟩ (zqt id) fun k hk=>?_
 obtain ⟨hk,hall⟩:=hk
 have hRl:((((F2.take k).map (nr_nc s cs)).map nr_rh).map eEvO).length≤400:=by
  rw [List.length_map,List.length_map,List.length_map,List.length_take];omega
 by_cases hkf:k < F2.length
 ·have hat:=hLat2 k hkf
  have hE:=hEv k hkf
  have hbad:=fun h=>nr_bad_at (s:=s) (cs:=cs) (L:=F2) (k:=0) (j:=k) hkf (fun i hi hik=>by rw [Nat.zero_add];exact hall i hi hik) h
  rw [Nat.zero_add] at hbad
  have hnx:nr_err s cs k F2[k]=0→∀ j (hj:j < F2.length),j < k+1→nr_err s cs j F2[j]=0:=fun h j hj hjk=>by
   by_cases e:j=k
   ·subst e;exact h
   ·exact hall j hj zqo
  have hX:nr_err s cs k F2[k]=0→rf_fX (nr_form s (nr_staff s cs) F2[k]) (rf_y s F2[k])=nr_nc s cs F2[k]:=fun h=>by
   unfold nr_err at h
   unfold nr_nc rf_fX
   cases hf:nr_form s (nr_staff s cs) F2[k] with
   | none=>rw [hf] at h;cases h
   | some x=>rfl
  have hrow:((((F2.take (k+1)).map (nr_nc s cs)).map nr_rh).map eEvO)=((((F2.take k).map (nr_nc s cs)).map nr_rh).map eEvO)++[[.sc (.bool (nr_nc s cs F2[k]).bar),.sc (.int .i64 ((nr_nc s cs F2[k]).v:Int)),.sc (.bool (sgD (nr_nc s cs F2[k]).i)),.sc (.bool (sgT (nr_nc s cs F2[k]).i)),.sc (.bool (nr_nc s cs F2[k]).tie),.ow 69 5 (rf_rw (nr_nc s cs F2[k]))]]:=by
   rw [List.take_succ_eq_append_getElem hkf,List.map_append,List.map_append,List.map_append];rfl
  have hnl:LT.length=k+2+1→tl=[]:=fun h=>by
   by_cases e:tl=[]
   ·exact e
   ·rw [if_neg e] at hLT2;omega
  have hlt:k+2 < LT.length:=by omega
  obtain ⟨ER,hER⟩:∃ z,nr_err s cs k F2[k]=z:=⟨_,rfl⟩
  rw [hER] at hE hbad hnx hX
  obtain ⟨R,hR⟩:∃ z,((((F2.take k).map (nr_nc s cs)).map nr_rh).map eEvO)=z:=⟨_,rfl⟩
  rw [hR] at hRl hrow ⊢
  rw [show ((k:Nat):Int)=(k:Int)+2 - 2 by omega] at hE
  obtain ⟨CL,hCL⟩:∃ z,decide (tl=[])=z:=⟨_,rfl⟩
  have hCL1:LT.length=k+2+1→CL=true:=fun h=>by rw [← hCL];exact decide_eq_true (hnl h)
  rw [hCL]
  clear hLat2 hEv hall hH hnl hLT2
  by_cases he:ER=0
  ·subst he
   have hn2:=hnx rfl
   rw [hX rfl] at hE
   unfold rf_evA at hE
   obtain ⟨X,hXX⟩:∃ z,nr_nc s cs F2[k]=z:=⟨_,rfl⟩
   rw [hXX] at hE hrow
   obtain ⟨RW,hRW⟩:∃ z,rf_rw X=z:=⟨_,rfl⟩
   rw [hRW] at hE hrow
   obtain ⟨bar,v,i,tie,l⟩:=X
   dsimp only at hE hrow
   clear hnx hbad hX
   refine zqg9 ?_
   refine WL.meetT ⟨[(3,.pt 0 0 0),(6,.pt 1 0 0),(7,.ls 1 LT),(8,.sc (.bool CL)),(9,.sc (.int .u8 s)),(11,.pt 2 0 0),(12,.pt 3 0 0),(13,.sc (.int .i64 ((k:Int)+2))),(111,.sc (.bool false))],[(0,.box 30 [.sc (.slice none 0 0),.sc (.slice none 0 0),.sc (.slice none 0 0)]),(1,.box 30 [.sc (.slice none 0 0),.sc (.slice none 0 0),.sc (.slice none 0 0)]),(2,.box 27 [.ls 3 CR,.ls 1 SR]),(3,.box 30 [.ls 3 CR,.ls 1 SR,.sl 4]),(4,.rwn 90 6 R)],5⟩ ?_ ?_
   ·by_cases hlast:LT.length=k+2+1
    ·rw [decide_eq_true (show (k:Int)+2=(LT.length:Int) - 1 by omega),hCL1 hlast]
     refine zqg9 ?_
     refine (?_:Tr _ _ _)
     exact (zqt id)
    ·rw [decide_eq_false (show ¬ (k:Int)+2=(LT.length:Int) - 1 by omega)]
     clear hCL1
     refine zqg9 ?_
     refine (?_:Tr _ _ _)
     exact (zqt id)
   clear hCL1
   refine zqg9 ?_
   refine W.of_wa zqk ?_
   refine WA.eitherL3 [0,1,2,3,4,5,6,7,8,9,10,11,12,13,14] [0,1,2,3,4,5,6,7,8,9,10,11,12,13,14] [0,1,2,3,4,5,6,7,9,10,11,12,8,13,14] [0,1,2,3,4,5,6,7,12,8,9,10,11,13,14] 8 12 zqk zqk rfl ?_ ?_
   ·refine WA.dt [false,false,false,false,false,false,false,false,true,false,false,false,true,true,false] [2] [2] 13 zqk zqk zqk ⟨rfl,trivial⟩ ⟨rfl,trivial⟩ ?_
    refine DTK.v0 rfl (stepV_of rfl rfl) ?_
    refine DTK.v0 rfl (stepV_of rfl rfl) ?_
    refine DTK.v0 rfl (stepV_of rfl rfl) ?_
    refine DTK.v0 rfl (sideV_of rfl z11i) ?_
    refine DTK.v0 rfl (stepV_of rfl rfl) ?_
    refine DTK.v0 rfl (stepV_of rfl rfl) ?_
    refine DTK.v0 rfl (idxV_of rfl zqo hat) ?_
    refine DTK.v0 rfl (stepV_of rfl rfl) ?_
    refine DTK.ct (truH _) [] rfl rfl (callF Tryz.func46 rfl rfl) hE rfl rfl rfl trivial rfl rfl rfl rfl ⟨rfl,trivial⟩ (fun _=>⟨rfl,trivial⟩) ?_
    refine DTK.vq rfl rfl rfl zqk rfl rfl rfl (stepV_of rfl rfl) ?_
    refine DTK.vq rfl rfl rfl zqk rfl rfl rfl (stepV_of rfl rfl) ?_
    refine DTK.vq rfl rfl rfl zqk rfl rfl rfl (stepV_of rfl rfl) ?_
    refine DTK.al rfl rfl rfl rfl ⟨rfl,trivial⟩ (fun _=>⟨rfl,trivial⟩) ?_
    refine DTK.sto rfl rfl rfl rfl rfl rfl rfl rfl rfl rfl rfl rfl rfl rfl ⟨rfl,trivial⟩ (fun h=>by cases h) ?_
    refine DTK.v0 rfl (stepV_of rfl rfl) ?_
    refine DTK.nil ?_
    refine zqg9 ?_
    refine WL.bdO 5 rfl rfl rfl rfl ?_
    refine WL.tr (Tr.close_ 8 rfl rfl rfl rfl (by show 5 < 6;omega) rfl) ?_
    dsimp only [St.upd,St.drop,rem,cond,Nat.beq]
    refine WL.apM rfl rfl rfl rfl (by show R.length+1≤1000000000;omega) ?_
    refine zqg9 ?_
    refine ⟨k+1,⟨by omega,hn2⟩,by omega,?_⟩
    rw [hrow,show ((k+1:Nat):Int)+2=(k:Int)+2+1 by omega]
    exact (zqu (fun q=>bif Nat.beq q 4 then 9 else q) (by repeat (first|exact trivial|refine ⟨⟨?_,?_,?_⟩,?_⟩|rfl|exact congrArg (fun q=>some (AO.row _ _ q)) (by first|rfl|(simp;done)|(simp [eInt];done)|(simp [eLk];done)))) rfl)
   ·refine WA.dt [false,false,false,false,false,false,false,false,true,true,false,false,false,true,false] [2] [2] 13 zqk zqk zqk ⟨rfl,trivial⟩ ⟨rfl,trivial⟩ ?_
    refine DTK.v0 rfl (stepV_of rfl rfl) ?_
    refine DTK.v0 rfl (stepV_of rfl rfl) ?_
    refine DTK.v0 rfl (stepV_of rfl rfl) ?_
    refine DTK.v0 rfl (sideV_of rfl z11i) ?_
    refine DTK.v0 rfl (stepV_of rfl rfl) ?_
    refine DTK.v0 rfl (stepV_of rfl rfl) ?_
    refine DTK.v0 rfl (idxV_of rfl zqo hat) ?_
    refine DTK.v0 rfl (stepV_of rfl rfl) ?_
    refine DTK.al rfl rfl rfl rfl ⟨rfl,trivial⟩ (fun _=>⟨rfl,trivial⟩) ?_
    refine DTK.ct (truH _) [] rfl rfl (callF Tryz.func46 rfl rfl) hE rfl rfl rfl trivial rfl rfl rfl rfl ⟨rfl,trivial⟩ (fun _=>⟨rfl,trivial⟩) ?_
    refine DTK.vq rfl rfl rfl zqk rfl rfl rfl (stepV_of rfl rfl) ?_
    refine DTK.vq rfl rfl rfl zqk rfl rfl rfl (stepV_of rfl rfl) ?_
    refine DTK.vq rfl rfl rfl zqk rfl rfl rfl (stepV_of rfl rfl) ?_
    refine DTK.sto rfl rfl rfl rfl rfl rfl rfl rfl rfl rfl rfl rfl rfl rfl ⟨rfl,trivial⟩ (fun h=>by cases h) ?_
    refine DTK.v0 rfl (stepV_of rfl rfl) ?_
    refine DTK.nil ?_
    refine zqg9 ?_
    refine WL.bdO 5 rfl rfl rfl rfl ?_
    refine WL.tr (Tr.close_ 8 rfl rfl rfl rfl (by show 5 < 6;omega) rfl) ?_
    dsimp only [St.upd,St.drop,rem,cond,Nat.beq]
    refine WL.apM rfl rfl rfl rfl (by show R.length+1≤1000000000;omega) ?_
    refine zqg9 ?_
    refine ⟨k+1,⟨by omega,hn2⟩,by omega,?_⟩
    rw [hrow,show ((k+1:Nat):Int)+2=(k:Int)+2+1 by omega]
    exact (zqu (fun q=>bif Nat.beq q 4 then 9 else q) (by repeat (first|exact trivial|refine ⟨⟨?_,?_,?_⟩,?_⟩|rfl|exact congrArg (fun q=>some (AO.row _ _ q)) (by first|rfl|(simp;done)|(simp [eInt];done)|(simp [eLk];done)))) rfl)
  ·rw [hbad he]
   dsimp only
   unfold rdR nr_no
   dsimp only
   rw [show (k:Int)+3=(k:Int)+2+1 by omega]
   unfold rf_evA at hE
   obtain ⟨X,hXX⟩:∃ z,rf_fX (nr_form s (nr_staff s cs) F2[k]) (rf_y s F2[k])=z:=⟨_,rfl⟩
   rw [hXX] at hE
   obtain ⟨RW,hRW⟩:∃ z,rf_rw X=z:=⟨_,rfl⟩
   rw [hRW] at hE
   obtain ⟨bar,v,i,tie,l⟩:=X
   dsimp only at hE
   clear hnx hbad hX hrow
   refine zqg9 ?_
   refine WL.meetT ⟨[(3,.pt 0 0 0),(6,.pt 1 0 0),(7,.ls 1 LT),(8,.sc (.bool CL)),(9,.sc (.int .u8 s)),(11,.pt 2 0 0),(12,.pt 3 0 0),(13,.sc (.int .i64 ((k:Int)+2))),(111,.sc (.bool false))],[(0,.box 30 [.sc (.slice none 0 0),.sc (.slice none 0 0),.sc (.slice none 0 0)]),(1,.box 30 [.sc (.slice none 0 0),.sc (.slice none 0 0),.sc (.slice none 0 0)]),(2,.box 27 [.ls 3 CR,.ls 1 SR])],5⟩ ?_ ?_
   ·by_cases hlast:LT.length=k+2+1
    ·rw [decide_eq_true (show (k:Int)+2=(LT.length:Int) - 1 by omega),hCL1 hlast]
     refine zqg9 ?_
     refine (?_:Tr _ _ _)
     exact (zqt id)
    ·rw [decide_eq_false (show ¬ (k:Int)+2=(LT.length:Int) - 1 by omega)]
     clear hCL1
     refine zqg9 ?_
     refine (?_:Tr _ _ _)
     exact (zqt id)
   clear hCL1
   refine zqg9 ?_
   refine W.of_wa zqk ?_
   refine WA.eitherL3 [0,1,2,3,4,5,6,7,8,9,10,11,12,13,14] [0,1,2,3,4,5,6,7,8,9,10,11,12,13,14] [0,1,2,3,4,5,6,7,9,10,11,12,8,13,14] [0,1,2,3,4,5,6,7,12,8,9,10,11,13,14] 8 12 zqk zqk rfl ?_ ?_
   ·refine WA.dt [false,false,false,false,false,false,false,false,true,false,false,false,true,true,false] [2] [2] 13 zqk zqk zqk ⟨rfl,trivial⟩ ⟨rfl,trivial⟩ ?_
    refine DTK.v0 rfl (stepV_of rfl rfl) ?_
    refine DTK.v0 rfl (stepV_of rfl rfl) ?_
    refine DTK.v0 rfl (stepV_of rfl rfl) ?_
    refine DTK.v0 rfl (sideV_of rfl z11i) ?_
    refine DTK.v0 rfl (stepV_of rfl rfl) ?_
    refine DTK.v0 rfl (stepV_of rfl rfl) ?_
    refine DTK.v0 rfl (idxV_of rfl zqo hat) ?_
    refine DTK.v0 rfl (stepV_of rfl rfl) ?_
    refine DTK.ct (truH _) [] rfl rfl (callF Tryz.func46 rfl rfl) hE rfl rfl rfl trivial rfl rfl rfl rfl ⟨rfl,trivial⟩ (fun _=>⟨rfl,trivial⟩) ?_
    refine DTK.vq rfl rfl rfl zqk rfl rfl rfl (stepV_of rfl rfl) ?_
    refine DTK.vq rfl rfl rfl zqk rfl rfl rfl (stepV_of rfl rfl) ?_
    refine DTK.vq rfl rfl rfl zqk rfl rfl rfl (stepV_of rfl rfl) ?_
    refine DTK.al rfl rfl rfl rfl ⟨rfl,trivial⟩ (fun _=>⟨rfl,trivial⟩) ?_
    refine DTK.sto rfl rfl rfl rfl rfl rfl rfl rfl rfl rfl rfl rfl rfl rfl ⟨rfl,trivial⟩ (fun h=>by cases h) ?_
    refine DTK.v0 rfl (stepV_of rfl rfl) ?_
    refine DTK.nil ?_
    refine zqg9 ?_
    refine W.of_wa zqk ?_
    refine WA.dt [false,false,false,false,false,true,false,false] [1] [1] 5 zqk zqk zqk ⟨rfl,trivial⟩ ⟨rfl,trivial⟩ ?_
    refine DTK.v0 rfl (stepV_of rfl rfl) ?_
    refine DTK.v0 rfl (stepV_of rfl rfl) ?_
    refine DTK.v0 rfl (sideV_of rfl z11i) ?_
    refine DTK.v0 rfl (stepV_of rfl rfl) ?_
    refine DTK.v0 rfl (stepV_of rfl rfl) ?_
    refine DTK.sto rfl rfl rfl rfl rfl rfl rfl rfl rfl rfl rfl rfl rfl rfl ⟨rfl,trivial⟩ (fun h=>by cases h) ?_
    refine DTK.v0 rfl (stepV_of rfl rfl) ?_
    refine DTK.v0 rfl (stepV_of rfl rfl) ?_
    refine DTK.nil ?_
    refine zqg9 ?_
    refine W.tr (Tr.nilC 0 0 3 rfl rfl rfl) ?_
    refine W.tr (Tr.nilC 0 1 1 rfl rfl rfl) ?_
    refine W.tr (Tr.nilC 0 2 6 rfl rfl rfl) ?_
    exact W.ret (finN rfl rfl rfl rfl)
   ·refine WA.dt [false,false,false,false,false,false,false,false,true,true,false,false,false,true,false] [2] [2] 13 zqk zqk zqk ⟨rfl,trivial⟩ ⟨rfl,trivial⟩ ?_
    refine DTK.v0 rfl (stepV_of rfl rfl) ?_
    refine DTK.v0 rfl (stepV_of rfl rfl) ?_
    refine DTK.v0 rfl (stepV_of rfl rfl) ?_
    refine DTK.v0 rfl (sideV_of rfl z11i) ?_
    refine DTK.v0 rfl (stepV_of rfl rfl) ?_
    refine DTK.v0 rfl (stepV_of rfl rfl) ?_
    refine DTK.v0 rfl (idxV_of rfl zqo hat) ?_
    refine DTK.v0 rfl (stepV_of rfl rfl) ?_
    refine DTK.al rfl rfl rfl rfl ⟨rfl,trivial⟩ (fun _=>⟨rfl,trivial⟩) ?_
    refine DTK.ct (truH _) [] rfl rfl (callF Tryz.func46 rfl rfl) hE rfl rfl rfl trivial rfl rfl rfl rfl ⟨rfl,trivial⟩ (fun _=>⟨rfl,trivial⟩) ?_
    refine DTK.vq rfl rfl rfl zqk rfl rfl rfl (stepV_of rfl rfl) ?_
    refine DTK.vq rfl rfl rfl zqk rfl rfl rfl (stepV_of rfl rfl) ?_
    refine DTK.vq rfl rfl rfl zqk rfl rfl rfl (stepV_of rfl rfl) ?_
    refine DTK.sto rfl rfl rfl rfl rfl rfl rfl rfl rfl rfl rfl rfl rfl rfl ⟨rfl,trivial⟩ (fun h=>by cases h) ?_
    refine DTK.v0 rfl (stepV_of rfl rfl) ?_
    refine DTK.nil ?_
    refine zqg9 ?_
    refine W.of_wa zqk ?_
    refine WA.dt [false,false,false,false,false,true,false,false] [1] [1] 5 zqk zqk zqk ⟨rfl,trivial⟩ ⟨rfl,trivial⟩ ?_
    refine DTK.v0 rfl (stepV_of rfl rfl) ?_
    refine DTK.v0 rfl (stepV_of rfl rfl) ?_
    refine DTK.v0 rfl (sideV_of rfl z11i) ?_
    refine DTK.v0 rfl (stepV_of rfl rfl) ?_
    refine DTK.v0 rfl (stepV_of rfl rfl) ?_
    refine DTK.sto rfl rfl rfl rfl rfl rfl rfl rfl rfl rfl rfl rfl rfl rfl ⟨rfl,trivial⟩ (fun h=>by cases h) ?_
    refine DTK.v0 rfl (stepV_of rfl rfl) ?_
    refine DTK.v0 rfl (stepV_of rfl rfl) ?_
    refine DTK.nil ?_
    refine zqg9 ?_
    refine W.tr (Tr.nilC 0 0 3 rfl rfl rfl) ?_
    refine W.tr (Tr.nilC 0 1 1 rfl rfl rfl) ?_
    refine W.tr (Tr.nilC 0 2 6 rfl rfl rfl) ?_
    exact W.ret (finN rfl rfl rfl rfl)
 obtain rfl:k=F2.length:=by omega
 rw [nr_bad_none fun i hi=>by rw [Nat.zero_add];exact hall i hi hi]
 dsimp only
 by_cases htl:tl=[]
 rotate_left
 ·rw [if_pos htl]
  rw [if_neg htl] at hLT2
  unfold rdR nr_no
  dsimp only
  rw [show (F2.length:Int)+3=(F2.length:Int)+2+1 by omega,decide_eq_false htl]
  clear hLat2 hEv hall hH
  refine zqg9 ?_
  refine W.of_wa zqk ?_
  refine WA.dt [false,false,false,false,true,false,false] [1] [1] 4 zqk zqk zqk ⟨rfl,trivial⟩ ⟨rfl,trivial⟩ ?_
  refine DTK.v0 rfl (stepV_of rfl rfl) ?_
  refine DTK.v0 rfl (stepV_of rfl rfl) ?_
  refine DTK.v0 rfl (sideV_of rfl z11i) ?_
  refine DTK.v0 rfl (stepV_of rfl rfl) ?_
  refine DTK.sto rfl rfl rfl rfl rfl rfl rfl rfl rfl rfl rfl rfl rfl rfl ⟨rfl,trivial⟩ (fun h=>by cases h) ?_
  refine DTK.v0 rfl (stepV_of rfl rfl) ?_
  refine DTK.v0 rfl (stepV_of rfl rfl) ?_
  refine DTK.nil ?_
  refine zqg9 ?_
  refine W.tr (Tr.nilC 0 0 3 rfl rfl rfl) ?_
  refine W.tr (Tr.nilC 0 1 1 rfl rfl rfl) ?_
  refine W.tr (Tr.nilC 0 2 6 rfl rfl rfl) ?_
  exact W.ret (finN rfl rfl rfl rfl)
 rw [if_neg (fun q=>q htl)]
 rw [if_pos htl] at hLT2
 rw [List.take_length]
 clear hLat2 hEv hall
 cases hb:nr_hB s (F2.map (nr_nc s cs)) with
 | some i =>
  have hil:i < F2.length:=by
   have h9:=hb
   unfold nr_hB at h9
   have:=List.mem_range.1 (List.mem_of_find?_eq_some h9)
   rw [List.length_map] at this;exact this
  rw [hb] at hH
  dsimp only at hH ⊢
  have hc:Cto truB 0 Tryz.prog _ _ _ _ _ _ _:=hH.ok_ rfl
  unfold rdR nr_no
  dsimp only
  clear hH hb hRl
  obtain ⟨R,hR⟩:∃ z,(((F2.map (nr_nc s cs)).map nr_rh).map eEvO)=z:=⟨_,rfl⟩
  rw [hR] at hc ⊢
  refine zqg9 ?_
  refine WL.cto (truH _) [4] rfl rfl (callF Tryz.func47 rfl rfl) hc rfl rfl rfl ⟨⟨rfl,rfl,rfl⟩,trivial⟩ rfl rfl rfl rfl ?_
  refine zqg9 ?_
  refine W.of_wa zqk ?_
  refine WA.dt [false,false,false,false,false,true,false,false] [1] [1] 5 zqk zqk zqk ⟨rfl,trivial⟩ ⟨rfl,trivial⟩ ?_
  refine DTK.v0 rfl (stepV_of rfl rfl) ?_
  refine DTK.v0 rfl (stepV_of rfl rfl) ?_
  refine DTK.v0 rfl (sideV_of rfl z11i) ?_
  refine DTK.v0 rfl (stepV_of rfl rfl) ?_
  refine DTK.v0 rfl (stepV_of rfl rfl) ?_
  refine DTK.sto rfl rfl rfl rfl rfl rfl rfl rfl rfl rfl rfl rfl rfl rfl ⟨rfl,trivial⟩ (fun h=>by cases h) ?_
  refine DTK.v0 rfl (stepV_of rfl rfl) ?_
  refine DTK.v0 rfl (stepV_of rfl rfl) ?_
  refine DTK.nil ?_
  refine zqg9 ?_
  refine W.tr (Tr.nilC 0 0 3 rfl rfl rfl) ?_
  refine W.tr (Tr.nilC 0 1 1 rfl rfl rfl) ?_
  refine W.tr (Tr.nilC 0 2 6 rfl rfl rfl) ?_
  exact W.ret (finN rfl rfl rfl rfl)
 | none =>
  rw [hb] at hH
  dsimp only at hH ⊢
  have hc:Cto truB 0 Tryz.prog _ _ _ _ _ _ _:=hH.ok_ rfl
  unfold rdR
  dsimp only
  rw [hCR,hSR]
  clear hH hb hRl
  obtain ⟨R,hR⟩:∃ z,(((F2.map (nr_nc s cs)).map nr_rh).map eEvO)=z:=⟨_,rfl⟩
  rw [hR] at hc ⊢
  obtain ⟨FE,hFE⟩:∃ z,nr_fin s (F2.map (nr_nc s cs))=z:=⟨_,rfl⟩
  rw [hFE] at hc ⊢
  refine zqg9 ?_
  refine WL.cto (truH _) [4] rfl rfl (callF Tryz.func47 rfl rfl) hc rfl rfl rfl ⟨⟨rfl,rfl,rfl⟩,trivial⟩ rfl rfl rfl rfl ?_
  refine zqg9 ?_
  refine W.tr (Tr.freezeI 4 1 rfl (eEvO_shal _) (eEvO_rows _)) ?_
  refine W.tr (Tr.freeze 4 rfl) ?_
  refine W.of_wa zqk ?_
  refine WA.dt [false,false,false,true,false,false] [3] [3] 3 zqk zqk zqk ⟨rfl,trivial⟩ ⟨rfl,trivial⟩ ?_
  refine DTK.v0 rfl (stepV_of rfl rfl) ?_
  refine DTK.v0 rfl (stepV_of rfl rfl) ?_
  refine DTK.v0 rfl (stepV_of rfl rfl) ?_
  refine DTK.sto rfl rfl rfl rfl rfl rfl rfl rfl rfl rfl rfl rfl rfl rfl ⟨rfl,trivial⟩ (fun h=>by cases h) ?_
  refine DTK.v0 rfl (stepV_of rfl rfl) ?_
  refine DTK.v0 rfl (stepV_of rfl rfl) ?_
  refine DTK.nil ?_
  refine zqg9 ?_
  exact W.ret (finN rfl rfl rfl rfl)
end
section
open Go.RowKit
theorem works3_FS:Ctr Tryz.prog 10 [] (.sc (.bool true)) :=
 Ctr.of_sc (v:=.bool true) rfl (fun _=>.sc _) fun w=>works_any w
theorem nw_read_er {t:List UInt8}:(nr_read t).2.2.2=0∨(nr_read t).1=0:=by
 have e:nr_read t=nr_one (rq_spl 10 t).2 (rq_spl 10 t).1:=rfl
 rw [e]
 obtain⟨⟨F0,tl⟩,hF⟩:∃ z,rq_spl 10 t=z:=⟨_,rfl⟩
 rw [hF]
 dsimp only
 cases F0 with
 | nil=>exact .inr rfl
 | cons l0 F1 =>
  unfold nr_one
  dsimp only
  cases nr_sys l0 with
  | none=>exact .inr rfl
  | some s =>
   dsimp only
   cases F1 with
   | nil=>exact .inr rfl
   | cons l1 F =>
    unfold nr_two
    dsimp only
    by_cases hi:(nr_ins l1).2≠0
    ·rw [if_pos hi];exact .inr rfl
    rw [if_neg hi]
    by_cases hm:400<F.length+(if tl=[]then 0 else 1)
    ·rw [if_pos hm];exact .inr rfl
    rw [if_neg hm]
    unfold nr_evs
    cases nr_bad s (nr_ins l1).1.1 0 F with
    | some x=>exact .inr rfl
    | none =>
     dsimp only
     by_cases ht:tl≠[]
     ·rw [if_pos ht];exact .inr rfl
     rw [if_neg ht]
     cases nr_hB s (F.map (nr_nc s (nr_ins l1).1.1))with
     | some i=>exact .inr rfl
     | none=>exact .inl rfl
theorem nw_read_pc (t:List UInt8):PcOk (nr_read t).2.1:=by
 rcases nw_read_er (t:=t)with h|h
 ·obtain⟨s,l1,F,h2⟩:=nw_read_of h
  rw [h2.eq]
  exact (nw_written h2).2.1
 ·rw [nr_read_no h]
  exact⟨by simp [nr_no],by simp [nr_no],by simp [nr_no],fun k hk=>by simp [nr_no]at hk⟩
theorem reads_G (t:List UInt8):Ctg tabN Tryz.prog 3 [.sc (.string (bs t))] (.sc (.bool true)):=by
 refine Ctg.intro stabN Tryz.func3 rfl Tryz.ntmps3 (Nat.le_of_ble_eq_true rfl) (bd_all rfl) fun w0 F0 hB=>?_;dsimp only [St.init,number,Nat.reduceAdd]
 refine zqg10 ?_
 (refine W.cond rfl (fun hif=>?_) (fun hif=>?_)<;>(try simp only [decide_eq_true_eq,decide_eq_false_iff_not,Int.not_lt,Int.not_le,Bool.not_eq_true',Bool.not_eq_false'] at hif))
 ·refine zqg10 ?_
  refine WL.vl rfl (zqc Tryz.func10 works3_FS) ?_
  refine zqg10 ?_
  exact W.ret zqr
 have hl:t.length≤20000:=by omega
 have hP:=read_G t zqo
 have hR:=rRead_FS t zqo
 have hS:=same_FS (nr_read t).2.1 (nw_read_pc t)
 unfold rdR at hP hR
 unfold ePce at hS
 obtain ⟨⟨s,p,n,e⟩,hr⟩:∃ z,nr_read t=z:=⟨_,rfl⟩
 rw [hr] at hP hR hS
 dsimp only at hP hR hS
 refine zqg10 ?_
 refine WL.vl rfl (WV.callG hB rfl (callF Tryz.func11 rfl rfl) rfl rfl hP) ?_
 refine zqg10 ?_
 refine WL.vl rfl (zqc Tryz.func12 hR) ?_
 refine zqg11 ?_
 refine WL.vl rfl (zqc Tryz.func13 hS) ?_
 refine zqg11 ?_
 refine WL.vl rfl (zqc Tryz.func10 works3_FS) ?_
 refine zqg11 ?_
 exact W.ret zqr
end
end Go.Proofs.YthehkchjdkdbiaaGreatDoor
