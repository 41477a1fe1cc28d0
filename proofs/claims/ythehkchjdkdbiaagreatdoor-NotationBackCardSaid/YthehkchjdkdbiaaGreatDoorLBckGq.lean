/- The law: what is written is read back. -/
import Derived.Test.YthehkchjdkdbiaaGreatDoorPSmGq
import Derived.Test.YthehkchjdkdbiaaGreatDoorNrJGq
set_option maxHeartbeats 4000000
set_option maxRecDepth 100000
set_option linter.unusedVariables false
set_option linter.unusedSimpArgs false
namespace Go.Proofs.YthehkchjdkdbiaaGreatDoor
open Go.RowKit
theorem back_G (s:Int) (p:Pce):Ctg tabW Tryz.prog 5 [.sc (.int .u8 s),ePce p] (.sc (.bool true)):=by
 by_cases hbig:bigB p=true
 ·have hb:=big_FS p
  rw [hbig] at hb
  refine Ctg.intro stabW Tryz.func5 rfl Tryz.ntmps5 (Nat.le_of_ble_eq_true rfl) (bd_all rfl) fun w0 F0 hB=>?_;dsimp only [St.init,number,Nat.reduceAdd]
  refine zqg13 ?_
  refine WL.vl rfl (zqc Tryz.func17 hb) ?_
  refine zqg14 ?_
  refine WL.vl rfl (zqc Tryz.func10 works_FS) ?_
  refine zqg13 ?_
  exact W.ret zqr
 have hbf:bigB p=false:=by simpa using hbig
 have hO:=pcOk_of2 hbf
 have hb:=big_FS p
 rw [hbf] at hb
 have hC:=rCheck_FS p hO
 by_cases hs1:s < 1
 ·refine Ctg.intro stabW Tryz.func5 rfl Tryz.ntmps5 (Nat.le_of_ble_eq_true rfl) (bd_all rfl) fun w0 F0 hB=>?_;dsimp only [St.init,number,Nat.reduceAdd]
  refine zqg13 ?_
  refine WL.vl rfl (zqc Tryz.func17 hb) ?_
  refine zqg14 ?_
  refine WL.vl rfl (zqc Tryz.func10 works_FS) ?_
  refine zqg13 ?_
  exact W.ret zqr
 by_cases hs4:4 < s
 ·refine Ctg.intro stabW Tryz.func5 rfl Tryz.ntmps5 (Nat.le_of_ble_eq_true rfl) (bd_all rfl) fun w0 F0 hB=>?_;dsimp only [St.init,number,Nat.reduceAdd]
  refine zqg13 ?_
  refine WL.vl rfl (zqc Tryz.func17 hb) ?_
  refine zqg14 ?_
  refine WL.vl rfl (zqc Tryz.func10 works_FS) ?_
  refine zqg13 ?_
  exact W.ret zqr
 have hs:1≤s∧s≤4:=by omega
 by_cases h0:pceE p=0
 rotate_left
 ·obtain ⟨E,hE⟩:∃ z,pceE p=z:=⟨_,rfl⟩
  rw [hE] at hC h0
  refine Ctg.intro stabW Tryz.func5 rfl Tryz.ntmps5 (Nat.le_of_ble_eq_true rfl) (bd_all rfl) fun w0 F0 hB=>?_;dsimp only [St.init,number,Nat.reduceAdd]
  refine zqg13 ?_
  refine WL.vl rfl (zqc Tryz.func17 hb) ?_
  refine zqg14 ?_
  refine WL.vl rfl (zqc Tryz.func15 hC) ?_
  refine zqg14 ?_
  refine WL.vl rfl (zqc Tryz.func10 works_FS) ?_
  refine zqg13 ?_
  exact W.ret zqr
 rw [h0] at hC
 have hCp:=pcCopy_FS p hO
 have hW:=(pWrite_G s p hO).wB
 have hCan:=pCan_FS s p hO
 have hE:=(lks_ok hs h0).2
 rw [hE] at hCan
 by_cases hl:lksR s p=[]
 rotate_left
 ·obtain ⟨w1,w2⟩:=wr_no hE hl
  rw [w1,w2] at hW
  have hcb:((0:Int) == 0 && ((lksR s p).length:Int) == 0)=false:=by
   have:(lksR s p).length≠0:=fun h=>hl (List.eq_nil_of_length_eq_zero h)
   simp;omega
  rw [hcb] at hCan
  refine Ctg.intro stabW Tryz.func5 rfl Tryz.ntmps5 (Nat.le_of_ble_eq_true rfl) (bd_all rfl) fun w0 F0 hB=>?_;dsimp only [St.init,number,Nat.reduceAdd]
  refine zqg13 ?_
  refine WL.vl rfl (zqc Tryz.func17 hb) ?_
  refine zqg14 ?_
  refine WL.vl rfl (zqc Tryz.func15 hC) ?_
  refine zqg14 ?_
  refine WL.vl rfl (zqc Tryz.func18 hCp) ?_
  refine zqg14 ?_
  refine WL.vl rfl (WV.callG hB rfl (callF Tryz.func14 rfl rfl) rfl rfl hW) ?_
  refine zqg14 ?_
  refine WL.vl rfl (zqc Tryz.func18 hCp) ?_
  refine zqg14 ?_
  refine WL.vl rfl (zqc Tryz.func19 hCan) ?_
  refine zqg14 ?_
  refine WL.vl rfl (zqc Tryz.func10 works_FS) ?_
  refine zqg14 ?_
  exact W.ret zqr
 have hN:=nw_of_wr hE hl
 obtain ⟨_,_,w3,w4⟩:=nw_wr hN
 have hTl:=nw_T_len hN
 have hRd:=(read_G (nw_T s p) zqo).wN
 rw [nw_read hN] at hRd
 rw [w3,w4] at hW
 have hcb:((0:Int) == 0 && ((lksR s p).length:Int) == 0)=true:=by rw [hl];rfl
 rw [hcb] at hCan
 have hSm:=pSame_FS p hO
 unfold rdR at hRd
 have hPe:ePce p=.ag [.ls 3 (p.cs.map eCrs),.ls 1 (p.st.map eInt),.ls 6 (p.evs.map eEv)]:=rfl
 rw [hPe] at hb hC hCp hW hCan hSm ⊢
 dsimp only at hRd
 obtain ⟨T,hT⟩:∃ z,nw_T s p=z:=⟨_,rfl⟩
 rw [hT] at hW hRd hTl
 clear w3 w4 hcb hN hE hl h0 hT hPe
 refine Ctg.intro stabW Tryz.func5 rfl Tryz.ntmps5 (Nat.le_of_ble_eq_true rfl) (bd_all rfl) fun w0 F0 hB=>?_;dsimp only [St.init,number,Nat.reduceAdd]
 refine zqg13 ?_
 refine WL.vl rfl (zqc Tryz.func17 hb) ?_
 refine zqg14 ?_
 refine WL.vl rfl (zqc Tryz.func15 hC) ?_
 refine zqg14 ?_
 refine WL.vl rfl (zqc Tryz.func18 hCp) ?_
 refine zqg14 ?_
 refine WL.vl rfl (WV.callG hB rfl (callF Tryz.func14 rfl rfl) rfl rfl hW) ?_
 refine zqg14 ?_
 refine WL.vl rfl (zqc Tryz.func18 hCp) ?_
 refine zqg14 ?_
 refine WL.vl rfl (zqc Tryz.func19 hCan) ?_
 refine zqg14 ?_
 refine WL.vl rfl (WV.callG hB rfl (callF Tryz.func11 rfl rfl) rfl rfl hRd) ?_
 refine zqg14 ?_
 refine W.drawK zqk zqk ?_
 repeat (first|refine DK.bt rfl rfl (by omega) ?_|refine DK.tt rfl (by first|(simp;done)|fail) ?_|refine DK.st rfl ?_|refine DK.len rfl rfl zql ?_|refine DK.nil ?_)
 refine DK.vl rfl (zqc Tryz.func18 hCp) ?_
 repeat (first|refine DK.bt rfl rfl (by omega) ?_|refine DK.tt rfl (by first|(simp;done)|fail) ?_|refine DK.st rfl ?_|refine DK.len rfl rfl zql ?_|refine DK.nil ?_)
 refine DK.vl rfl (zqc Tryz.func20 hSm) ?_
 repeat (first|refine DK.bt rfl rfl (by omega) ?_|refine DK.tt rfl (by first|(simp;done)|fail) ?_|refine DK.st rfl ?_|refine DK.len rfl rfl zql ?_|refine DK.nil ?_)
 refine DK.vl rfl (zqc Tryz.func10 works_FS) ?_
 repeat (first|refine DK.bt rfl rfl (by omega) ?_|refine DK.tt rfl (by first|(simp;done)|fail) ?_|refine DK.st rfl ?_|refine DK.len rfl rfl zql ?_|refine DK.nil ?_)
 refine zqg14 ?_
 exact W.ret zqr
end Go.Proofs.YthehkchjdkdbiaaGreatDoor
