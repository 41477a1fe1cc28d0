/- Notes of the staff: the reference's Base, Right, Sounding. -/
import Derived.Test.YthehkchjdkdbiaaGreatDoorRi0Hq
set_option maxHeartbeats 4000000
set_option maxRecDepth 100000
set_option linter.unusedVariables false
set_option linter.unusedSimpArgs false
namespace Go.Proofs.YthehkchjdkdbiaaGreatDoor
open Go.RowKit
theorem z51i {z:Int} (h:I64 z:=by unfold I64;omega):I64 z:=h
theorem bas_all:((List.range 7).all fun k=>decide (basV k=if (k:Int)<3 then 2*(k:Int)else 2*(k:Int)-1))=true:=by decide
theorem rBase_FS (l:Int) (h:0≤l∧l≤6):Ctr Tryz.prog 226 [.sc (.int .i64 l)] (.sc (.int .i64 (basV l))):=by
 have hb:basV l=if l < 3 then 2*l else 2*l - 1:=by
  obtain ⟨k,rfl⟩:=Int.eq_ofNat_of_zero_le h.1
  have:=List.all_eq_true.1 bas_all k (List.mem_range.2 zqo)
  simpa using this
 by_cases h3:l < 3
 ·rw [if_pos h3] at hb
  rw [hb]
  refine zqe Tryz.func226 Tryz.ntmps226 fun w0 F0=>?_;dsimp only [St.init,number,Nat.reduceAdd]
  refine zqg40 ?_
  exact W.ret zqr
 ·rw [if_neg h3] at hb
  rw [hb]
  refine zqe Tryz.func226 Tryz.ntmps226 fun w0 F0=>?_;dsimp only [St.init,number,Nat.reduceAdd]
  refine zqg40 ?_
  exact W.ret zqr
theorem rRight_FS (l al o:Int):Ctr Tryz.prog 225 [.ag [.sc (.int .i64 l),.sc (.int .i64 al),.sc (.int .i64 o)]] (.sc (.bool (sndOk l al o))):=by
 refine zqe Tryz.func225 Tryz.ntmps225 fun w0 F0=>?_;dsimp only [St.init,number,Nat.reduceAdd]
 have hc:(l < 0∨(¬ l < 0∧6 < l)∨(¬ l < 0∧¬ 6 < l∧al < -1)∨(¬ l < 0∧¬ 6 < l∧¬ al < -1∧1 < al)∨(¬ l < 0∧¬ 6 < l∧¬ al < -1∧¬ 1 < al∧o < -1)∨(¬ l < 0∧¬ 6 < l∧¬ al < -1∧¬ 1 < al∧¬ o < -1∧9 < o))∨sndIn l al o:=by unfold sndIn;omega
 rcases hc with hc|hc
 ·have hno:=sndOk_out (l:=l) (al:=al) (o:=o) (by unfold sndIn;omega)
  rw [hno]
  rcases hc with h|h|h|h|h|h
  all_goals
   refine zqg34 ?_
   exact W.ret zqr
 ·obtain ⟨⟨h1,h2⟩,⟨h3,h4⟩,h5,h6⟩:=id hc
  have hbd:=basV_bd ⟨h1,h2⟩
  have hB:=rBase_FS l ⟨h1,h2⟩
  have hin:=sndOk_in hc
  unfold sndV at hin
  obtain ⟨b,hb⟩:∃ b,basV l=b:=⟨_,rfl⟩
  rw [hb] at hbd hB hin
  rw [hin]
  by_cases hr:0≤12*(o+1)+b+al∧12*(o+1)+b+al≤127
  ·rw [decide_eq_true hr]
   refine zqg34 ?_
   refine W.drawK zqk zqk ?_
   repeat (first|refine DK.st rfl ?_|refine DK.ar rfl rfl z51i ?_|refine DK.nil ?_)
   refine DK.vl rfl (zqc Tryz.func226 hB) ?_
   repeat (first|refine DK.st rfl ?_|refine DK.ar rfl rfl z51i ?_|refine DK.nil ?_)
   refine zqg34 ?_
   exact W.ret zqr
  ·rw [decide_eq_false hr]
   have hr2:(12*(o+1)+b+al < 0)∨(¬ 12*(o+1)+b+al < 0∧127 < 12*(o+1)+b+al):=by omega
   rcases hr2 with h|h
   all_goals
    refine zqg34 ?_
    refine W.drawK zqk zqk ?_
    repeat (first|refine DK.st rfl ?_|refine DK.ar rfl rfl z51i ?_|refine DK.nil ?_)
    refine DK.vl rfl (zqc Tryz.func226 hB) ?_
    repeat (first|refine DK.st rfl ?_|refine DK.ar rfl rfl z51i ?_|refine DK.nil ?_)
    refine zqg34 ?_
    exact W.ret zqr
theorem rSounding_FS (l al o:Int):Ctr Tryz.prog 167 [.ag [.sc (.int .i64 l),.sc (.int .i64 al),.sc (.int .i64 o)]] (.tu [.sc (.int .i64 (sndR l al o)),.sc (.int .i64 (sndX l al o))]):=by
 refine zqe Tryz.func167 Tryz.ntmps167 fun w0 F0=>?_;dsimp only [St.init,number,Nat.reduceAdd]
 refine zqg52 ?_
 refine WL.vl rfl (WV.call rfl (callF Tryz.func225 rfl rfl) rfl rfl (rRight_FS l al o)) ?_
 cases hok:sndOk l al o with
 | false =>
  rw [(snd_no hok).1,(snd_no hok).2]
  refine zqg53 ?_
  exact W.ret (fin2 rfl rfl rfl rfl rfl rfl rfl)
 | true =>
  obtain ⟨⟨⟨h1,h2⟩,⟨h3,h4⟩,h5,h6⟩,hv⟩:=sndOk_of hok
  have hbd:=basV_bd ⟨h1,h2⟩
  have hB:=rBase_FS l ⟨h1,h2⟩
  have hR:sndR l al o=12*(o+1)+basV l+al:=(snd_ok hok).1
  obtain ⟨b,hb⟩:∃ b,basV l=b:=⟨_,rfl⟩
  rw [hb] at hbd hB hR
  rw [hR,(snd_ok hok).2]
  refine zqg53 ?_
  refine W.drawK zqk zqk ?_
  repeat (first|refine DK.st rfl ?_|refine DK.ar rfl rfl z51i ?_|refine DK.nil ?_)
  refine DK.vl rfl (zqc Tryz.func226 hB) ?_
  repeat (first|refine DK.st rfl ?_|refine DK.ar rfl rfl z51i ?_|refine DK.nil ?_)
  refine zqg53 ?_
  exact W.ret (fin2 rfl rfl rfl rfl rfl rfl rfl)
end Go.Proofs.YthehkchjdkdbiaaGreatDoor
