/- Notes of the staff, their names, the text of an instrument: the program. -/
import Derived.Test.YthehkchjdkdbiaaGreatDoorRqAGq
import Derived.Test.YthehkchjdkdbiaaGreatDoorRInsGq
set_option maxHeartbeats 4000000
set_option maxRecDepth 100000
set_option linter.unusedVariables false
set_option linter.unusedSimpArgs false
namespace Go.Proofs.YthehkchjdkdbiaaGreatDoor
open Go.RowKit
theorem pSounding_G (l al o:Int):Ctg tabB Tryz.prog 173 [.ag [.sc (.int .i64 l),.sc (.int .i64 al),.sc (.int .i64 o)]] (.tu [.sc (.int .i64 (sndR l al o)),.sc (.int .i64 (sndX l al o))]):=by
 refine Ctg.intro stabB Tryz.func173 rfl Tryz.ntmps173 (Nat.le_of_ble_eq_true rfl) (bd_all rfl) fun w0 F0 hB=>?_;dsimp only [St.init,number,Nat.reduceAdd]
 have hc:(l < 0∨(¬ l < 0∧7≤l)∨(¬ l < 0∧¬ 7≤l∧al < -1)∨(¬ l < 0∧¬ 7≤l∧¬ al < -1∧1 < al)∨(¬ l < 0∧¬ 7≤l∧¬ al < -1∧¬ 1 < al∧o < -1)∨(¬ l < 0∧¬ 7≤l∧¬ al < -1∧¬ 1 < al∧¬ o < -1∧9 < o))∨sndIn l al o:=by unfold sndIn;omega
 rcases hc with hc|hc
 ·have hno:=sndOk_out (l:=l) (al:=al) (o:=o) (by unfold sndIn;omega)
  rw [(snd_no hno).1,(snd_no hno).2]
  rcases hc with h|h|h|h|h|h
  all_goals
   refine zqg32 ?_
   exact W.ret (fin2 rfl rfl rfl rfl rfl rfl rfl)
 ·obtain ⟨⟨h1,h2⟩,⟨h3,h4⟩,h5,h6⟩:=id hc
  have hbd:=basV_bd ⟨h1,h2⟩
  have htab:=tab_bases ⟨h1,h2⟩
  have hin:=sndOk_in hc
  have hv:sndV l al o=12*(o+1)+basV l+al:=rfl
  have hR:sndOk l al o=true→sndR l al o=12*(o+1)+basV l+al:=fun h=>(snd_ok h).1
  obtain ⟨b,hb⟩:∃ b,basV l=b:=⟨_,rfl⟩
  rw [hb] at hbd htab hv hR
  refine zqg32 ?_
  refine W.drawK zqk zqk ?_
  repeat (first|refine DK.st rfl ?_|refine DK.ar rfl rfl (by unfold I64;omega) ?_|refine DK.nil ?_)
  refine DK.glob hB rfl rfl ⟨h1,by omega⟩ htab rfl ?_
  repeat (first|refine DK.st rfl ?_|refine DK.ar rfl rfl (by unfold I64;omega) ?_|refine DK.nil ?_)
  by_cases hr:0≤12*(o+1)+b+al∧12*(o+1)+b+al≤127
  ·have hok:sndOk l al o=true:=by rw [hin,hv];simpa using hr
   rw [hR hok,(snd_ok hok).2]
   refine zqg32 ?_
   exact W.ret (fin2 rfl rfl rfl rfl rfl rfl rfl)
  ·have hok:sndOk l al o=false:=by rw [hin,hv];simpa using hr
   rw [(snd_no hok).1,(snd_no hok).2]
   have hr2:(12*(o+1)+b+al < 0)∨(¬ 12*(o+1)+b+al < 0∧127 < 12*(o+1)+b+al):=by omega
   rcases hr2 with h|h
   all_goals
    refine zqg32 ?_
    exact W.ret (fin2 rfl rfl rfl rfl rfl rfl rfl)
theorem pSpell_G (p key:Int):Ctg tabB Tryz.prog 106 [.sc (.int .i64 p),.sc (.int .i64 key)] (.tu [eSp (spV p key),.sc (.int .i64 (spX p key))]):=by
 refine Ctg.intro stabB Tryz.func106 rfl Tryz.ntmps106 (Nat.le_of_ble_eq_true rfl) (bd_all rfl) fun w0 F0 hB=>?_;dsimp only [St.init,number,Nat.reduceAdd]
 by_cases hp:0≤p∧p≤127
 rotate_left
 ·rw [(sp_pitch hp).1,(sp_pitch hp).2]
  have hp2:p < 0∨(¬ p < 0∧127 < p):=by omega
  rcases hp2 with h|h
  all_goals
   refine zqg58 ?_
   exact W.ret (finN rfl rfl rfl rfl)
 by_cases hk:-4≤key∧key≤4
 rotate_left
 ·rw [(sp_arg hp hk).1,(sp_arg hp hk).2]
  have hk2:key < -4∨(¬ key < -4∧4 < key):=by omega
  rcases hk2 with h|h
  all_goals
   refine zqg58 ?_
   exact W.ret (finN rfl rfl rfl rfl)
 refine zqg58 ?_
 refine W.loop (fun k:Nat=>k≤7∧∀ m,m < 3*k→spN p key m=false) (fun k=>⟨[(0,.sc (.int .i64 p)),(1,.sc (.int .i64 key)),(4,.pt 0 0 0),(27,.sc (.int .i64 k))],[(0,.box 182 [.sc (.int .i64 0),.sc (.int .i64 0),.sc (.int .i64 0)])],1⟩) (fun k=>7 - k) 0 ⟨by omega,by omega⟩ (zqt id) fun k hk0=>?_
 obtain ⟨hk7,hno⟩:=hk0
 by_cases hlt:k < 7
 rotate_left
 ·have hn:spP p key=none:=by unfold spP;rw [find_no fun m hm=>hno m (by omega)];rfl
  rw [(sp_none hp hk hn).1,(sp_none hp hk hn).2]
  refine zqg58 ?_
  exact W.ret (finN rfl rfl rfl rfl)
 refine zqg58 ?_
 refine W.loop (fun j:Nat=>j≤3∧∀ m,m < 3*k+j→spN p key m=false) (fun j=>⟨[(0,.sc (.int .i64 p)),(1,.sc (.int .i64 key)),(4,.pt 0 0 0),(6,.sc (.int .i64 k)),(7,.sc (.int .i64 ((j:Int) - 1))),(27,.sc (.int .i64 k))],[(0,.box 182 [.sc (.int .i64 0),.sc (.int .i64 0),.sc (.int .i64 0)])],1⟩) (fun j=>3 - j) 0 ⟨by omega,by simpa using hno⟩ (zqt id) fun j hj0=>?_
 obtain ⟨hj3,hno2⟩:=hj0
 by_cases hj:j < 3
 rotate_left
 ·refine zqg58 ?_
  refine ⟨k+1,⟨by omega,fun m hm=>hno2 m zqo⟩,by omega,?_⟩
  exact (zqt id)
 have hl:0≤(k:Int)∧(k:Int)≤6:=by omega
 have htf:=tab_fifths hl
 have htb:=tab_bases hl
 have hfb:=ftV_bd hl
 have hbb:=basV_bd hl
 have e3:(3*k+j)/3=k:=by omega
 have e4:(3*k+j) % 3=j:=by omega
 have hN:spN p key (3*k+j)=(decide (key - 3≤ftV k+7*((j:Int) - 1)∧ftV k+7*((j:Int) - 1)≤key+8) && (sndOk k ((j:Int) - 1) ((p - ((j:Int) - 1) - basV k+12)/12 - 2) && decide (sndV k ((j:Int) - 1) ((p - ((j:Int) - 1) - basV k+12)/12 - 2)=p))):=by
  unfold spN spC spWin spO;rw [e3,e4]
 have hfound:spN p key (3*k+j)=true→spP p key=some ((k:Int),(j:Int) - 1,(p - ((j:Int) - 1) - basV k+12)/12 - 2):=fun h=>by
  unfold spP
  rw [find_at hno2 h (by omega)]
  unfold spO
  simp only [Option.map_some,e3,e4]
 have hnext:spN p key (3*k+j)=false→∀ m,m < 3*k+(j+1)→spN p key m=false:=fun h m hm=>by
  by_cases e:m=3*k+j
  ·rw [e];exact h
  ·exact hno2 m zqo
 have hS:=pSounding_G k ((j:Int) - 1) ((p - ((j:Int) - 1) - basV k+12)/12 - 2)
 obtain ⟨fv,hfv⟩:∃ z,ftV k=z:=⟨_,rfl⟩
 obtain ⟨bv,hbv⟩:∃ z,basV k=z:=⟨_,rfl⟩
 rw [hfv] at htf hfb hN
 rw [hbv] at htb hbb hN hS hfound
 obtain ⟨al,hal⟩:∃ z,(j:Int) - 1=z:=⟨_,rfl⟩
 have hal2:al+1=((j+1:Nat):Int) - 1:=by omega
 rw [hal] at hN hS hfound ⊢
 by_cases hw:key - 3≤fv+7*al∧fv+7*al≤key+8
 rotate_left
 ·rw [decide_eq_false hw,Bool.false_and] at hN
  have hw2:fv+7*al < key - 3∨(¬ fv+7*al < key - 3∧key+8 < fv+7*al):=by omega
  rcases hw2 with h|h
  all_goals
   refine zqg58 ?_
   refine WL.glob hB rfl rfl ⟨by omega,by omega⟩ htf rfl ?_
   refine zqg58 ?_
   refine ⟨j+1,⟨by omega,hnext hN⟩,by omega,?_⟩
   rw [← hal2]
   exact (zqt id)
 rw [decide_eq_true hw,Bool.true_and] at hN
 refine zqg58 ?_
 refine WL.glob hB rfl rfl ⟨by omega,by omega⟩ htf rfl ?_
 refine zqg58 ?_
 refine WL.glob hB rfl rfl ⟨by omega,by omega⟩ htb rfl ?_
 refine zqg58 ?_
 refine WL.vl rfl (WV.callG hB rfl (callF Tryz.func173 rfl rfl) rfl rfl hS) ?_
 obtain ⟨oc,hoc⟩:∃ z,(p - al - bv+12)/12 - 2=z:=⟨_,rfl⟩
 rw [hoc] at hN hfound ⊢
 cases hok:sndOk k al oc with
 | false =>
  rw [hok,Bool.false_and] at hN
  rw [(snd_no hok).1,(snd_no hok).2]
  refine zqg58 ?_
  refine ⟨j+1,⟨by omega,hnext hN⟩,by omega,?_⟩
  rw [← hal2]
  exact (zqu (fun q=>q) (by repeat (first|exact trivial|refine ⟨⟨?_,?_,?_⟩,?_⟩|rfl|exact congrArg (fun q=>some (AO.row _ _ q)) (by first|rfl|(simp;done)|(simp [eInt];done)|(simp [eLk];done)))) rfl)
 | true =>
  rw [hok,Bool.true_and] at hN
  rw [(snd_ok hok).1,(snd_ok hok).2]
  by_cases hv:sndV k al oc=p
  ·rw [decide_eq_true hv] at hN
   have hr:=sp_some hp hk (hfound hN)
   rw [hr.1,hr.2]
   refine zqg58 ?_
   exact W.ret (finN rfl rfl rfl rfl)
  ·rw [decide_eq_false hv] at hN
   refine zqg58 ?_
   refine ⟨j+1,⟨by omega,hnext hN⟩,by omega,?_⟩
   rw [← hal2]
   exact (zqu (fun q=>q) (by repeat (first|exact trivial|refine ⟨⟨?_,?_,?_⟩,?_⟩|rfl|exact congrArg (fun q=>some (AO.row _ _ q)) (by first|rfl|(simp;done)|(simp [eInt];done)|(simp [eLk];done)))) rfl)
end Go.Proofs.YthehkchjdkdbiaaGreatDoor
