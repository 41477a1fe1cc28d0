/- Notes of the staff, their names, the text of an instrument: the reference. BLD -/
import Derived.Test.YtkgnmddakiagbaaGreatDoorSmXq
set_option linter.unusedVariables false
set_option linter.unusedSimpArgs false
namespace Go.Proofs.YtkgnmddakiagbaaGreatDoor
open Go.RowKit
set_option maxRecDepth 100000
set_option maxHeartbeats 4000000
theorem bas_all:((List.range 7).all fun k=>decide (basV k=if (k:Int)<3 then 2*(k:Int)else 2*(k:Int)-1))=true:=by decide
theorem rBase_FS (l:Int) (h:0≤l∧l≤6):Ctr Tryz.prog 152 [.sc (.int .i64 l)] (.sc (.int .i64 (basV l))):=by
 have hb:basV l=if l < 3 then 2*l else 2*l - 1:=by
  obtain ⟨k,rfl⟩:=Int.eq_ofNat_of_zero_le h.1
  have:=List.all_eq_true.1 bas_all k (List.mem_range.2 (by omega))
  simpa using this
 by_cases h3:l < 3
 ·rw [if_pos h3] at hb
  rw [hb]
  refine Ctr.intro Tryz.func152 rfl Tryz.ntmps152 (Nat.le_of_ble_eq_true rfl) (bd_all rfl) fun w0 F0=>?_;dsimp only [St.init,number,Nat.reduceAdd]
  repeat (first|refine W.gob rfl ?_|refine WL.nil ?_|refine WL.bt rfl rfl rfl (by omega) ?_|refine WL.e1 rfl ?_|refine WL.ar rfl rfl (by unfold I64;omega) ?_|refine W.condT rfl ?_)
  refine (?_:W _ _ _ _ _)
  dsimp only [St.put,Nat.reduceAdd]
  exact W.ret (fin1 rfl rfl rfl rfl)
 ·rw [if_neg h3] at hb
  rw [hb]
  refine Ctr.intro Tryz.func152 rfl Tryz.ntmps152 (Nat.le_of_ble_eq_true rfl) (bd_all rfl) fun w0 F0=>?_;dsimp only [St.init,number,Nat.reduceAdd]
  repeat (first|refine W.gob rfl ?_|refine WL.nil ?_|refine WL.bf rfl rfl rfl (by omega) ?_|refine WL.e1 rfl ?_|refine WL.ar rfl rfl (by unfold I64;omega) ?_|refine W.condF rfl ?_)
  refine (?_:W _ _ _ _ _)
  dsimp only [St.put,Nat.reduceAdd]
  exact W.ret (fin1 rfl rfl rfl rfl)
theorem rRight_FS (l al o:Int):Ctr Tryz.prog 151 [.ag [.sc (.int .i64 l),.sc (.int .i64 al),.sc (.int .i64 o)]] (.sc (.bool (sndOk l al o))):=by
 refine Ctr.intro Tryz.func151 rfl Tryz.ntmps151 (Nat.le_of_ble_eq_true rfl) (bd_all rfl) fun w0 F0=>?_;dsimp only [St.init,number,Nat.reduceAdd]
 have hc:(l < 0∨(¬ l < 0∧6 < l)∨(¬ l < 0∧¬ 6 < l∧al < -1)∨(¬ l < 0∧¬ 6 < l∧¬ al < -1∧1 < al)∨(¬ l < 0∧¬ 6 < l∧¬ al < -1∧¬ 1 < al∧o < -1)∨(¬ l < 0∧¬ 6 < l∧¬ al < -1∧¬ 1 < al∧¬ o < -1∧9 < o))∨sndIn l al o:=by unfold sndIn;omega
 rcases hc with hc|hc
 ·have hno:=sndOk_out (l:=l) (al:=al) (o:=o) (by unfold sndIn;omega)
  rw [hno]
  rcases hc with h|h|h|h|h|h
  all_goals
   repeat (first|refine W.gob rfl ?_|refine WL.nil ?_|refine WL.bt rfl rfl rfl (by omega) ?_|refine WL.bf rfl rfl rfl (by omega) ?_|refine WL.e1 rfl ?_|refine WL.gyes rfl rfl rfl rfl ?_|refine WL.opno rfl rfl rfl rfl rfl rfl rfl ?_|refine W.condT rfl ?_)
   refine (?_:W _ _ _ _ _)
   dsimp only [St.put,Nat.reduceAdd]
   exact W.ret (fin1 rfl rfl rfl rfl)
 ·obtain ⟨⟨h1,h2⟩,⟨h3,h4⟩,h5,h6⟩:=id hc
  have hbd:=basV_bd ⟨h1,h2⟩
  have hB:=rBase_FS l ⟨h1,h2⟩
  have hin:=sndOk_in hc
  unfold sndV at hin
  obtain ⟨b,hb⟩:∃ b,basV l=b:=⟨_,rfl⟩
  rw [hb] at hbd hB hin
  rw [hin]
  by_cases hr:0≤12*(o+1)+b+al∧12*(o+1)+b+al≤127
  ·rw [decide_eq_true hr]
   repeat (first|refine W.gob rfl ?_|refine WL.nil ?_|refine WL.bf rfl rfl rfl (by omega) ?_|refine WL.e1 rfl ?_|refine WL.gyes rfl rfl rfl rfl ?_|refine W.condF rfl ?_)
   refine (?_:W _ _ _ _ _)
   dsimp only [St.put,Nat.reduceAdd]
   refine W.drawK (by kernel_rfl) (by kernel_rfl) ?_
   repeat (first|refine DK.st rfl ?_|refine DK.ar rfl rfl (by unfold I64;omega) ?_)
   refine DK.vl rfl (WV.call rfl (callF Tryz.func152 rfl rfl) rfl rfl hB) ?_
   repeat (first|refine DK.st rfl ?_|refine DK.ar rfl rfl (by unfold I64;omega) ?_|refine DK.nil ?_)
   repeat (first|refine W.gob rfl ?_|refine WL.nil ?_|refine WL.bt rfl rfl rfl (by omega) ?_|refine WL.e1 rfl ?_|refine WL.gyes rfl rfl rfl rfl ?_)
   refine (?_:W _ _ _ _ _)
   dsimp only [St.put,Nat.reduceAdd]
   exact W.ret (fin1 rfl rfl rfl rfl)
  ·rw [decide_eq_false hr]
   have hr2:(12*(o+1)+b+al < 0)∨(¬ 12*(o+1)+b+al < 0∧127 < 12*(o+1)+b+al):=by omega
   rcases hr2 with h|h
   all_goals
    repeat (first|refine W.gob rfl ?_|refine WL.nil ?_|refine WL.bf rfl rfl rfl (by omega) ?_|refine WL.e1 rfl ?_|refine WL.gyes rfl rfl rfl rfl ?_|refine W.condF rfl ?_)
    refine (?_:W _ _ _ _ _)
    dsimp only [St.put,Nat.reduceAdd]
    refine W.drawK (by kernel_rfl) (by kernel_rfl) ?_
    repeat (first|refine DK.st rfl ?_|refine DK.ar rfl rfl (by unfold I64;omega) ?_)
    refine DK.vl rfl (WV.call rfl (callF Tryz.func152 rfl rfl) rfl rfl hB) ?_
    repeat (first|refine DK.st rfl ?_|refine DK.ar rfl rfl (by unfold I64;omega) ?_|refine DK.nil ?_)
    repeat (first|refine W.gob rfl ?_|refine WL.nil ?_|refine WL.bt rfl rfl rfl (by omega) ?_|refine WL.bf rfl rfl rfl (by omega) ?_|refine WL.e1 rfl ?_|refine WL.gyes rfl rfl rfl rfl ?_|refine WL.opno rfl rfl rfl rfl rfl rfl rfl ?_)
    refine (?_:W _ _ _ _ _)
    dsimp only [St.put,Nat.reduceAdd]
    exact W.ret (fin1 rfl rfl rfl rfl)
theorem rSounding_FS (l al o:Int):Ctr Tryz.prog 92 [.ag [.sc (.int .i64 l),.sc (.int .i64 al),.sc (.int .i64 o)]] (.tu [.sc (.int .i64 (sndR l al o)),.sc (.int .i64 (sndX l al o))]):=by
 refine Ctr.intro Tryz.func92 rfl Tryz.ntmps92 (Nat.le_of_ble_eq_true rfl) (bd_all rfl) fun w0 F0=>?_;dsimp only [St.init,number,Nat.reduceAdd]
 repeat refine W.go rfl ?_
 refine (?_:WL _ _ _ _ _ _)
 dsimp only [St.put,Nat.reduceAdd]
 refine WL.vl rfl (WV.call rfl (callF Tryz.func151 rfl rfl) rfl rfl (rRight_FS l al o)) ?_
 cases hok:sndOk l al o with
 | false =>
  rw [(snd_no hok).1,(snd_no hok).2]
  repeat (first|refine W.gob rfl ?_|refine WL.nil ?_|refine WL.e1 rfl ?_|refine W.condT rfl ?_)
  refine (?_:W _ _ _ _ _)
  dsimp only [St.put,Nat.reduceAdd]
  exact W.ret (fin2 rfl rfl rfl rfl rfl rfl rfl)
 | true =>
  obtain ⟨⟨⟨h1,h2⟩,⟨h3,h4⟩,h5,h6⟩,hv⟩:=sndOk_of hok
  have hbd:=basV_bd ⟨h1,h2⟩
  have hB:=rBase_FS l ⟨h1,h2⟩
  have hR:sndR l al o=12*(o+1)+basV l+al:=(snd_ok hok).1
  obtain ⟨b,hb⟩:∃ b,basV l=b:=⟨_,rfl⟩
  rw [hb] at hbd hB hR
  rw [hR,(snd_ok hok).2]
  repeat (first|refine W.gob rfl ?_|refine WL.nil ?_|refine WL.e1 rfl ?_|refine W.condF rfl ?_)
  refine (?_:W _ _ _ _ _)
  dsimp only [St.put,Nat.reduceAdd]
  refine W.drawK (by kernel_rfl) (by kernel_rfl) ?_
  repeat (first|refine DK.st rfl ?_|refine DK.ar rfl rfl (by unfold I64;omega) ?_)
  refine DK.vl rfl (WV.call rfl (callF Tryz.func152 rfl rfl) rfl rfl hB) ?_
  repeat (first|refine DK.st rfl ?_|refine DK.ar rfl rfl (by unfold I64;omega) ?_|refine DK.nil ?_)
  refine (?_:W _ _ _ _ _)
  dsimp only [St.put,Nat.reduceAdd]
  exact W.ret (fin2 rfl rfl rfl rfl rfl rfl rfl)
theorem rPos_FS (l al:Int) (h:0≤l∧l≤6) (ha:-1≤al∧al≤1):Ctr Tryz.prog 142 [.sc (.int .i64 l),.sc (.int .i64 al)] (.sc (.int .i64 (ftV l+7*al))):=by
 have h7:l=0∨l=1∨l=2∨l=3∨l=4∨l=5∨l=6:=by omega
 rcases h7 with rfl|rfl|rfl|rfl|rfl|rfl|rfl
 all_goals
  refine Ctr.intro Tryz.func142 rfl Tryz.ntmps142 (Nat.le_of_ble_eq_true rfl) (bd_all rfl) fun w0 F0=>?_;dsimp only [St.init,number,Nat.reduceAdd]
  repeat (first|refine W.gob rfl ?_|refine WL.nil ?_|refine WL.e1 rfl ?_|refine WL.ar rfl rfl (by unfold I64;omega) ?_|refine WL.ixs rfl rfl (by first|omega|(simp;done)|(simp;omega)) ?_)
  refine (?_:W _ _ _ _ _)
  dsimp only [St.put,Nat.reduceAdd]
  exact W.ret (fin1 rfl rfl rfl rfl)
theorem rSpell_FS (p key:Int):Ctr Tryz.prog 69 [.sc (.int .i64 p),.sc (.int .i64 key)] (.tu [eSp (spV p key),.sc (.int .i64 (spX p key))]):=by
 refine Ctr.intro Tryz.func69 rfl Tryz.ntmps69 (Nat.le_of_ble_eq_true rfl) (bd_all rfl) fun w0 F0=>?_;dsimp only [St.init,number,Nat.reduceAdd]
 by_cases hp:0≤p∧p≤127
 rotate_left
 ·rw [(sp_pitch hp).1,(sp_pitch hp).2]
  have hp2:p < 0∨(¬ p < 0∧127 < p):=by omega
  rcases hp2 with h|h
  all_goals
   repeat (first|refine W.gob rfl ?_|refine WL.nil ?_|refine WL.bt rfl rfl rfl (by omega) ?_|refine WL.bf rfl rfl rfl (by omega) ?_|refine WL.e1 rfl ?_|refine WL.gyes rfl rfl rfl rfl ?_|refine WL.opno rfl rfl rfl rfl rfl rfl rfl ?_|refine W.condT rfl ?_)
   refine (?_:W _ _ _ _ _)
   dsimp only [St.put,Nat.reduceAdd]
   exact W.ret (finN rfl rfl rfl rfl)
 by_cases hk:-4≤key∧key≤4
 rotate_left
 ·rw [(sp_arg hp hk).1,(sp_arg hp hk).2]
  have hk2:key < -4∨(¬ key < -4∧4 < key):=by omega
  rcases hk2 with h|h
  all_goals
   repeat (first|refine W.gob rfl ?_|refine WL.nil ?_|refine WL.bt rfl rfl rfl (by omega) ?_|refine WL.bf rfl rfl rfl (by omega) ?_|refine WL.e1 rfl ?_|refine WL.gyes rfl rfl rfl rfl ?_|refine WL.opno rfl rfl rfl rfl rfl rfl rfl ?_|refine W.condT rfl ?_|refine W.condF rfl ?_)
   refine (?_:W _ _ _ _ _)
   dsimp only [St.put,Nat.reduceAdd]
   exact W.ret (finN rfl rfl rfl rfl)
 have hlaw:=sp_law hp hk
 repeat (first|refine W.gob rfl ?_|refine WL.nil ?_|refine WL.bf rfl rfl rfl (by omega) ?_|refine WL.e1 rfl ?_|refine WL.gyes rfl rfl rfl rfl ?_|refine W.condF rfl ?_)
 refine (?_:W _ _ _ _ _)
 dsimp only [St.put,Nat.reduceAdd]
 refine W.loop (fun i:Nat=>i≤11∧∀ m,m < 21*i→rfN p key m=false) (fun i=>⟨[(0,.sc (.int .i64 p)),(1,.sc (.int .i64 key)),(4,.pt 0 0 0),(6,.sc (.int .i64 ((i:Int) - 1)))],[(0,.box 128 [.sc (.int .i64 0),.sc (.int .i64 0),.sc (.int .i64 0)])],1⟩) (fun i=>11 - i) 0 ⟨by omega,by omega⟩ (Tr.ren id (by repeat (first|exact trivial|refine ⟨⟨?_,?_⟩,?_⟩|rfl)) (by repeat (first|exact trivial|refine ⟨⟨?_,?_,?_⟩,?_⟩|rfl)) rfl) fun i hi0=>?_
 obtain ⟨hi11,hno⟩:=hi0
 by_cases hi:i < 11
 rotate_left
 ·have hn:spP p key=none:=by rw [← hlaw];unfold spR;rw [find_no fun m hm=>hno m (by omega)];rfl
  rw [(sp_none hp hk hn).1,(sp_none hp hk hn).2]
  repeat (first|refine W.gob rfl ?_|refine WL.nil ?_|refine WL.bf rfl rfl rfl (by omega) ?_|refine WL.e1 rfl ?_|refine W.condF rfl ?_)
  refine (?_:W _ _ _ _ _)
  dsimp only [St.put,Nat.reduceAdd]
  exact W.ret (finN rfl rfl rfl rfl)
 obtain ⟨o,ho⟩:∃ z,(i:Int) - 1=z:=⟨_,rfl⟩
 have ho2:o+1=((i+1:Nat):Int) - 1:=by omega
 rw [ho]
 repeat (first|refine W.gob rfl ?_|refine WL.nil ?_|refine WL.bt rfl rfl rfl (by omega) ?_|refine WL.e1 rfl ?_|refine W.condT rfl ?_)
 refine (?_:W _ _ _ _ _)
 dsimp only [St.put,Nat.reduceAdd]
 refine W.loop (fun k:Nat=>k≤7∧∀ m,m < 21*i+3*k→rfN p key m=false) (fun k=>⟨[(0,.sc (.int .i64 p)),(1,.sc (.int .i64 key)),(4,.pt 0 0 0),(6,.sc (.int .i64 o)),(7,.sc (.int .i64 k))],[(0,.box 128 [.sc (.int .i64 0),.sc (.int .i64 0),.sc (.int .i64 0)])],1⟩) (fun k=>7 - k) 0 ⟨by omega,by simpa using hno⟩ (Tr.ren id (by repeat (first|exact trivial|refine ⟨⟨?_,?_⟩,?_⟩|rfl)) (by repeat (first|exact trivial|refine ⟨⟨?_,?_,?_⟩,?_⟩|rfl)) rfl) fun k hk0=>?_
 obtain ⟨hk7,hno1⟩:=hk0
 by_cases hlt:k < 7
 rotate_left
 ·repeat (first|refine W.gob rfl ?_|refine WL.nil ?_|refine WL.bf rfl rfl rfl (by omega) ?_|refine WL.e1 rfl ?_|refine WL.ar rfl rfl (by unfold I64;omega) ?_|refine W.condF rfl ?_)
  dsimp only [St.put,Nat.reduceAdd]
  refine ⟨i+1,⟨by omega,fun m hm=>hno1 m (by omega)⟩,by omega,?_⟩
  rw [← ho2]
  exact (Tr.ren id (by repeat (first|exact trivial|refine ⟨⟨?_,?_⟩,?_⟩|rfl)) (by repeat (first|exact trivial|refine ⟨⟨?_,?_,?_⟩,?_⟩|rfl)) rfl)
 repeat (first|refine W.gob rfl ?_|refine WL.nil ?_|refine WL.bt rfl rfl rfl (by omega) ?_|refine WL.e1 rfl ?_|refine W.condT rfl ?_)
 refine (?_:W _ _ _ _ _)
 dsimp only [St.put,Nat.reduceAdd]
 refine W.loop (fun j:Nat=>j≤3∧∀ m,m < 21*i+3*k+j→rfN p key m=false) (fun j=>⟨[(0,.sc (.int .i64 p)),(1,.sc (.int .i64 key)),(4,.pt 0 0 0),(6,.sc (.int .i64 o)),(7,.sc (.int .i64 k)),(8,.sc (.int .i64 ((j:Int) - 1)))],[(0,.box 128 [.sc (.int .i64 0),.sc (.int .i64 0),.sc (.int .i64 0)])],1⟩) (fun j=>3 - j) 0 ⟨by omega,by simpa using hno1⟩ (Tr.ren id (by repeat (first|exact trivial|refine ⟨⟨?_,?_⟩,?_⟩|rfl)) (by repeat (first|exact trivial|refine ⟨⟨?_,?_,?_⟩,?_⟩|rfl)) rfl) fun j hj0=>?_
 obtain ⟨hj3,hno2⟩:=hj0
 by_cases hj:j < 3
 rotate_left
 ·repeat (first|refine W.gob rfl ?_|refine WL.nil ?_|refine WL.bf rfl rfl rfl (by omega) ?_|refine WL.e1 rfl ?_|refine WL.ar rfl rfl (by unfold I64;omega) ?_|refine W.condF rfl ?_)
  dsimp only [St.put,Nat.reduceAdd]
  refine ⟨k+1,⟨by omega,fun m hm=>hno2 m (by omega)⟩,by omega,?_⟩
  exact (Tr.ren id (by repeat (first|exact trivial|refine ⟨⟨?_,?_⟩,?_⟩|rfl)) (by repeat (first|exact trivial|refine ⟨⟨?_,?_,?_⟩,?_⟩|rfl)) rfl)
 have hl:0≤(k:Int)∧(k:Int)≤6:=by omega
 have hfb:=ftV_bd hl
 have e3:(21*i+3*k+j) % 21/3=k:=by omega
 have e4:(21*i+3*k+j) % 3=j:=by omega
 have e5:(21*i+3*k+j)/21=i:=by omega
 have hN:rfN p key (21*i+3*k+j)=(decide (key - 3≤ftV k+7*((j:Int) - 1)∧ftV k+7*((j:Int) - 1)≤key+8) && (sndOk k ((j:Int) - 1) ((i:Int) - 1) && decide (sndV k ((j:Int) - 1) ((i:Int) - 1)=p))):=by
  unfold rfN spC spWin;rw [e3,e4,e5]
 have hfound:rfN p key (21*i+3*k+j)=true→spP p key=some ((k:Int),(j:Int) - 1,(i:Int) - 1):=fun h=>by
  rw [← hlaw]
  unfold spR
  rw [find_at hno2 h (by omega)]
  simp only [Option.map_some,e3,e4,e5]
 have hnext:rfN p key (21*i+3*k+j)=false→∀ m,m < 21*i+3*k+(j+1)→rfN p key m=false:=fun h m hm=>by
  by_cases e:m=21*i+3*k+j
  ·rw [e];exact h
  ·exact hno2 m (by omega)
 have hP:=rPos_FS k ((j:Int) - 1) hl (by omega)
 have hS:=rSounding_FS k ((j:Int) - 1) ((i:Int) - 1)
 obtain ⟨at_,hat⟩:∃ z,ftV k+7*((j:Int) - 1)=z:=⟨_,rfl⟩
 have hatb:-8≤at_∧at_≤12:=by omega
 rw [hat] at hN hP
 obtain ⟨al,hal⟩:∃ z,(j:Int) - 1=z:=⟨_,rfl⟩
 have hal2:al+1=((j+1:Nat):Int) - 1:=by omega
 rw [hal,ho] at hN hS hfound
 rw [hal] at hP ⊢
 repeat (first|refine W.gob rfl ?_|refine WL.nil ?_|refine WL.bt rfl rfl rfl (by omega) ?_|refine WL.e1 rfl ?_|refine W.condT rfl ?_)
 refine (?_:WL _ _ _ _ _ _)
 dsimp only [St.put,Nat.reduceAdd]
 refine WL.vl rfl (WV.call rfl (callF Tryz.func142 rfl rfl) rfl rfl hP) ?_
 repeat (first|refine W.gob rfl ?_|refine WL.nil ?_|refine WL.e1 rfl ?_)
 refine (?_:WL _ _ _ _ _ _)
 dsimp only [St.put,Nat.reduceAdd]
 refine WL.vl rfl (WV.call rfl (callF Tryz.func92 rfl rfl) rfl rfl hS) ?_
 cases hok:sndOk k al o with
 | false =>
  rw [hok,Bool.false_and,Bool.and_false] at hN
  rw [(snd_no hok).1,(snd_no hok).2]
  repeat (first|refine W.gob rfl ?_|refine WL.nil ?_|refine WL.bf rfl rfl rfl (by omega) ?_|refine WL.e1 rfl ?_|refine WL.opno rfl rfl rfl rfl rfl rfl rfl ?_|refine WL.ar rfl rfl (by unfold I64;omega) ?_|refine W.condF rfl ?_)
  dsimp only [St.put,Nat.reduceAdd]
  refine ⟨j+1,⟨by omega,hnext hN⟩,by omega,?_⟩
  rw [← hal2]
  exact (Tr.ren (fun q=>q) (by repeat (first|exact trivial|refine ⟨⟨?_,?_⟩,?_⟩|rfl)) (by repeat (first|exact trivial|refine ⟨⟨?_,?_,?_⟩,?_⟩|rfl|exact congrArg (fun q=>some (AO.row _ _ q)) (by first|rfl|(simp;done)|(simp [eInt];done)|(simp [eLk];done)))) rfl)
 | true =>
  rw [hok,Bool.true_and] at hN
  rw [(snd_ok hok).1,(snd_ok hok).2]
  by_cases hv:sndV k al o=p
  ·rw [decide_eq_true hv,Bool.and_true] at hN
   by_cases hw:key - 3≤at_∧at_≤key+8
   ·rw [decide_eq_true hw] at hN
    have hr:=sp_some hp hk (hfound hN)
    rw [hr.1,hr.2]
    repeat (first|refine W.gob rfl ?_|refine WL.nil ?_|refine WL.bt rfl rfl rfl (by omega) ?_|refine WL.e1 rfl ?_|refine WL.gyes rfl rfl rfl rfl ?_|refine WL.ar rfl rfl (by unfold I64;omega) ?_|refine W.condT rfl ?_)
    refine (?_:W _ _ _ _ _)
    dsimp only [St.put,Nat.reduceAdd]
    exact W.ret (finN rfl rfl rfl rfl)
   ·rw [decide_eq_false hw] at hN
    have hw2:at_ < key - 3∨(¬ at_ < key - 3∧key+8 < at_):=by omega
    rcases hw2 with h|h
    all_goals
     repeat (first|refine W.gob rfl ?_|refine WL.nil ?_|refine WL.bt rfl rfl rfl (by omega) ?_|refine WL.bf rfl rfl rfl (by omega) ?_|refine WL.e1 rfl ?_|refine WL.gyes rfl rfl rfl rfl ?_|refine WL.opno rfl rfl rfl rfl rfl rfl rfl ?_|refine WL.ar rfl rfl (by unfold I64;omega) ?_|refine W.condF rfl ?_)
     dsimp only [St.put,Nat.reduceAdd]
     refine ⟨j+1,⟨by omega,hnext hN⟩,by omega,?_⟩
     rw [← hal2]
     exact (Tr.ren (fun q=>q) (by repeat (first|exact trivial|refine ⟨⟨?_,?_⟩,?_⟩|rfl)) (by repeat (first|exact trivial|refine ⟨⟨?_,?_,?_⟩,?_⟩|rfl|exact congrArg (fun q=>some (AO.row _ _ q)) (by first|rfl|(simp;done)|(simp [eInt];done)|(simp [eLk];done)))) rfl)
  ·rw [decide_eq_false hv,Bool.and_false] at hN
   repeat (first|refine W.gob rfl ?_|refine WL.nil ?_|refine WL.bt rfl rfl rfl (by omega) ?_|refine WL.bf rfl rfl rfl (by omega) ?_|refine WL.e1 rfl ?_|refine WL.gyes rfl rfl rfl rfl ?_|refine WL.opno rfl rfl rfl rfl rfl rfl rfl ?_|refine WL.ar rfl rfl (by unfold I64;omega) ?_|refine W.condF rfl ?_)
   dsimp only [St.put,Nat.reduceAdd]
   refine ⟨j+1,⟨by omega,hnext hN⟩,by omega,?_⟩
   rw [← hal2]
   exact (Tr.ren (fun q=>q) (by repeat (first|exact trivial|refine ⟨⟨?_,?_⟩,?_⟩|rfl)) (by repeat (first|exact trivial|refine ⟨⟨?_,?_,?_⟩,?_⟩|rfl|exact congrArg (fun q=>some (AO.row _ _ q)) (by first|rfl|(simp;done)|(simp [eInt];done)|(simp [eLk];done)))) rfl)
theorem rDec_nat:∀ (n:Nat) (k:Nat),k≤n→k≤1000000000→Ctr Tryz.prog 128 [.sc (.int .i64 (k:Int))] (.sc (.string (bs (Lib.itoa k)))):=by
 intro n
 induction n with
 | zero =>
  intro k hk _
  obtain rfl:k=0:=by omega
  have ht:=itoa_one ((0:Nat):Int) (by omega)
  rw [ht]
  have hcb:0≤((0:Nat):Int) % 10∧((0:Nat):Int) % 10≤((0:Nat):Int) % 10+1∧((0:Nat):Int) % 10+1≤(([48,49,50,51,52,53,54,55,56,57]:List UInt8).length:Int):=⟨by omega,by omega,by simp⟩
  refine Ctr.intro Tryz.func128 rfl Tryz.ntmps128 (Nat.le_of_ble_eq_true rfl) (bd_all rfl) fun w0 F0=>?_;dsimp only [St.init,number,Nat.reduceAdd]
  repeat (first|refine W.gob rfl ?_|refine WL.nil ?_|refine WL.bf rfl rfl rfl (by omega) ?_|refine WL.e1 rfl ?_|refine WL.ar rfl rfl (by unfold I64;omega) ?_|refine WL.div rfl rfl (by omega) ?_|refine W.condF rfl ?_)
  refine (?_:WL _ _ _ _ _ _)
  dsimp only [St.put,Nat.reduceAdd]
  refine WL.cut rfl rfl hcb ?_
  repeat (first|refine W.gob rfl ?_|refine WL.nil ?_|refine WL.bt rfl rfl rfl (by omega) ?_|refine WL.e1 rfl ?_|refine W.condT rfl ?_)
  refine (?_:W _ _ _ _ _)
  dsimp only [St.put,Nat.reduceAdd]
  exact W.ret (fin1 rfl rfl rfl rfl)
 | succ n ih =>
  intro k hk hb
  have hcb:0≤(k:Int) % 10∧(k:Int) % 10≤(k:Int) % 10+1∧(k:Int) % 10+1≤(([48,49,50,51,52,53,54,55,56,57]:List UInt8).length:Int):=⟨by omega,by omega,by simp;omega⟩
  have hcl:(cut [48,49,50,51,52,53,54,55,56,57] ((k:Int) % 10) ((k:Int) % 10+1)).length≤1:=by simp only [cut,List.length_take,List.length_drop];omega
  by_cases h10:k < 10
  ·rw [itoa_one (k:Int) (by omega)]
   refine Ctr.intro Tryz.func128 rfl Tryz.ntmps128 (Nat.le_of_ble_eq_true rfl) (bd_all rfl) fun w0 F0=>?_;dsimp only [St.init,number,Nat.reduceAdd]
   repeat (first|refine W.gob rfl ?_|refine WL.nil ?_|refine WL.bf rfl rfl rfl (by omega) ?_|refine WL.e1 rfl ?_|refine WL.ar rfl rfl (by unfold I64;omega) ?_|refine WL.div rfl rfl (by omega) ?_|refine W.condF rfl ?_)
   refine (?_:WL _ _ _ _ _ _)
   dsimp only [St.put,Nat.reduceAdd]
   refine WL.cut rfl rfl hcb ?_
   repeat (first|refine W.gob rfl ?_|refine WL.nil ?_|refine WL.bt rfl rfl rfl (by omega) ?_|refine WL.e1 rfl ?_|refine W.condT rfl ?_)
   refine (?_:W _ _ _ _ _)
   dsimp only [St.put,Nat.reduceAdd]
   exact W.ret (fin1 rfl rfl rfl rfl)
  ·have hih:=ih (k/10) (by omega) (by omega)
   have hil:=itoa_len (n:=((k/10:Nat):Int)) (by omega)
   have ht:=itoa_ten (k:Int) (by omega)
   have e:((k/10:Nat):Int)=(k:Int)/10:=by omega
   rw [e] at hih hil
   rw [ht]
   refine Ctr.intro Tryz.func128 rfl Tryz.ntmps128 (Nat.le_of_ble_eq_true rfl) (bd_all rfl) fun w0 F0=>?_;dsimp only [St.init,number,Nat.reduceAdd]
   repeat (first|refine W.gob rfl ?_|refine WL.nil ?_|refine WL.bf rfl rfl rfl (by omega) ?_|refine WL.e1 rfl ?_|refine WL.ar rfl rfl (by unfold I64;omega) ?_|refine WL.div rfl rfl (by omega) ?_|refine W.condF rfl ?_)
   refine (?_:WL _ _ _ _ _ _)
   dsimp only [St.put,Nat.reduceAdd]
   refine WL.cut rfl rfl hcb ?_
   repeat (first|refine W.gob rfl ?_|refine WL.nil ?_|refine WL.bf rfl rfl rfl (by omega) ?_|refine WL.e1 rfl ?_|refine WL.div rfl rfl (by omega) ?_|refine W.condF rfl ?_)
   refine (?_:WL _ _ _ _ _ _)
   dsimp only [St.put,Nat.reduceAdd]
   refine WL.vl rfl (WV.call rfl (callF Tryz.func128 rfl rfl) rfl rfl hih) ?_
   repeat (first|refine WL.nil ?_|refine WL.e1 rfl ?_|refine WL.cat rfl rfl (by first|omega|(simp;done)|(simp;omega)) ?_)
   refine (?_:W _ _ _ _ _)
   dsimp only [St.put,Nat.reduceAdd]
   exact W.ret (fin1 rfl rfl rfl rfl)
theorem rDec_FS (n:Int) (h:-1000000000≤n∧n≤1000000000):Ctr Tryz.prog 128 [.sc (.int .i64 n)] (.sc (.string (bs (Lib.itoa n)))):=by
 by_cases h0:0≤n
 ·obtain ⟨k,rfl⟩:=Int.eq_ofNat_of_zero_le h0
  exact rDec_nat k k (Nat.le_refl _) (by omega)
 ·obtain ⟨k,hk⟩:=Int.eq_ofNat_of_zero_le (show 0≤0 - n by omega)
  have hih:=rDec_nat k k (Nat.le_refl _) (by omega)
  have hil:=itoa_len (n:=(k:Int)) (by omega)
  rw [← hk] at hih hil
  rw [itoa_neg n (by omega)]
  obtain ⟨io,hio⟩:∃ z,Lib.itoa (0 - n)=z:=⟨_,rfl⟩
  rw [hio] at hih hil ⊢
  refine Ctr.intro Tryz.func128 rfl Tryz.ntmps128 (Nat.le_of_ble_eq_true rfl) (bd_all rfl) fun w0 F0=>?_;dsimp only [St.init,number,Nat.reduceAdd]
  repeat (first|refine W.gob rfl ?_|refine WL.nil ?_|refine WL.bt rfl rfl rfl (by omega) ?_|refine WL.e1 rfl ?_|refine WL.neg rfl rfl (by unfold I64;omega) ?_|refine W.condT rfl ?_)
  refine (?_:WL _ _ _ _ _ _)
  dsimp only [St.put,Nat.reduceAdd]
  refine WL.vl rfl (WV.call rfl (callF Tryz.func128 rfl rfl) rfl rfl hih) ?_
  repeat (first|refine WL.nil ?_|refine WL.e1 rfl ?_|refine WL.cat rfl rfl (by first|omega|(simp;done)|(simp;omega)) ?_)
  refine (?_:W _ _ _ _ _)
  dsimp only [St.put,Nat.reduceAdd]
  exact W.ret (fin1 rfl rfl rfl rfl)
end Go.Proofs.YtkgnmddakiagbaaGreatDoor
