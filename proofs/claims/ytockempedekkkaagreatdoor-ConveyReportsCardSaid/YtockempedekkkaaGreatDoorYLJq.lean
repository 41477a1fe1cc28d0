/- The functions that Reduce hands to carry; what a system says of an event alone. -/
import Derived.Test.YtockempedekkkaaGreatDoorYFJq
import Derived.Test.YtockempedekkkaaGreatDoorYSJq
import Derived.Test.YtockempedekkkaaGreatDoorFZJq
set_option maxHeartbeats 8000000
set_option maxRecDepth 100000
set_option linter.unusedVariables false
set_option linter.unusedSimpArgs false
namespace Go.Proofs.YtockempedekkkaaGreatDoor
open Go.RowKit
theorem z46i {z:Int} (h:I64 z:=by unfold I64;omega):I64 z:=h
def sayP(t:Bool):Pce:=⟨[(60,1,false)],[1],[⟨false,1,false,false,false,[(1,0,0,0,0)]⟩,⟨false,1,false,false,t,[]⟩]⟩
theorem sayP_ok (t:Bool):PcOk (sayP t):=⟨by show 1≤64;omega,by show 1≤64;omega,by show 2≤420;omega,fun k hk=>by
 match k,hk with
 | 0,_=>show 1≤20;omega
 | 1,_=>show 0≤20;omega⟩
theorem say_t {s:Int} (hs:1≤s∧s≤4):lksE s (sayP true)=0∧hasW (lksR s (sayP true)) 7=!hasS s 7∧(lksR s (sayP true)).length≤100:=by
 rcases sys_cases hs with rfl|rfl|rfl|rfl<;>decide +kernel
theorem say_f {s:Int} (hs:1≤s∧s≤4):lksE s (sayP false)=0∧hasW (lksR s (sayP false)) 8=!hasS s 8∧(lksR s (sayP false)).length≤100:=by
 rcases sys_cases hs with rfl|rfl|rfl|rfl<;>decide +kernel
theorem says_FS (s:Int) (t:Bool) (w:Int) (b:Bool) (h0:lksE s (sayP t)=0) (hb:hasW (lksR s (sayP t)) w=!b) (hl:(lksR s (sayP t)).length≤100) :
  Ctr Tryz.prog 31 [.sc (.int .u8 s),.ag [.sc (.bool false),.sc (.int .i64 1),.sc (.bool false),.sc (.bool false),.sc (.bool t),.ls 5 []],.sc (.int .i64 w)] (.sc (.bool b)):=by
 have hL:=pLacks_FS s (sayP t) (sayP_ok t)
 have hH:=yHas_FS (lksR s (sayP t)) w zqo
 rw [h0] at hL
 rw [hb] at hH
 obtain ⟨L,hLe⟩:∃ z,lksR s (sayP t)=z:=⟨_,rfl⟩
 rw [hLe] at hL hH
 have e:!(!b)=b:=by cases b<;>rfl
 refine zqe Tryz.func31 Tryz.ntmps31 fun w0 F0=>?_;dsimp only [St.init,number,Nat.reduceAdd]
 repeat (first|refine W.go rfl ?_|refine WL.ev rfl ?_|refine WL.gyes rfl rfl rfl rfl ?_)
 (first|refine (?_:W _ _ _ _ _)|refine (?_:WL _ _ _ _ _ _)|skip)
 try dsimp only [St.put,Nat.reduceAdd]
 refine WL.tr (Tr.freeze 1 rfl) ?_
 refine WL.tr (Tr.freeze 2 rfl) ?_
 repeat (first|refine W.go rfl ?_|refine WL.ev rfl ?_|refine WL.gyes rfl rfl rfl rfl ?_)
 (first|refine (?_:W _ _ _ _ _)|refine (?_:WL _ _ _ _ _ _)|skip)
 try dsimp only [St.put,Nat.reduceAdd]
 refine WL.tr (Tr.freeze 4 rfl) ?_
 repeat (first|refine W.go rfl ?_|refine WL.ev rfl ?_|refine WL.gyes rfl rfl rfl rfl ?_)
 (first|refine (?_:W _ _ _ _ _)|refine (?_:WL _ _ _ _ _ _)|skip)
 try dsimp only [St.put,Nat.reduceAdd]
 refine WL.tr (Tr.freeze 6 rfl) ?_
 refine WL.vl rfl (zqc Tryz.func27 hL) ?_
 repeat (first|refine W.go rfl ?_|refine WL.ev rfl ?_|refine WL.gyes rfl rfl rfl rfl ?_)
 (first|refine (?_:W _ _ _ _ _)|refine (?_:WL _ _ _ _ _ _)|skip)
 try dsimp only [St.put,Nat.reduceAdd]
 refine WL.vl rfl (zqc Tryz.func28 hH) ?_
 repeat (first|refine W.go rfl ?_|refine WL.ev rfl ?_|refine WL.gyes rfl rfl rfl rfl ?_)
 (first|refine (?_:W _ _ _ _ _)|refine (?_:WL _ _ _ _ _ _)|skip)
 try dsimp only [St.put,Nat.reduceAdd]
 refine W.ret (fin1 rfl rfl (sc_bool ?_) rfl)
 cases b<;>rfl
theorem red1_FS (s:Int) (hs:1≤s∧s≤4) (l:List Stp) (hl:l.length≤20) (hb:∀ k (h:k < l.length),(1≤l[k].1∧l[k].1≤14)∧(0≤l[k].2.1∧l[k].2.1≤18)) :
  Ctr Tryz.prog 32 [.ls 5 (l.map eStp),.pr [.sc (.int .u8 s)]] (.ls 6 ((l.map (redC s).ch).map eKp)):=by
 refine zqe Tryz.func32 Tryz.ntmps32 fun w0 F0=>?_;dsimp only [St.init,number,Nat.reduceAdd]
 repeat (first|refine W.go rfl ?_|refine WL.nil ?_|refine WL.ev rfl ?_|refine WL.ar rfl rfl z46i ?_|refine WL.len rfl rfl zql ?_|refine WL.idx rfl rfl zqo zqm ?_|refine WL.app rfl rfl rfl zqs ?_|refine W.condT rfl ?_|refine W.condF rfl ?_)
 (first|refine (?_:W _ _ _ _ _)|refine (?_:WL _ _ _ _ _ _)|skip)
 try dsimp only [St.put,Nat.reduceAdd]
 refine W.tr (Tr.nil (t:=4) 94 6 rfl rfl) ?_
 dsimp only [St.put,St.new,St.upd,Nat.reduceAdd]
 repeat (first|refine W.go rfl ?_|refine WL.nil ?_|refine WL.ev rfl ?_|refine WL.ar rfl rfl z46i ?_|refine WL.len rfl rfl zql ?_|refine WL.idx rfl rfl zqo zqm ?_|refine WL.app rfl rfl rfl zqs ?_|refine W.condT rfl ?_|refine W.condF rfl ?_)
 (first|refine (?_:W _ _ _ _ _)|refine (?_:WL _ _ _ _ _ _)|skip)
 try dsimp only [St.put,Nat.reduceAdd]
 refine W.loop (fun k:Nat=>k≤l.length) (fun k=>⟨[(1,.pr [.sc (.int .u8 s)]),(4,.sl 0),(9,.ls 5 (l.map eStp)),(10,.sc (.int .i64 l.length)),(11,.sc (.int .i64 k))],[(0,.row 94 6 (((l.take k).map (redC s).ch).map eKp))],1⟩) (fun k=>l.length - k) 0 zqo (zqt id) fun k hk=>?_
 by_cases hlt:k < l.length
 ·obtain ⟨hc,hf⟩:=hb k hlt
  have hS:=ySym_FS s l[k].1 l[k].2.1 hs hc hf
  have hrow:((l.take k).map (redC s).ch).map eKp++[eKp (l[k],!pOk s l[k].1 l[k].2.1)]=((l.take (k+1)).map (redC s).ch).map eKp:=by
   rw [List.take_succ_eq_append_getElem hlt,List.map_append,List.map_append];rfl
  have hRl:(((l.take k).map (redC s).ch).map eKp).length=k:=by rw [List.length_map,List.length_map,List.length_take];omega
  obtain ⟨R,hR⟩:∃ z,((l.take k).map (redC s).ch).map eKp=z:=⟨_,rfl⟩
  rw [hR] at hrow hRl ⊢
  cases hp:pOk s l[k].1 l[k].2.1 with
  | true =>
   rw [hp] at hS hrow
   repeat (first|refine W.gob rfl ?_|refine WL.nil ?_|refine WL.bt rfl rfl rfl zqo ?_|refine WL.bf rfl rfl rfl zqo ?_|refine WL.e1 rfl ?_|refine WL.ar rfl rfl z46i ?_|refine WL.len rfl rfl zql ?_|refine WL.idx rfl rfl zqo zqm ?_|refine WL.app rfl rfl rfl zqs ?_|refine W.condT rfl ?_|refine W.condF rfl ?_)
   (first|refine (?_:W _ _ _ _ _)|refine (?_:WL _ _ _ _ _ _)|skip)
   try dsimp only [St.put,Nat.reduceAdd]
   refine WL.vl rfl (zqc Tryz.func33 hS) ?_
   repeat (first|refine W.gob rfl ?_|refine WL.nil ?_|refine WL.bt rfl rfl rfl zqo ?_|refine WL.bf rfl rfl rfl zqo ?_|refine WL.e1 rfl ?_|refine WL.ar rfl rfl z46i ?_|refine WL.len rfl rfl zql ?_|refine WL.idx rfl rfl zqo zqm ?_|refine WL.app rfl rfl rfl zqs ?_|refine W.condT rfl ?_|refine W.condF rfl ?_)
   (first|refine (?_:W _ _ _ _ _)|refine (?_:WL _ _ _ _ _ _)|skip)
   try dsimp only [St.put,Nat.reduceAdd]
   exact ⟨k+1,by omega,by omega,(zqu (fun q=>bif Nat.beq q 0 then 3 else q) (by repeat (first|exact trivial|refine ⟨⟨?_,?_,?_⟩,?_⟩|rfl|exact congrArg (fun q=>some (AO.row _ _ q)) hrow)) rfl)⟩
  | false =>
   rw [hp] at hS hrow
   repeat (first|refine W.gob rfl ?_|refine WL.nil ?_|refine WL.bt rfl rfl rfl zqo ?_|refine WL.bf rfl rfl rfl zqo ?_|refine WL.e1 rfl ?_|refine WL.ar rfl rfl z46i ?_|refine WL.len rfl rfl zql ?_|refine WL.idx rfl rfl zqo zqm ?_|refine WL.app rfl rfl rfl zqs ?_|refine W.condT rfl ?_|refine W.condF rfl ?_)
   (first|refine (?_:W _ _ _ _ _)|refine (?_:WL _ _ _ _ _ _)|skip)
   try dsimp only [St.put,Nat.reduceAdd]
   refine WL.vl rfl (zqc Tryz.func33 hS) ?_
   repeat (first|refine W.gob rfl ?_|refine WL.nil ?_|refine WL.bt rfl rfl rfl zqo ?_|refine WL.bf rfl rfl rfl zqo ?_|refine WL.e1 rfl ?_|refine WL.ar rfl rfl z46i ?_|refine WL.len rfl rfl zql ?_|refine WL.idx rfl rfl zqo zqm ?_|refine WL.app rfl rfl rfl zqs ?_|refine W.condT rfl ?_|refine W.condF rfl ?_)
   (first|refine (?_:W _ _ _ _ _)|refine (?_:WL _ _ _ _ _ _)|skip)
   try dsimp only [St.put,Nat.reduceAdd]
   exact ⟨k+1,by omega,by omega,(zqu (fun q=>bif Nat.beq q 0 then 3 else q) (by repeat (first|exact trivial|refine ⟨⟨?_,?_,?_⟩,?_⟩|rfl|exact congrArg (fun q=>some (AO.row _ _ q)) hrow)) rfl)⟩
 ·obtain rfl:k=l.length:=by omega
  rw [List.take_length]
  repeat (first|refine W.gob rfl ?_|refine WL.nil ?_|refine WL.bt rfl rfl rfl zqo ?_|refine WL.bf rfl rfl rfl zqo ?_|refine WL.e1 rfl ?_|refine WL.ar rfl rfl z46i ?_|refine WL.len rfl rfl zql ?_|refine WL.idx rfl rfl zqo zqm ?_|refine WL.app rfl rfl rfl zqs ?_|refine W.condT rfl ?_|refine W.condF rfl ?_)
  (first|refine (?_:W _ _ _ _ _)|refine (?_:WL _ _ _ _ _ _)|skip)
  try dsimp only [St.put,Nat.reduceAdd]
  refine W.tr (Tr.freeze 0 rfl) ?_
  exact W.ret zqr
theorem red2_FS (b1:Bool)(v:Int)(d3 t3 t ties rests:Bool)(A:AV)(n:Nat)(rows:List (List AV))(hA:A=.ls n rows∨A=.sc (.slice none 0 0)) :
  Cto truB 0 Tryz.prog 34 [.pt 0 0 0,.pr [.sc (.bool ties)],.pr [.sc (.bool rests)]] [(0,.box 44 [.sc (.bool b1),.sc (.int .i64 v),.sc (.bool d3),.sc (.bool t3),.sc (.bool t),A])] 1
   (.sc (.int .i64 (if t=true∧ties=false then 7 else if t=false∧rests=false then 8 else 0)))
   [(0,.box 44 [.sc (.bool b1),.sc (.int .i64 v),.sc (.bool d3),.sc (.bool t3),.sc (.bool (if t=true∧ties=false then false else if t=false∧rests=false then true else t)),A])] 1:=by
 rcases hA with rfl|rfl
 all_goals
  cases t<;>cases ties<;>cases rests
  all_goals
   refine Cto.intro truS Tryz.func34 rfl Tryz.ntmps34 (Nat.le_of_ble_eq_true rfl) rfl fun w0 F0 fp pg hB=>?_
   dsimp only [number,Nat.reduceAdd]
   repeat (first|(refine WL.vl rfl (WV.nch rfl rfl) ?_)|(refine W.go rfl ?_)|(refine WL.ev rfl ?_)|(refine WL.gyes rfl rfl rfl rfl ?_)|(refine WL.opno rfl rfl rfl rfl rfl rfl rfl ?_)|(refine W.condT rfl ?_)|(refine W.condF rfl ?_))
   exact W.ret (finM rfl rfl rfl rfl rfl)
theorem okZ(s:Int):okR s 0=true∧okG s 0=true∧okH s 0 0=true:=⟨rfl,rfl,rfl⟩
theorem cellOk_r {s c f r:Int} (hp:pOk s c f=true):cellOk s c f r 0 0 0=okR s r:=by
 unfold cellOk
 rw [hp,(okZ s).2.1,(okZ s).2.2];simp
theorem cellOk_g {s c f g:Int} (hp:pOk s c f=true):cellOk s c f 0 g 0 0=okG s g:=by
 unfold cellOk
 rw [hp,(okZ s).1,(okZ s).2.2];simp
theorem red3_FS (s:Int) (hs:1≤s∧s≤4) (y:Stp) (c h:Int) (hc:1≤y.1∧y.1≤14) (hf:0≤y.2.1∧y.2.1≤18) (hr:0≤y.2.2.1∧y.2.2.1≤3) (hg:0≤y.2.2.2.1∧y.2.2.2.1≤4) (hp:pOk s y.1 y.2.1=true) :
  Cto truB 0 Tryz.prog 35 [.pt 0 0 0,.pr [.sc (.int .u8 s)]] [(0,.box 181 (eRs y c h []))] 1 (.ls 1 (((redC s).ml y).map eInt)) [(0,.box 181 (eRs ((redC s).mr y) c h []))] 1:=by
 have h1:=yCell_FS s hs y.1 y.2.1 y.2.2.1 0 hc hf hr ⟨by decide,by decide⟩
 have h2:=yCell_FS s hs y.1 y.2.1 0 y.2.2.2.1 hc hf ⟨by decide,by decide⟩ hg
 rw [cellOk_r hp] at h1
 rw [cellOk_g hp] at h2
 have e1:(redC s).mr y=(y.1,y.2.1,if okR s y.2.2.1=true then y.2.2.1 else 0,if okG s y.2.2.2.1=true then y.2.2.2.1 else 0,y.2.2.2.2):=rfl
 have e2:(redC s).ml y=(if okR s y.2.2.1=true then [] else [2])++(if okG s y.2.2.2.1=true then [] else [3]):=rfl
 rw [e1,e2]
 cases b1:okR s y.2.2.1<;>cases b2:okG s y.2.2.2.1
 ·rw [b1] at h1
  rw [b2] at h2
  refine Cto.intro truS Tryz.func35 rfl Tryz.ntmps35 (Nat.le_of_ble_eq_true rfl) rfl fun w0 F0 fp pg hB=>?_
  dsimp only [number,Nat.reduceAdd]
  repeat (first|refine W.go rfl ?_|refine WL.nil ?_|refine WL.app rfl rfl rfl zqs ?_|refine W.condT rfl ?_|refine W.condF rfl ?_)
  (first|refine (?_:W _ _ _ _ _)|refine (?_:WL _ _ _ _ _ _)|skip)
  try dsimp only [St.put,Nat.reduceAdd]
  refine W.tr (Tr.nil (t:=4) 3 1 rfl rfl) ?_
  dsimp only [St.put,St.new,St.upd,Nat.reduceAdd]
  repeat (first|refine W.go rfl ?_|refine WL.nil ?_|refine WL.app rfl rfl rfl zqs ?_|refine W.condT rfl ?_|refine W.condF rfl ?_)
  (first|refine (?_:W _ _ _ _ _)|refine (?_:WL _ _ _ _ _ _)|skip)
  try dsimp only [St.put,Nat.reduceAdd]
  refine W.drawK zqk zqk ?_
  repeat (first|refine DK.vl rfl (WV.nch rfl rfl) ?_|refine DK.st rfl ?_|refine DK.nil ?_)
  refine DK.vl rfl (zqc Tryz.func36 h1) ?_
  repeat (first|refine DK.vl rfl (WV.nch rfl rfl) ?_|refine DK.st rfl ?_|refine DK.nil ?_)
  repeat (first|refine WL.vl rfl (WV.nch rfl rfl) ?_|refine W.gob rfl ?_|refine WL.nil ?_|refine WL.e1 rfl ?_|refine WL.app rfl rfl rfl zqs ?_|refine W.condT rfl ?_|refine W.condF rfl ?_)
  (first|refine (?_:W _ _ _ _ _)|refine (?_:WL _ _ _ _ _ _)|skip)
  try dsimp only [St.put,Nat.reduceAdd]
  refine W.drawK zqk zqk ?_
  repeat (first|refine DK.vl rfl (WV.nch rfl rfl) ?_|refine DK.st rfl ?_|refine DK.nil ?_)
  refine DK.vl rfl (zqc Tryz.func36 h2) ?_
  repeat (first|refine DK.vl rfl (WV.nch rfl rfl) ?_|refine DK.st rfl ?_|refine DK.nil ?_)
  repeat (first|refine WL.vl rfl (WV.nch rfl rfl) ?_|refine W.gob rfl ?_|refine WL.nil ?_|refine WL.e1 rfl ?_|refine WL.app rfl rfl rfl zqs ?_|refine W.condT rfl ?_|refine W.condF rfl ?_)
  (first|refine (?_:W _ _ _ _ _)|refine (?_:WL _ _ _ _ _ _)|skip)
  try dsimp only [St.put,Nat.reduceAdd]
  refine W.tr (Tr.freeze 5 rfl) ?_
  refine W.tr (σ':=⟨[(3,.ls 1 [[.sc (.int .i64 2)],[.sc (.int .i64 3)]])],[(0,.box 181 [.sc (.int .i64 y.1),.sc (.int .i64 y.2.1),.sc (.int .i64 0),.sc (.int .i64 0),.sc (.int .i64 y.2.2.2.2),.sc (.int .i64 c),.sc (.int .i64 h),.ls 1 []])],1⟩) (zqt id) ?_
  exact W.ret (finM rfl rfl rfl rfl rfl)
 ·rw [b1] at h1
  rw [b2] at h2
  refine Cto.intro truS Tryz.func35 rfl Tryz.ntmps35 (Nat.le_of_ble_eq_true rfl) rfl fun w0 F0 fp pg hB=>?_
  dsimp only [number,Nat.reduceAdd]
  repeat (first|refine W.go rfl ?_|refine WL.nil ?_|refine WL.app rfl rfl rfl zqs ?_|refine W.condT rfl ?_|refine W.condF rfl ?_)
  (first|refine (?_:W _ _ _ _ _)|refine (?_:WL _ _ _ _ _ _)|skip)
  try dsimp only [St.put,Nat.reduceAdd]
  refine W.tr (Tr.nil (t:=4) 3 1 rfl rfl) ?_
  dsimp only [St.put,St.new,St.upd,Nat.reduceAdd]
  repeat (first|refine W.go rfl ?_|refine WL.nil ?_|refine WL.app rfl rfl rfl zqs ?_|refine W.condT rfl ?_|refine W.condF rfl ?_)
  (first|refine (?_:W _ _ _ _ _)|refine (?_:WL _ _ _ _ _ _)|skip)
  try dsimp only [St.put,Nat.reduceAdd]
  refine W.drawK zqk zqk ?_
  repeat (first|refine DK.vl rfl (WV.nch rfl rfl) ?_|refine DK.st rfl ?_|refine DK.nil ?_)
  refine DK.vl rfl (zqc Tryz.func36 h1) ?_
  repeat (first|refine DK.vl rfl (WV.nch rfl rfl) ?_|refine DK.st rfl ?_|refine DK.nil ?_)
  repeat (first|refine WL.vl rfl (WV.nch rfl rfl) ?_|refine W.gob rfl ?_|refine WL.nil ?_|refine WL.e1 rfl ?_|refine WL.app rfl rfl rfl zqs ?_|refine W.condT rfl ?_|refine W.condF rfl ?_)
  (first|refine (?_:W _ _ _ _ _)|refine (?_:WL _ _ _ _ _ _)|skip)
  try dsimp only [St.put,Nat.reduceAdd]
  refine W.drawK zqk zqk ?_
  repeat (first|refine DK.vl rfl (WV.nch rfl rfl) ?_|refine DK.st rfl ?_|refine DK.nil ?_)
  refine DK.vl rfl (zqc Tryz.func36 h2) ?_
  repeat (first|refine DK.vl rfl (WV.nch rfl rfl) ?_|refine DK.st rfl ?_|refine DK.nil ?_)
  repeat (first|refine WL.vl rfl (WV.nch rfl rfl) ?_|refine W.gob rfl ?_|refine WL.nil ?_|refine WL.e1 rfl ?_|refine WL.app rfl rfl rfl zqs ?_|refine W.condT rfl ?_|refine W.condF rfl ?_)
  (first|refine (?_:W _ _ _ _ _)|refine (?_:WL _ _ _ _ _ _)|skip)
  try dsimp only [St.put,Nat.reduceAdd]
  refine W.tr (Tr.freeze 3 rfl) ?_
  refine W.tr (σ':=⟨[(3,.ls 1 [[.sc (.int .i64 2)]])],[(0,.box 181 [.sc (.int .i64 y.1),.sc (.int .i64 y.2.1),.sc (.int .i64 0),.sc (.int .i64 y.2.2.2.1),.sc (.int .i64 y.2.2.2.2),.sc (.int .i64 c),.sc (.int .i64 h),.ls 1 []])],1⟩) (zqt id) ?_
  exact W.ret (finM rfl rfl rfl rfl rfl)
 ·rw [b1] at h1
  rw [b2] at h2
  refine Cto.intro truS Tryz.func35 rfl Tryz.ntmps35 (Nat.le_of_ble_eq_true rfl) rfl fun w0 F0 fp pg hB=>?_
  dsimp only [number,Nat.reduceAdd]
  repeat (first|refine W.go rfl ?_|refine WL.nil ?_|refine WL.app rfl rfl rfl zqs ?_|refine W.condT rfl ?_|refine W.condF rfl ?_)
  (first|refine (?_:W _ _ _ _ _)|refine (?_:WL _ _ _ _ _ _)|skip)
  try dsimp only [St.put,Nat.reduceAdd]
  refine W.tr (Tr.nil (t:=4) 3 1 rfl rfl) ?_
  dsimp only [St.put,St.new,St.upd,Nat.reduceAdd]
  repeat (first|refine W.go rfl ?_|refine WL.nil ?_|refine WL.app rfl rfl rfl zqs ?_|refine W.condT rfl ?_|refine W.condF rfl ?_)
  (first|refine (?_:W _ _ _ _ _)|refine (?_:WL _ _ _ _ _ _)|skip)
  try dsimp only [St.put,Nat.reduceAdd]
  refine W.drawK zqk zqk ?_
  repeat (first|refine DK.vl rfl (WV.nch rfl rfl) ?_|refine DK.st rfl ?_|refine DK.nil ?_)
  refine DK.vl rfl (zqc Tryz.func36 h1) ?_
  repeat (first|refine DK.vl rfl (WV.nch rfl rfl) ?_|refine DK.st rfl ?_|refine DK.nil ?_)
  repeat (first|refine WL.vl rfl (WV.nch rfl rfl) ?_|refine W.gob rfl ?_|refine WL.nil ?_|refine WL.e1 rfl ?_|refine WL.app rfl rfl rfl zqs ?_|refine W.condT rfl ?_|refine W.condF rfl ?_)
  (first|refine (?_:W _ _ _ _ _)|refine (?_:WL _ _ _ _ _ _)|skip)
  try dsimp only [St.put,Nat.reduceAdd]
  refine W.drawK zqk zqk ?_
  repeat (first|refine DK.vl rfl (WV.nch rfl rfl) ?_|refine DK.st rfl ?_|refine DK.nil ?_)
  refine DK.vl rfl (zqc Tryz.func36 h2) ?_
  repeat (first|refine DK.vl rfl (WV.nch rfl rfl) ?_|refine DK.st rfl ?_|refine DK.nil ?_)
  repeat (first|refine WL.vl rfl (WV.nch rfl rfl) ?_|refine W.gob rfl ?_|refine WL.nil ?_|refine WL.e1 rfl ?_|refine WL.app rfl rfl rfl zqs ?_|refine W.condT rfl ?_|refine W.condF rfl ?_)
  (first|refine (?_:W _ _ _ _ _)|refine (?_:WL _ _ _ _ _ _)|skip)
  try dsimp only [St.put,Nat.reduceAdd]
  refine W.tr (Tr.freeze 3 rfl) ?_
  refine W.tr (σ':=⟨[(3,.ls 1 [[.sc (.int .i64 3)]])],[(0,.box 181 [.sc (.int .i64 y.1),.sc (.int .i64 y.2.1),.sc (.int .i64 y.2.2.1),.sc (.int .i64 0),.sc (.int .i64 y.2.2.2.2),.sc (.int .i64 c),.sc (.int .i64 h),.ls 1 []])],1⟩) (zqt id) ?_
  exact W.ret (finM rfl rfl rfl rfl rfl)
 ·rw [b1] at h1
  rw [b2] at h2
  refine Cto.intro truS Tryz.func35 rfl Tryz.ntmps35 (Nat.le_of_ble_eq_true rfl) rfl fun w0 F0 fp pg hB=>?_
  dsimp only [number,Nat.reduceAdd]
  repeat (first|refine W.go rfl ?_|refine WL.nil ?_|refine WL.app rfl rfl rfl zqs ?_|refine W.condT rfl ?_|refine W.condF rfl ?_)
  (first|refine (?_:W _ _ _ _ _)|refine (?_:WL _ _ _ _ _ _)|skip)
  try dsimp only [St.put,Nat.reduceAdd]
  refine W.tr (Tr.nil (t:=4) 3 1 rfl rfl) ?_
  dsimp only [St.put,St.new,St.upd,Nat.reduceAdd]
  repeat (first|refine W.go rfl ?_|refine WL.nil ?_|refine WL.app rfl rfl rfl zqs ?_|refine W.condT rfl ?_|refine W.condF rfl ?_)
  (first|refine (?_:W _ _ _ _ _)|refine (?_:WL _ _ _ _ _ _)|skip)
  try dsimp only [St.put,Nat.reduceAdd]
  refine W.drawK zqk zqk ?_
  repeat (first|refine DK.vl rfl (WV.nch rfl rfl) ?_|refine DK.st rfl ?_|refine DK.nil ?_)
  refine DK.vl rfl (zqc Tryz.func36 h1) ?_
  repeat (first|refine DK.vl rfl (WV.nch rfl rfl) ?_|refine DK.st rfl ?_|refine DK.nil ?_)
  repeat (first|refine WL.vl rfl (WV.nch rfl rfl) ?_|refine W.gob rfl ?_|refine WL.nil ?_|refine WL.e1 rfl ?_|refine WL.app rfl rfl rfl zqs ?_|refine W.condT rfl ?_|refine W.condF rfl ?_)
  (first|refine (?_:W _ _ _ _ _)|refine (?_:WL _ _ _ _ _ _)|skip)
  try dsimp only [St.put,Nat.reduceAdd]
  refine W.drawK zqk zqk ?_
  repeat (first|refine DK.vl rfl (WV.nch rfl rfl) ?_|refine DK.st rfl ?_|refine DK.nil ?_)
  refine DK.vl rfl (zqc Tryz.func36 h2) ?_
  repeat (first|refine DK.vl rfl (WV.nch rfl rfl) ?_|refine DK.st rfl ?_|refine DK.nil ?_)
  repeat (first|refine WL.vl rfl (WV.nch rfl rfl) ?_|refine W.gob rfl ?_|refine WL.nil ?_|refine WL.e1 rfl ?_|refine WL.app rfl rfl rfl zqs ?_|refine W.condT rfl ?_|refine W.condF rfl ?_)
  (first|refine (?_:W _ _ _ _ _)|refine (?_:WL _ _ _ _ _ _)|skip)
  try dsimp only [St.put,Nat.reduceAdd]
  refine W.tr (Tr.freeze 1 rfl) ?_
  refine W.tr (σ':=⟨[(3,.ls 1 [])],[(0,.box 181 [.sc (.int .i64 y.1),.sc (.int .i64 y.2.1),.sc (.int .i64 y.2.2.1),.sc (.int .i64 y.2.2.2.1),.sc (.int .i64 y.2.2.2.2),.sc (.int .i64 c),.sc (.int .i64 h),.ls 1 []])],1⟩) (zqt id) ?_
  exact W.ret (finM rfl rfl rfl rfl rfl)
end Go.Proofs.YtockempedekkkaaGreatDoor
