/- What is declared of an event and of a stop. Plain. -/
import Derived.Test.YtaeelcfjkhfpkaaGreatYIRq
import Derived.Test.YtaeelcfjkhfpkaaGreatYHRq
set_option maxHeartbeats 8000000
set_option maxRecDepth 100000
set_option linter.unusedVariables false
set_option linter.unusedSimpArgs false
namespace Go.Proofs.YtaeelcfjkhfpkaaGreat
section
open Go.RowKit
theorem z53i {z:Int} (h:I64 z:=by unfold I64;omega):I64 z:=h
def p04:Pce:=⟨[(60,3,false),(55,3,false)],[1,2,3],[⟨false,4,false,false,false,[(1,3,2,0,0),(2,0,0,0,0)]⟩]⟩
theorem p04_ok:PcOk p04:=by
 refine⟨by decide,by decide,by decide,fun k hk=>?_⟩
 have h1:p04.evs.length=1:=rfl
 have h0:k=0:=by omega
 subst h0
 exact Nat.le_of_ble_eq_true rfl
theorem red04:redX 2 p04=0∧redL 2 p04=[(0,1,2)]∧(redP 2 p04).evs.length=1:=by decide +kernel
theorem cap04:capE p04 1=0∧capL p04 1=[(0,2,1)]∧(capP p04 1).evs.length=1:=by decide +kernel
theorem eqs_lak (x a c y b d:Int) (w:World):(Op.equalIn 10000 72 (.agg #[.int .i64 x,.int .i64 a,.int .i64 c]) (.agg #[.int .i64 y,.int .i64 b,.int .i64 d])).run Tryz.prog w=.ok (x == y && (a == b && c == d)) w:=by
 rw [run_equalIn_agg w 9999 _ _ _ zqk zqk]
 refine Eq.trans (congrArg (fun fs=>Sem.run _ (Op.eqFields 9999 _ _ fs) w) (rfl:(Tryz.prog.fieldsOf 72).toList=[_,_,_])) ?_
 by_cases h1:x=y
 ·subst h1
  by_cases h2:a=b
  ·subst h2
   by_cases h3:c=d
   ·subst h3;simp [go_sem]
   ·simp [go_sem,h3]
  ·simp [go_sem,h2]
 ·simp [go_sem,h1]
theorem works04_FS:Ctr Tryz.prog 14 [] (.sc (.bool true)):=by
 have hR:=pReduce_FS 2 p04 p04_ok
 have hC:=pCapo_FS p04 p04_ok 1
 rw [red04.1,red04.2.1] at hR
 rw [cap04.1,cap04.2.1] at hC
 obtain ⟨⟨cs1,st1,ev1⟩,hP1⟩:∃ z,redP 2 p04=z:=⟨_,rfl⟩
 obtain ⟨⟨cs2,st2,ev2⟩,hP2⟩:∃ z,capP p04 1=z:=⟨_,rfl⟩
 have l1:(ev1.map eEv).length=1:=by rw [List.length_map];have:=red04.2.2;rw [hP1] at this;exact this
 have l2:(ev2.map eEv).length=1:=by rw [List.length_map];have:=cap04.2.2;rw [hP2] at this;exact this
 rw [hP1] at hR
 rw [hP2] at hC
 have hR:Ctr Tryz.prog 16 [.sc (.int .u8 2),ePce p04] (.tu [.ag [.ls 3 (cs1.map eCrs),.ls 1 (st1.map eInt),.ls 6 (ev1.map eEv)],.ls 3 [[.sc (.int .i64 0),.sc (.int .i64 1),.sc (.int .i64 2)]],.sc (.int .i64 0)]):=hR
 have hC:Ctr Tryz.prog 23 [ePce p04,.sc (.int .i64 1)] (.tu [.ag [.ls 3 (cs2.map eCrs),.ls 1 (st2.map eInt),.ls 6 (ev2.map eEv)],.ls 3 [[.sc (.int .i64 0),.sc (.int .i64 2),.sc (.int .i64 1)]],.sc (.int .i64 0)]):=hC
 obtain ⟨E1,hE1⟩:∃ z,ev1.map eEv=z:=⟨_,rfl⟩
 obtain ⟨E2,hE2⟩:∃ z,ev2.map eEv=z:=⟨_,rfl⟩
 rw [hE1] at hR l1
 rw [hE2] at hC l2
 refine zqe Tryz.func14 Tryz.ntmps14 fun w0 F0=>?_;dsimp only [St.init,number,Nat.reduceAdd]
 repeat refine W.go rfl ?_
 refine (?_:WL _ _ _ _ _ _)
 refine WL.tr (Tr.freeze 0 rfl) ?_
 refine WL.tr (Tr.freeze 1 rfl) ?_
 refine WL.tr (Tr.freeze 3 rfl) ?_
 repeat (first|refine W.go rfl ?_|refine WL.ev rfl ?_)
 refine (?_:WL _ _ _ _ _ _)
 refine WL.tr (Tr.freeze 4 rfl) ?_
 refine WL.vl rfl (zqc Tryz.func16 hR) ?_
 repeat (first|refine W.go rfl ?_|refine WL.ev rfl ?_)
 refine (?_:WL _ _ _ _ _ _)
 refine WL.vl rfl (zqc Tryz.func23 hC) ?_
 repeat (first|refine W.gob rfl ?_|refine WL.nil ?_|refine WL.bt rfl rfl rfl zqo ?_|refine WL.e1 rfl ?_|refine WL.gyes rfl rfl rfl rfl ?_|refine WL.len rfl rfl zql ?_)
 refine (?_:WL _ _ _ _ _ _)
 refine WL.idx rfl rfl (Int.le_refl 0) rfl ?_
 repeat (first|refine WL.e1 rfl ?_|refine WL.gyes rfl rfl rfl rfl ?_)
 refine (?_:WL _ _ _ _ _ _)
 refine WL.vl rfl (WV.aeq rfl rfl rfl rfl rfl zqk (fun w=>eqs_lak _ _ _ _ _ _ w)) ?_
 repeat (first|refine WL.bt rfl rfl rfl zqo ?_|refine WL.e1 rfl ?_|refine WL.gyes rfl rfl rfl rfl ?_|refine WL.len rfl rfl zql ?_)
 refine (?_:WL _ _ _ _ _ _)
 refine WL.idx rfl rfl (Int.le_refl 0) rfl ?_
 repeat (first|refine WL.e1 rfl ?_|refine WL.gyes rfl rfl rfl rfl ?_)
 refine (?_:WL _ _ _ _ _ _)
 refine WL.vl rfl (WV.aeq rfl rfl rfl rfl rfl zqk (fun w=>eqs_lak _ _ _ _ _ _ w)) ?_
 repeat (first|refine WL.nil ?_|refine WL.e1 rfl ?_)
 refine (?_:W _ _ _ _ _)
 exact W.ret zqr
end
section
open Go.RowKit
def toldB(l:List Lck)(i c w:Int):Bool:=l.any fun x=>x == (i,c,w)
theorem toldB_mem {l:List Lck} {i c w:Int}:toldB l i c w=decide ((i,c,w)∈l):=by
 unfold toldB
 by_cases h:(i,c,w)∈l
 ·rw [decide_eq_true h,List.any_eq_true]
  exact⟨_,h,by simp⟩
 ·rw [decide_eq_false h,List.any_eq_false]
  intro x hx hxe
  have:x=(i,c,w):=by simpa using hxe
  exact h (this ▸ hx)
theorem ztold_FS (l:List Lck) (hl:l.length≤30000) (i c w:Int):Ctr Tryz.prog 21 [.ls 3 (l.map eLk),.sc (.int .i64 i),.sc (.int .i64 c),.sc (.int .i64 w)] (.sc (.bool (toldB l i c w))):=by
 have hAt:∀ k (h:k < l.length),(l.map eLk)[((k:Nat):Int).toNat]?=some [.sc (.int .i64 l[k].1),.sc (.int .i64 l[k].2.1),.sc (.int .i64 l[k].2.2)]:=fun k h=>by
  rw [Int.toNat_natCast,List.getElem?_map,List.getElem?_eq_getElem h];rfl
 have hEl:(l.map eLk).length=l.length:=List.length_map _
 obtain ⟨LE,hLE⟩:∃ z,l.map eLk=z:=⟨_,rfl⟩
 rw [hLE] at hAt hEl ⊢
 clear hLE
 refine zqe Tryz.func21 Tryz.ntmps21 fun w0 F0=>?_;dsimp only [St.init,number,Nat.reduceAdd]
 repeat (first|refine WL.vl rfl (WV.nch rfl rfl) ?_|refine W.gob rfl ?_|refine WL.nil ?_|refine WL.bt rfl rfl rfl zqo ?_|refine WL.bf rfl rfl rfl zqo ?_|refine WL.e1 rfl ?_|refine WL.ar rfl rfl z53i ?_|refine WL.len rfl rfl rfl ?_|refine W.condT rfl ?_|refine W.condF rfl ?_)
 (first|refine (?_:W _ _ _ _ _)|refine (?_:WL _ _ _ _ _ _)|skip)
 try dsimp only [St.put,Nat.reduceAdd]
 refine W.loop (fun k:Nat=>k≤l.length∧toldB (l.take k) i c w=false) (fun k=>⟨[(0,.ls 3 LE),(1,.sc (.int .i64 i)),(2,.sc (.int .i64 c)),(3,.sc (.int .i64 w)),(9,.sc (.int .i64 k))],[],0⟩) (fun k=>l.length - k) 0 ⟨by omega,rfl⟩ (zqt id) fun k hk=>?_
 obtain ⟨hk,hno⟩:=hk
 by_cases hlt:k < l.length
 ·have h1:=hAt k hlt
  have hnx:toldB (l.take (k+1)) i c w=(l[k].1 == i && (l[k].2.1 == c && l[k].2.2 == w)):=by
   have e:toldB (l.take (k+1)) i c w=(toldB (l.take k) i c w|| (l[k] == (i,c,w))):=by
    unfold toldB
    rw [List.take_succ_eq_append_getElem hlt,List.any_append];simp
   rw [e,hno,Bool.false_or];rfl
  have hyes:(l[k].1 == i && (l[k].2.1 == c && l[k].2.2 == w))=true→toldB l i c w=true:=fun h=>by
   unfold toldB
   rw [List.any_eq_true]
   exact ⟨l[k],List.getElem_mem hlt,h⟩
  obtain ⟨b,hb⟩:∃ z,(l[k].1 == i && (l[k].2.1 == c && l[k].2.2 == w))=z:=⟨_,rfl⟩
  rw [hb] at hnx hyes
  have heq:=fun w=>eqs_lak l[k].1 l[k].2.1 l[k].2.2 i c w
  cases b with
  | true =>
   rw [hyes rfl]
   repeat (first|refine WL.vl rfl (WV.nch rfl rfl) ?_|refine W.gob rfl ?_|refine WL.nil ?_|refine WL.bt rfl rfl rfl zqo ?_|refine WL.bf rfl rfl rfl zqo ?_|refine WL.e1 rfl ?_|refine WL.ar rfl rfl z53i ?_|refine WL.len rfl rfl rfl ?_|refine W.condT rfl ?_|refine W.condF rfl ?_)
   (first|refine (?_:W _ _ _ _ _)|refine (?_:WL _ _ _ _ _ _)|skip)
   try dsimp only [St.put,Nat.reduceAdd]
   refine WL.idx rfl rfl zqo h1 ?_
   repeat (first|refine WL.vl rfl (WV.nch rfl rfl) ?_|refine W.gob rfl ?_|refine WL.nil ?_|refine WL.bt rfl rfl rfl zqo ?_|refine WL.bf rfl rfl rfl zqo ?_|refine WL.e1 rfl ?_|refine WL.ar rfl rfl z53i ?_|refine WL.len rfl rfl rfl ?_|refine W.condT rfl ?_|refine W.condF rfl ?_)
   (first|refine (?_:W _ _ _ _ _)|refine (?_:WL _ _ _ _ _ _)|skip)
   try dsimp only [St.put,Nat.reduceAdd]
   refine WL.vl rfl (WV.aeq rfl rfl rfl rfl rfl zqk (fun w2=>eqs_lak _ _ _ _ _ _ w2)) ?_
   rw [hb]
   repeat (first|refine WL.vl rfl (WV.nch rfl rfl) ?_|refine W.gob rfl ?_|refine WL.nil ?_|refine WL.bt rfl rfl rfl zqo ?_|refine WL.bf rfl rfl rfl zqo ?_|refine WL.e1 rfl ?_|refine WL.ar rfl rfl z53i ?_|refine WL.len rfl rfl rfl ?_|refine W.condT rfl ?_|refine W.condF rfl ?_)
   (first|refine (?_:W _ _ _ _ _)|refine (?_:WL _ _ _ _ _ _)|skip)
   try dsimp only [St.put,Nat.reduceAdd]
   exact W.ret zqr
  | false =>
   repeat (first|refine WL.vl rfl (WV.nch rfl rfl) ?_|refine W.gob rfl ?_|refine WL.nil ?_|refine WL.bt rfl rfl rfl zqo ?_|refine WL.bf rfl rfl rfl zqo ?_|refine WL.e1 rfl ?_|refine WL.ar rfl rfl z53i ?_|refine WL.len rfl rfl rfl ?_|refine W.condT rfl ?_|refine W.condF rfl ?_)
   (first|refine (?_:W _ _ _ _ _)|refine (?_:WL _ _ _ _ _ _)|skip)
   try dsimp only [St.put,Nat.reduceAdd]
   refine WL.idx rfl rfl zqo h1 ?_
   repeat (first|refine WL.vl rfl (WV.nch rfl rfl) ?_|refine W.gob rfl ?_|refine WL.nil ?_|refine WL.bt rfl rfl rfl zqo ?_|refine WL.bf rfl rfl rfl zqo ?_|refine WL.e1 rfl ?_|refine WL.ar rfl rfl z53i ?_|refine WL.len rfl rfl rfl ?_|refine W.condT rfl ?_|refine W.condF rfl ?_)
   (first|refine (?_:W _ _ _ _ _)|refine (?_:WL _ _ _ _ _ _)|skip)
   try dsimp only [St.put,Nat.reduceAdd]
   refine WL.vl rfl (WV.aeq rfl rfl rfl rfl rfl zqk (fun w2=>eqs_lak _ _ _ _ _ _ w2)) ?_
   rw [hb]
   repeat (first|refine WL.vl rfl (WV.nch rfl rfl) ?_|refine W.gob rfl ?_|refine WL.nil ?_|refine WL.bt rfl rfl rfl zqo ?_|refine WL.bf rfl rfl rfl zqo ?_|refine WL.e1 rfl ?_|refine WL.ar rfl rfl z53i ?_|refine WL.len rfl rfl rfl ?_|refine W.condT rfl ?_|refine W.condF rfl ?_)
   (first|refine (?_:W _ _ _ _ _)|refine (?_:WL _ _ _ _ _ _)|skip)
   try dsimp only [St.put,Nat.reduceAdd]
   exact ⟨k+1,⟨by omega,hnx⟩,by omega,(zqt id)⟩
 ·obtain rfl:k=l.length:=by omega
  rw [List.take_length] at hno
  rw [hno]
  repeat (first|refine WL.vl rfl (WV.nch rfl rfl) ?_|refine W.gob rfl ?_|refine WL.nil ?_|refine WL.bt rfl rfl rfl zqo ?_|refine WL.bf rfl rfl rfl zqo ?_|refine WL.e1 rfl ?_|refine WL.ar rfl rfl z53i ?_|refine WL.len rfl rfl rfl ?_|refine W.condT rfl ?_|refine W.condF rfl ?_)
  (first|refine (?_:W _ _ _ _ _)|refine (?_:WL _ _ _ _ _ _)|skip)
  try dsimp only [St.put,Nat.reduceAdd]
  exact W.ret zqr
def hasX(l:List Stp)(x:Stp):Bool:=l.any fun y=>y.1 == x.1 && y.2.1 == x.2.1
theorem zhas_FS (e:Ev) (h20:e.stops.length≤20) (x:Stp):Ctr Tryz.prog 22 [.ag (eEv e),.ag (eStp x)] (.sc (.bool (hasX e.stops x))):=by
 have hAt:∀ k (h:k < e.stops.length),(e.stops.map eStp)[((k:Nat):Int).toNat]?=some [.sc (.int .i64 e.stops[k].1),.sc (.int .i64 e.stops[k].2.1),.sc (.int .i64 e.stops[k].2.2.1),.sc (.int .i64 e.stops[k].2.2.2.1),.sc (.int .i64 e.stops[k].2.2.2.2)]:=fun k h=>by
  rw [Int.toNat_natCast,List.getElem?_map,List.getElem?_eq_getElem h];rfl
 have hEl:(e.stops.map eStp).length=e.stops.length:=List.length_map _
 obtain ⟨b,v,dt,th,ti,S⟩:=e
 dsimp only at hAt hEl h20 ⊢
 show Ctr Tryz.prog 22 [.ag [.sc (.bool b),.sc (.int .i64 v),.sc (.bool dt),.sc (.bool th),.sc (.bool ti),.ls 5 (S.map eStp)],.ag [.sc (.int .i64 x.1),.sc (.int .i64 x.2.1),.sc (.int .i64 x.2.2.1),.sc (.int .i64 x.2.2.2.1),.sc (.int .i64 x.2.2.2.2)]] _
 obtain ⟨SE,hSE⟩:∃ z,S.map eStp=z:=⟨_,rfl⟩
 rw [hSE] at hAt hEl ⊢
 clear hSE
 refine zqe Tryz.func22 Tryz.ntmps22 fun w0 F0=>?_;dsimp only [St.init,number,Nat.reduceAdd]
 repeat (first|refine W.gob rfl ?_|refine WL.nil ?_|refine WL.bt rfl rfl rfl zqo ?_|refine WL.bf rfl rfl rfl zqo ?_|refine WL.e1 rfl ?_|refine WL.ar rfl rfl z53i ?_|refine WL.len rfl rfl rfl ?_|refine W.condT rfl ?_|refine W.condF rfl ?_)
 (first|refine (?_:W _ _ _ _ _)|refine (?_:WL _ _ _ _ _ _)|skip)
 try dsimp only [St.put,Nat.reduceAdd]
 refine W.loop (fun k:Nat=>k≤S.length∧hasX (S.take k) x=false) (fun k=>⟨[(2,.pt 0 0 0),(3,.pt 1 0 0),(5,.sc (.int .i64 k))],[(0,.box 45 [.sc (.bool b),.sc (.int .i64 v),.sc (.bool dt),.sc (.bool th),.sc (.bool ti),.ls 5 SE]),(1,.box 48 [.sc (.int .i64 x.1),.sc (.int .i64 x.2.1),.sc (.int .i64 x.2.2.1),.sc (.int .i64 x.2.2.2.1),.sc (.int .i64 x.2.2.2.2)])],2⟩) (fun k=>S.length - k) 0 ⟨by omega,rfl⟩ (zqt id) fun k hk=>?_
 obtain ⟨hk,hno⟩:=hk
 by_cases hlt:k < S.length
 ·have h1:=hAt k hlt
  have hnx:hasX (S.take (k+1)) x=(S[k].1 == x.1 && S[k].2.1 == x.2.1):=by
   have e:hasX (S.take (k+1)) x=(hasX (S.take k) x|| (S[k].1 == x.1 && S[k].2.1 == x.2.1)):=by
    unfold hasX
    rw [List.take_succ_eq_append_getElem hlt,List.any_append];simp
   rw [e,hno,Bool.false_or]
  have hyes:(S[k].1 == x.1 && S[k].2.1 == x.2.1)=true→hasX S x=true:=fun h=>List.any_eq_true.2 ⟨S[k],List.getElem_mem hlt,h⟩
  obtain ⟨y,hy⟩:∃ z,S[k]=z:=⟨_,rfl⟩
  rw [hy] at h1 hnx hyes
  by_cases e1:y.1=x.1
  ·have d1:decide (y.1=x.1)=true:=decide_eq_true e1
   by_cases e2:y.2.1=x.2.1
   ·have d2:decide (y.2.1=x.2.1)=true:=decide_eq_true e2
    rw [hyes (by simp [e1,e2])]
    repeat (first|refine W.gob rfl ?_|refine WL.nil ?_|refine WL.bt rfl rfl rfl zqo ?_|refine WL.bf rfl rfl rfl zqo ?_|refine WL.e1 rfl ?_|refine WL.ar rfl rfl z53i ?_|refine WL.len rfl rfl rfl ?_|refine W.condT rfl ?_|refine W.condF rfl ?_)
    (first|refine (?_:W _ _ _ _ _)|refine (?_:WL _ _ _ _ _ _)|skip)
    try dsimp only [St.put,Nat.reduceAdd]
    refine W.drawK zqk zqk ?_
    repeat (first|refine DK.bt rfl rfl (by omega) ?_|refine DK.bf rfl rfl (by omega) ?_|refine DK.tt rfl (by first|(simp;done)|fail) ?_|refine DK.ff rfl (by first|(simp;done)|fail) ?_|refine DK.st rfl ?_|refine DK.nil ?_)
    refine DK.idx rfl rfl zqo h1 ?_
    repeat (first|refine DK.bt rfl rfl (by omega) ?_|refine DK.bf rfl rfl (by omega) ?_|refine DK.tt rfl (by first|(simp;done)|fail) ?_|refine DK.ff rfl (by first|(simp;done)|fail) ?_|refine DK.st rfl ?_|refine DK.nil ?_)
    refine DK.idx rfl rfl zqo h1 ?_
    repeat (first|refine DK.bt rfl rfl (by omega) ?_|refine DK.bf rfl rfl (by omega) ?_|refine DK.tt rfl (by first|(simp;done)|fail) ?_|refine DK.ff rfl (by first|(simp;done)|fail) ?_|refine DK.st rfl ?_|refine DK.nil ?_)
    repeat (first|refine W.gob rfl ?_|refine WL.nil ?_|refine WL.bt rfl rfl rfl zqo ?_|refine WL.bf rfl rfl rfl zqo ?_|refine WL.e1 rfl ?_|refine WL.ar rfl rfl z53i ?_|refine WL.len rfl rfl rfl ?_|refine W.condT rfl ?_|refine W.condF rfl ?_)
    (first|refine (?_:W _ _ _ _ _)|refine (?_:WL _ _ _ _ _ _)|skip)
    try dsimp only [St.put,Nat.reduceAdd]
    exact W.ret zqr
   ·have d2:decide (y.2.1=x.2.1)=false:=decide_eq_false e2
    repeat (first|refine W.gob rfl ?_|refine WL.nil ?_|refine WL.bt rfl rfl rfl zqo ?_|refine WL.bf rfl rfl rfl zqo ?_|refine WL.e1 rfl ?_|refine WL.ar rfl rfl z53i ?_|refine WL.len rfl rfl rfl ?_|refine W.condT rfl ?_|refine W.condF rfl ?_)
    (first|refine (?_:W _ _ _ _ _)|refine (?_:WL _ _ _ _ _ _)|skip)
    try dsimp only [St.put,Nat.reduceAdd]
    refine W.drawK zqk zqk ?_
    repeat (first|refine DK.bt rfl rfl (by omega) ?_|refine DK.bf rfl rfl (by omega) ?_|refine DK.tt rfl (by first|(simp;done)|fail) ?_|refine DK.ff rfl (by first|(simp;done)|fail) ?_|refine DK.st rfl ?_|refine DK.nil ?_)
    refine DK.idx rfl rfl zqo h1 ?_
    repeat (first|refine DK.bt rfl rfl (by omega) ?_|refine DK.bf rfl rfl (by omega) ?_|refine DK.tt rfl (by first|(simp;done)|fail) ?_|refine DK.ff rfl (by first|(simp;done)|fail) ?_|refine DK.st rfl ?_|refine DK.nil ?_)
    refine DK.idx rfl rfl zqo h1 ?_
    repeat (first|refine DK.bt rfl rfl (by omega) ?_|refine DK.bf rfl rfl (by omega) ?_|refine DK.tt rfl (by first|(simp;done)|fail) ?_|refine DK.ff rfl (by first|(simp;done)|fail) ?_|refine DK.st rfl ?_|refine DK.nil ?_)
    repeat (first|refine W.gob rfl ?_|refine WL.nil ?_|refine WL.bt rfl rfl rfl zqo ?_|refine WL.bf rfl rfl rfl zqo ?_|refine WL.e1 rfl ?_|refine WL.ar rfl rfl z53i ?_|refine WL.len rfl rfl rfl ?_|refine W.condT rfl ?_|refine W.condF rfl ?_)
    (first|refine (?_:W _ _ _ _ _)|refine (?_:WL _ _ _ _ _ _)|skip)
    try dsimp only [St.put,Nat.reduceAdd]
    exact ⟨k+1,⟨by omega,by rw [hnx];simp [e2]⟩,by omega,(zqt id)⟩
  ·repeat (first|refine W.gob rfl ?_|refine WL.nil ?_|refine WL.bt rfl rfl rfl zqo ?_|refine WL.bf rfl rfl rfl zqo ?_|refine WL.e1 rfl ?_|refine WL.ar rfl rfl z53i ?_|refine WL.len rfl rfl rfl ?_|refine W.condT rfl ?_|refine W.condF rfl ?_)
   (first|refine (?_:W _ _ _ _ _)|refine (?_:WL _ _ _ _ _ _)|skip)
   try dsimp only [St.put,Nat.reduceAdd]
   refine W.drawK zqk zqk ?_
   repeat (first|refine DK.bt rfl rfl (by omega) ?_|refine DK.bf rfl rfl (by omega) ?_|refine DK.tt rfl (by first|(simp;done)|fail) ?_|refine DK.ff rfl (by first|(simp;done)|fail) ?_|refine DK.st rfl ?_|refine DK.nil ?_)
   refine DK.idx rfl rfl zqo h1 ?_
   repeat (first|refine DK.bt rfl rfl (by omega) ?_|refine DK.bf rfl rfl (by omega) ?_|refine DK.tt rfl (by first|(simp;done)|fail) ?_|refine DK.ff rfl (by first|(simp;done)|fail) ?_|refine DK.st rfl ?_|refine DK.nil ?_)
   repeat (first|refine DK.st rfl ?_|refine DK.nil ?_)
   repeat (first|refine W.gob rfl ?_|refine WL.nil ?_|refine WL.bt rfl rfl rfl zqo ?_|refine WL.bf rfl rfl rfl zqo ?_|refine WL.e1 rfl ?_|refine WL.ar rfl rfl z53i ?_|refine WL.len rfl rfl rfl ?_|refine W.condT rfl ?_|refine W.condF rfl ?_)
   (first|refine (?_:W _ _ _ _ _)|refine (?_:WL _ _ _ _ _ _)|skip)
   try dsimp only [St.put,Nat.reduceAdd]
   exact ⟨k+1,⟨by omega,by rw [hnx];simp [e1]⟩,by omega,(zqt id)⟩
 ·obtain rfl:k=S.length:=by omega
  rw [List.take_length] at hno
  rw [hno]
  repeat (first|refine W.gob rfl ?_|refine WL.nil ?_|refine WL.bt rfl rfl rfl zqo ?_|refine WL.bf rfl rfl rfl zqo ?_|refine WL.e1 rfl ?_|refine WL.ar rfl rfl z53i ?_|refine WL.len rfl rfl rfl ?_|refine W.condT rfl ?_|refine W.condF rfl ?_)
  (first|refine (?_:W _ _ _ _ _)|refine (?_:WL _ _ _ _ _ _)|skip)
  try dsimp only [St.put,Nat.reduceAdd]
  exact W.ret zqr
end
section
open Go.RowKit
theorem lsS_fst {C:Cg} {H:Nat→Stp→Int} {i:Nat} {x:Stp}:∀ z∈lsS C H i x,z.1=i∧z.2.1=x.1:=by
 intro z hz
 unfold lsS at hz
 split at hz
 ·rw [List.mem_singleton]at hz;subst hz;exact⟨rfl,rfl⟩
 ·rcases List.mem_append.1 hz with h|h
  ·obtain⟨w,_,rfl⟩:=List.mem_map.1 h;exact⟨rfl,rfl⟩
  ·split at h
   ·cases h
   ·rw [List.mem_singleton]at h;subst h;exact⟨rfl,rfl⟩
theorem lsE_fst {C:Cg} {H:Nat→Stp→Int} {i:Nat} {e:Ev}:∀ z∈lsE C H i e,z.1=i:=by
 intro z hz
 unfold lsE at hz
 rcases List.mem_append.1 hz with h|h
 ·unfold lsH at h
  split at h
  ·cases h
  ·rw [List.mem_singleton]at h;subst h;rfl
 ·obtain⟨x,_,h⟩:=List.mem_flatMap.1 h
  exact(lsS_fst z h).1
theorem lsL_mem {C:Cg} {H:Nat→Stp→Int} {evs:List Ev}:∀ n,n≤evs.length→∀ (i:Nat)(hi:i<evs.length)(c w:Int),i<n→(((i:Int),c,w)∈lsL C H evs n↔((i:Int),c,w)∈lsE C H i evs[i])
 | 0,_,i,hi,c,w,h=>absurd h (Nat.not_lt_zero _)
 | n+1,hn,i,hi,c,w,h=>by
  rw [lsL_at (show n<evs.length by omega),List.mem_append]
  by_cases e:i=n
  ·subst e
   refine⟨fun h=>?_,.inr⟩
   rcases h with h|h
   ·exfalso
    have key:∀ m,m≤evs.length→∀ z∈lsL C H evs m,z.1<m:=by
     intro m
     induction m with
     | zero=>intro _ z hz;cases hz
     | succ m ih =>
      intro hm z hz
      rw [lsL_at (show m<evs.length by omega)] at hz
      rcases List.mem_append.1 hz with h|h
      ·have:=ih zqo z h;omega
      ·have:=lsE_fst z h;omega
    have:=key i zqo _ h
    dsimp only at this
    omega
   ·exact h
  ·rw [lsL_mem n (by omega) i hi c w (by omega)]
   refine⟨fun h=>?_,.inl⟩
   rcases h with h|h
   ·exact h
   ·have:=lsE_fst _ h
    dsimp only at this
    omega
theorem told_at {C:Cg} {H:Nat→Stp→Int} {evs:List Ev} {i:Nat} (hi:i<evs.length)(c w:Int):toldB (lsL C H evs evs.length) i c w=toldB (lsE C H i evs[i]) i c w:=by
 rw [toldB_mem,toldB_mem]
 exact decide_eq_decide.2 (lsL_mem evs.length (Nat.le_refl _) i hi c w hi)
theorem told_ev {C:Cg} {H:Nat→Stp→Int} {i:Nat} {e:Ev} (h:e.stops.length=0) :
  lsE C H i e=(if evT C i e=0 then [] else [((i:Int),0,evT C i e)])∧toldB (lsE C H i e) i 0 7=(e.tie && !nwT C i e)∧toldB (lsE C H i e) i 0 8=(!e.tie && nwT C i e):=by
 have hs:e.stops=[]:=List.eq_nil_of_length_eq_zero h
 have e1:lsE C H i e=(if evT C i e=0 then [] else [((i:Int),0,evT C i e)]):=by
  unfold lsE lsH
  rw [hs,List.flatMap_nil,List.append_nil]
 refine⟨e1,?_⟩
 rw [e1]
 unfold evT nwT
 rw [if_pos h,if_pos h]
 cases e.tie<;>cases C.tie i e<;>(unfold toldB;simp)
theorem ls_ev_len {C:Cg} {H:Nat→Stp→Int} {i:Nat} {e:Ev} (h:e.stops.length=0):(lsE C H i e).length=if e.tie=nwT C i e then 0 else 1:=by
 rw [(told_ev (H:=H) h).1]
 unfold evT nwT
 rw [if_pos h,if_pos h]
 cases e.tie<;>cases C.tie i e<;>simp
theorem told_st {C:Cg} {H:Nat→Stp→Int} {i:Nat} {e:Ev} (ha:e.stops.Pairwise fun x y=>x.1<y.1) (h1:∀ x∈e.stops,1≤x.1) {x:Stp} (hx:x∈e.stops) (w:Int):toldB (lsE C H i e) i x.1 w=toldB (lsS C H i x) i x.1 w:=by
 rw [toldB_mem,toldB_mem]
 refine decide_eq_decide.2 ⟨fun h=>?_,fun h=>?_⟩
 ·unfold lsE at h
  rcases List.mem_append.1 h with h|h
  ·unfold lsH at h
   split at h
   ·cases h
   ·rw [List.mem_singleton] at h
    have:=congrArg (fun z:Lck=>z.2.1) h
    dsimp only at this
    have:=h1 x hx
    omega
  ·obtain ⟨y,hy,h⟩:=List.mem_flatMap.1 h
   have:=(lsS_fst _ h).2
   dsimp only at this
   have hxy:x=y:=mem_crs ha hx hy this
   subst hxy
   exact h
 ·unfold lsE
  exact List.mem_append.2 (.inr (List.mem_flatMap.2 ⟨x,hx,h⟩))
theorem told_lost {C:Cg} {H:Nat→Stp→Int} {i:Nat} {x:Stp} (hc:(C.ch x).2=true):(lsS C H i x).length=1∧toldB (lsS C H i x) i x.1 1=true:=by
 rw [lsS_lost hc]
 refine⟨rfl,?_⟩
 unfold toldB
 simp
theorem told_kept {C:Cg} (hC:CgLs C) {H:Nat→Stp→Int} {i:Nat} {x:Stp} (hc:(C.ch x).2=false) :
  (lsS C H i x).length=((if (C.mr (C.ch x).1).2.2.1=x.2.2.1 then 0 else 1)+(if (C.mr (C.ch x).1).2.2.2.1=x.2.2.2.1 then 0 else 1))+(if H i (C.mr (C.ch x).1)=x.2.2.2.2 then 0 else 1)∧toldB (lsS C H i x) i x.1 1=false ∧
  toldB (lsS C H i x) i x.1 2=!decide ((C.mr (C.ch x).1).2.2.1=x.2.2.1)∧toldB (lsS C H i x) i x.1 3=!decide ((C.mr (C.ch x).1).2.2.2.1=x.2.2.2.1)∧toldB (lsS C H i x) i x.1 4=!decide (H i (C.mr (C.ch x).1)=x.2.2.2.2):=by
 rw [lsS_kept hC hc]
 generalize H i (C.mr (C.ch x).1)=h
 generalize C.mr (C.ch x).1=y
 unfold toldB
 by_cases e1:y.2.2.1=x.2.2.1<;>by_cases e2:y.2.2.2.1=x.2.2.2.1<;>by_cases e3:h=x.2.2.2.2<;>simp [e1,e2,e3]
theorem has_lost {C:Cg} (hcr:∀ x y,C.mv x=some y→y.1=x.1∧y.2.2.2.2=x.2.2.2.2) {l:List Stp} (ha:l.Pairwise fun x y=>x.1<y.1) {x:Stp} (hx:x∈l)(hc:(C.ch x).2=true)(f:Stp→Int):hasX ((nwS C l).map fun y=>stH y (f y)) x=false:=by
 unfold hasX
 rw [List.any_eq_false]
 intro z hz h
 obtain⟨y,hy,rfl⟩:=List.mem_map.1 hz
 obtain⟨q,hq,hm⟩:=nwS_mem hy
 have e1:=(hcr q y hm).1
 have h:(y.1 == x.1 && y.2.1 == x.2.1)=true:=h
 rw [Bool.and_eq_true] at h
 have e2:y.1=x.1:=by simpa using h.1
 have:=mem_crs ha hq hx zqo
 subst this
 rw [show C.mv q=none from if_pos hc] at hm
 cases hm
theorem has_kept {C:Cg} (hcr:∀ x y,C.mv x=some y→y.1=x.1∧y.2.1=x.2.1) {l:List Stp} {x:Stp} (hx:x∈l) (hc:(C.ch x).2=false) (f:Stp→Int):hasX ((nwS C l).map fun y=>stH y (f y)) x=true:=by
 have hm:C.mv x=some (C.mr (C.ch x).1):=if_neg (by rw [hc];simp)
 have hy:C.mr (C.ch x).1∈nwS C l:=List.mem_filterMap.2 ⟨x,hx,hm⟩
 obtain ⟨e1,e2⟩:=hcr _ _ hm
 unfold hasX
 rw [List.any_eq_true]
 refine ⟨_,List.mem_map.2 ⟨_,hy,rfl⟩,?_⟩
 show ((C.mr (C.ch x).1).1 == x.1 && (C.mr (C.ch x).1).2.1 == x.2.1)=true
 rw [e1,e2];simp
theorem crs_kept {C:Cg} (hcr:∀ x y,C.mv x=some y→y.1=x.1∧y.2.2.2.2=x.2.2.2.2) {l:List Stp} (ha:l.Pairwise fun x y=>x.1<y.1) {k:Nat} (hk:k<l.length) (hc:(C.ch l[k]).2=false) (f:Stp→Int) :
  ∃ N,((nwS C l).map fun y=>stH y (f y))[N]?=some (stH (C.mr (C.ch l[k]).1) (f (C.mr (C.ch l[k]).1)))∧∀ (j:Nat) (y:Stp),((nwS C l).map fun y=>stH y (f y))[j]?=some y→(y.1=l[k].1↔j=N):=by
 have hN:=nw_pos hk hc f
 have hm:C.mv l[k]=some (C.mr (C.ch l[k]).1):=if_neg (by rw [hc];simp)
 have e1:=(hcr _ _ hm).1
 have hasc:=map_stH_asc (f:=f) (nwS_asc hcr ha)
 refine ⟨_,hN,fun j y hj=>⟨fun h=>?_,fun h=>?_⟩⟩
 ·obtain ⟨h1,h2⟩:=List.getElem?_eq_some_iff.1 hN
  obtain ⟨h3,h4⟩:=List.getElem?_eq_some_iff.1 hj
  rcases Nat.lt_trichotomy j (kpS C (l.take k)).length with q|q|q
  ·have:=List.pairwise_iff_getElem.1 hasc j _ h3 h1 q
   rw [h2,h4]at this
   have e2:(stH (C.mr (C.ch l[k]).1) (f (C.mr (C.ch l[k]).1))).1=(C.mr (C.ch l[k]).1).1:=rfl
   omega
  ·exact q
  ·have:=List.pairwise_iff_getElem.1 hasc _ j h1 h3 q
   rw [h2,h4]at this
   have e2:(stH (C.mr (C.ch l[k]).1) (f (C.mr (C.ch l[k]).1))).1=(C.mr (C.ch l[k]).1).1:=rfl
   omega
 ·subst h
  rw [hN]at hj
  cases hj
  exact e1
end
end Go.Proofs.YtaeelcfjkhfpkaaGreat
