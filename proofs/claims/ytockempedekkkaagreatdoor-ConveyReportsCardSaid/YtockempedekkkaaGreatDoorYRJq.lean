/- A piece reduced to what a system can say: plain. -/
import Derived.Test.YtockempedekkkaaGreatDoorG8Jq
import Derived.Test.YtockempedekkkaaGreatDoorEGJq
set_option maxHeartbeats 8000000
set_option maxRecDepth 100000
set_option linter.unusedVariables false
set_option linter.unusedSimpArgs false
namespace Go.Proofs.YtockempedekkkaaGreatDoor
section
open Go.RowKit
theorem z50i {z:Int} (h:I64 z:=by unfold I64;omega):I64 z:=h
def rq_rpE(l:List Lck):Int:=if l.all rq_rkOk then 0 else 1
def rq_rpS(l:List Lck):List UInt8:=if l.all rq_rkOk then rq_rpT l else []
theorem rq_bad {l:List Lck} {k:Nat} (hk:k<l.length)(h:rq_rkOk l[k]=false):rq_rpE l=1∧rq_rpS l=[]:=by
 have:l.all rq_rkOk=false:=by
  rw [List.all_eq_false]
  exact⟨l[k],List.getElem_mem hk,by simp [h]⟩
 unfold rq_rpE rq_rpS
 rw [this];exact⟨rfl,rfl⟩
theorem rq_all {l:List Lck} (h:∀ k(hk:k<l.length),rq_rkOk l[k]=true):rq_rpE l=0∧rq_rpS l=rq_rpT l:=by
 have:l.all rq_rkOk=true:=by
  rw [List.all_eq_true]
  intro x hx
  obtain⟨k,hk,rfl⟩:=List.mem_iff_getElem.1 hx
  exact h k hk
 unfold rq_rpE rq_rpS
 rw [this];exact⟨rfl,rfl⟩
theorem rq_take_len {l:List Lck} {k:Nat} (hk:k≤l.length)(h:∀ j (hj:j<l.length),j<k→rq_rkOk l[j]=true):(rq_rpT (l.take k)).length≤14*k:=by
 have:=rq_rpT_len (l:=l.take k) fun x hx=>by
  obtain⟨j,hj,rfl⟩:=List.mem_iff_getElem.1 hx
  rw [List.getElem_take]
  have hj2:j<k:=by have:=hj;rw [List.length_take] at this;omega
  exact h j zqo hj2
 rw [List.length_take] at this;omega
theorem rq_cases {x:Lck} (h:rq_rkOk x=false):x.1<0∨(0≤x.1∧400≤x.1)∨(0≤x.1∧x.1<400∧x.2.1<0)∨(0≤x.1∧x.1<400∧0≤x.2.1∧14<x.2.1)∨(0≤x.1∧x.1<400∧0≤x.2.1∧x.2.1≤14∧x.2.2<1)∨(0≤x.1∧x.1<400∧0≤x.2.1∧x.2.1≤14∧1≤x.2.2∧8<x.2.2):=by
 have:=of_decide_eq_false h
 omega
theorem rq_name {x:Int} (h:1≤x∧x≤8)(hl:(x-1).toNat<rq_nmL.length):rq_nmL[(x-1).toNat]=rq_nmW x:=by
 unfold rq_nmW
 rw [List.getD_eq_getElem?_getD,List.getElem?_eq_getElem hl];rfl
theorem pReport_G (l:List Lck) (hl:l.length≤100000):Ctg tabR Tryz.prog 6 [.ls 3 (l.map eLk)] (.tu [.sc (.string (bs (rq_rpS l))),.sc (.int .i64 (rq_rpE l))]):=by
 have hnl:rq_nmL.length=8:=rfl
 refine Ctg.intro stabR Tryz.func6 rfl Tryz.ntmps6 (Nat.le_of_ble_eq_true rfl) (bd_all rfl) fun w0 F0 hB=>?_;dsimp only [St.init,number,Nat.reduceAdd]
 repeat (first|refine W.go rfl ?_|refine WL.nil ?_|refine WL.gyes rfl rfl rfl rfl ?_|refine WL.opno rfl rfl rfl rfl rfl rfl rfl ?_|refine WL.ar rfl rfl z50i ?_|refine WL.len rfl rfl zql ?_|refine WL.idx rfl rfl zqo zqm ?_|refine W.condT rfl ?_|refine W.condF rfl ?_)
 (first|refine (?_:W _ _ _ _ _)|refine (?_:WL _ _ _ _ _ _)|skip)
 try dsimp only [St.put,Nat.reduceAdd]
 refine WL.vl rfl (WV.callG hB rfl (callF Tryz.func13 rfl rfl) rfl rfl fields_G) ?_
 repeat (first|refine W.gob rfl ?_|refine WL.nil ?_|refine WL.bt rfl rfl rfl zqo ?_|refine WL.bf rfl rfl rfl zqo ?_|refine WL.e1 rfl ?_|refine WL.gyes rfl rfl rfl rfl ?_|refine WL.opno rfl rfl rfl rfl rfl rfl rfl ?_|refine WL.ar rfl rfl z50i ?_|refine WL.len rfl rfl zql ?_|refine WL.idx rfl rfl zqo zqm ?_|refine W.condT rfl ?_|refine W.condF rfl ?_)
 (first|refine (?_:W _ _ _ _ _)|refine (?_:WL _ _ _ _ _ _)|skip)
 try dsimp only [St.put,Nat.reduceAdd]
 by_cases h0:l.length=0
 ·obtain rfl:l=[]:=List.eq_nil_of_length_eq_zero h0
  refine W.loop (fun k:Nat=>k≤0) (fun k=>⟨[(5,.pt 0 0 0),(10,.sc (.int .i64 0)),(11,.sc (.int .i64 k))],[(0,.box 59 [.sc (.pointer none),.sc (.slice none 0 0)])],1⟩) (fun k=>0 - k) 0 zqo (zqt id) fun k hk=>?_
  obtain rfl:k=0:=by omega
  repeat (first|refine W.gob rfl ?_|refine WL.nil ?_|refine WL.bt rfl rfl rfl zqo ?_|refine WL.bf rfl rfl rfl zqo ?_|refine WL.e1 rfl ?_|refine WL.gyes rfl rfl rfl rfl ?_|refine WL.opno rfl rfl rfl rfl rfl rfl rfl ?_|refine WL.ar rfl rfl z50i ?_|refine WL.len rfl rfl zql ?_|refine WL.idx rfl rfl zqo zqm ?_|refine W.condT rfl ?_|refine W.condF rfl ?_)
  (first|refine (?_:W _ _ _ _ _)|refine (?_:WL _ _ _ _ _ _)|skip)
  try dsimp only [St.put,Nat.reduceAdd]
  refine WL.vl rfl (WV.boxR2 rfl (callF Tryz.func16 rfl rfl) rfl rfl fun w b=>bldSR0 w b _) ?_
  repeat (first|refine W.gob rfl ?_|refine WL.nil ?_|refine WL.bt rfl rfl rfl zqo ?_|refine WL.bf rfl rfl rfl zqo ?_|refine WL.e1 rfl ?_|refine WL.gyes rfl rfl rfl rfl ?_|refine WL.opno rfl rfl rfl rfl rfl rfl rfl ?_|refine WL.ar rfl rfl z50i ?_|refine WL.len rfl rfl zql ?_|refine WL.idx rfl rfl zqo zqm ?_|refine W.condT rfl ?_|refine W.condF rfl ?_)
  (first|refine (?_:W _ _ _ _ _)|refine (?_:WL _ _ _ _ _ _)|skip)
  try dsimp only [St.put,Nat.reduceAdd]
  exact W.ret (fin2 rfl rfl rfl rfl rfl rfl rfl)
 first|refine W.tr (Tr.bld 0 5 rfl) ?_|refine WL.tr (Tr.bld 0 5 rfl) ?_
 dsimp only [St.upd]
 refine W.loop (fun k:Nat=>k≤l.length∧∀ j (hj:j < l.length),j < k→rq_rkOk l[j]=true) (fun k=>⟨[(4,.ls 1 (rq_nmL.map eTx)),(5,.pt 0 0 0),(9,.ls 3 (l.map eLk)),(10,.sc (.int .i64 l.length)),(11,.sc (.int .i64 k))],[(0,.bld 59 5 (rq_rpT (l.take k)))],1⟩) (fun k=>l.length - k) 0 ⟨by omega,fun j hj h=>absurd h zqo⟩ (zqt id) fun k hk=>?_
 obtain ⟨hk,hall⟩:=hk
 by_cases hlt:k < l.length
 rotate_left
 ·obtain rfl:k=l.length:=by omega
  have ha:=rq_all (l:=l) fun j hj=>hall j hj hj
  have hne:rq_rpT (l.take l.length)≠[]:=by
   rw [List.take_length]
   match l,h0 with
   | x::r,_=>simp [rq_rpT]
  rw [ha.1,ha.2]
  rw [List.take_length] at hne ⊢
  repeat (first|refine W.gob rfl ?_|refine WL.nil ?_|refine WL.bt rfl rfl rfl zqo ?_|refine WL.bf rfl rfl rfl zqo ?_|refine WL.e1 rfl ?_|refine WL.gyes rfl rfl rfl rfl ?_|refine WL.opno rfl rfl rfl rfl rfl rfl rfl ?_|refine WL.ar rfl rfl z50i ?_|refine WL.len rfl rfl zql ?_|refine WL.idx rfl rfl zqo zqm ?_|refine W.condT rfl ?_|refine W.condF rfl ?_)
  (first|refine (?_:W _ _ _ _ _)|refine (?_:WL _ _ _ _ _ _)|skip)
  try dsimp only [St.put,Nat.reduceAdd]
  refine WL.bs rfl rfl rfl (callF Tryz.func16 rfl rfl) bldS_ok hne ?_
  repeat (first|refine W.gob rfl ?_|refine WL.nil ?_|refine WL.bt rfl rfl rfl zqo ?_|refine WL.bf rfl rfl rfl zqo ?_|refine WL.e1 rfl ?_|refine WL.gyes rfl rfl rfl rfl ?_|refine WL.opno rfl rfl rfl rfl rfl rfl rfl ?_|refine WL.ar rfl rfl z50i ?_|refine WL.len rfl rfl zql ?_|refine WL.idx rfl rfl zqo zqm ?_|refine W.condT rfl ?_|refine W.condF rfl ?_)
  (first|refine (?_:W _ _ _ _ _)|refine (?_:WL _ _ _ _ _ _)|skip)
  try dsimp only [St.put,Nat.reduceAdd]
  exact W.ret (fin2 rfl rfl rfl rfl rfl rfl rfl)
 cases hx:rq_rkOk l[k] with
 | false =>
  have hc:=rq_cases hx
  have hb:=rq_bad hlt hx
  rw [hb.1,hb.2]
  clear hall hb hx
  rcases hc with hc|hc|hc|hc|hc|hc
  all_goals
   repeat (first|refine W.gob rfl ?_|refine WL.nil ?_|refine WL.bt rfl rfl rfl zqo ?_|refine WL.bf rfl rfl rfl zqo ?_|refine WL.e1 rfl ?_|refine WL.gyes rfl rfl rfl rfl ?_|refine WL.opno rfl rfl rfl rfl rfl rfl rfl ?_|refine WL.ar rfl rfl z50i ?_|refine WL.len rfl rfl zql ?_|refine WL.idx rfl rfl zqo zqm ?_|refine W.condT rfl ?_|refine W.condF rfl ?_)
   (first|refine (?_:W _ _ _ _ _)|refine (?_:WL _ _ _ _ _ _)|skip)
   try dsimp only [St.put,Nat.reduceAdd]
   exact W.ret (fin2 rfl rfl rfl rfl rfl rfl rfl)
 | true =>
  have hc:=of_decide_eq_true hx
  have hlen:=rq_take_len hk hall
  have hrow:=rq_rpT_at hlt
  have hr13:=(rq_rkT_of hx).1
  have hnm:=rq_name (x:=l[k].2.2) ⟨by omega,by omega⟩ zqo
  have hi1:=itoaR_G l[k].1 z50i
  have hi2:=itoaR_G l[k].2.1 z50i
  have hnext:∀ j (hj:j < l.length),j < k+1→rq_rkOk l[j]=true:=fun j hj h=>by
   by_cases e:j=k
   ·subst e;exact hx
   ·exact hall j hj zqo
  unfold rq_rkT at hrow hr13
  obtain ⟨a,ha⟩:∃ z,Lib.itoa l[k].1=z:=⟨_,rfl⟩
  obtain ⟨b,hb⟩:∃ z,Lib.itoa l[k].2.1=z:=⟨_,rfl⟩
  obtain ⟨nm,hn⟩:∃ z,rq_nmW l[k].2.2=z:=⟨_,rfl⟩
  obtain ⟨cc,hcc⟩:∃ z,rq_rpT (l.take k)=z:=⟨_,rfl⟩
  rw [ha,hb,hn] at hrow hr13
  rw [ha] at hi1
  rw [hb] at hi2
  rw [hn] at hnm
  rw [hcc] at hlen hrow ⊢
  simp only [List.length_append,List.length_cons,List.length_nil] at hr13
  clear hall hx
  repeat (first|refine W.gob rfl ?_|refine WL.nil ?_|refine WL.bt rfl rfl rfl zqo ?_|refine WL.bf rfl rfl rfl zqo ?_|refine WL.e1 rfl ?_|refine WL.gyes rfl rfl rfl rfl ?_|refine WL.opno rfl rfl rfl rfl rfl rfl rfl ?_|refine WL.ar rfl rfl z50i ?_|refine WL.len rfl rfl zql ?_|refine WL.idx rfl rfl zqo zqm ?_|refine W.condT rfl ?_|refine W.condF rfl ?_)
  (first|refine (?_:W _ _ _ _ _)|refine (?_:WL _ _ _ _ _ _)|skip)
  try dsimp only [St.put,Nat.reduceAdd]
  refine W.dkT 17 zqk zqk zqk zqk ?_
  repeat (first|refine DK.st rfl ?_|refine DK.ar rfl rfl z50i ?_|refine DK.idx rfl rfl zqo zqm ?_|refine DK.cat rfl rfl zqs ?_|refine DK.nil ?_)
  refine DK.vl rfl (WV.callG hB rfl (callF Tryz.func15 rfl rfl) rfl rfl hi1) ?_
  repeat (first|refine DK.st rfl ?_|refine DK.ar rfl rfl z50i ?_|refine DK.idx rfl rfl zqo zqm ?_|refine DK.cat rfl rfl zqs ?_|refine DK.nil ?_)
  refine DK.vl rfl (WV.callG hB rfl (callF Tryz.func15 rfl rfl) rfl rfl hi2) ?_
  repeat (first|refine DK.st rfl ?_|refine DK.ar rfl rfl z50i ?_|refine DK.idx rfl rfl zqo zqm ?_|refine DK.cat rfl rfl zqs ?_|refine DK.nil ?_)
  rw [hnm]
  repeat (first|refine DK.st rfl ?_|refine DK.ar rfl rfl z50i ?_|refine DK.idx rfl rfl zqo zqm ?_|refine DK.cat rfl rfl zqs ?_|refine DK.nil ?_)
  refine ⟨rfl,?_⟩
  repeat (first|refine W.gob rfl ?_|refine WL.nil ?_|refine WL.bt rfl rfl rfl zqo ?_|refine WL.bf rfl rfl rfl zqo ?_|refine WL.e1 rfl ?_|refine WL.gyes rfl rfl rfl rfl ?_|refine WL.opno rfl rfl rfl rfl rfl rfl rfl ?_|refine WL.ar rfl rfl z50i ?_|refine WL.len rfl rfl zql ?_|refine WL.idx rfl rfl zqo zqm ?_|refine W.condT rfl ?_|refine W.condF rfl ?_)
  (first|refine (?_:W _ _ _ _ _)|refine (?_:WL _ _ _ _ _ _)|skip)
  try dsimp only [St.put,Nat.reduceAdd]
  refine WL.bw rfl rfl rfl (callF Tryz.func14 rfl rfl) bldW_ok (by simp only [List.length_append,List.length_cons,List.length_nil];omega) hrow.symm ?_
  repeat (first|refine W.gob rfl ?_|refine WL.nil ?_|refine WL.bt rfl rfl rfl zqo ?_|refine WL.bf rfl rfl rfl zqo ?_|refine WL.e1 rfl ?_|refine WL.gyes rfl rfl rfl rfl ?_|refine WL.opno rfl rfl rfl rfl rfl rfl rfl ?_|refine WL.ar rfl rfl z50i ?_|refine WL.len rfl rfl zql ?_|refine WL.idx rfl rfl zqo zqm ?_|refine W.condT rfl ?_|refine W.condF rfl ?_)
  (first|refine (?_:W _ _ _ _ _)|refine (?_:WL _ _ _ _ _ _)|skip)
  try dsimp only [St.put,Nat.reduceAdd]
  refine ⟨k+1,⟨by omega,hnext⟩,by omega,?_⟩
  exact (zqu (fun q=>q) (by repeat (first|exact trivial|refine ⟨⟨?_,?_,?_⟩,?_⟩|rfl|exact congrArg (fun q=>some (AO.row _ _ q)) (by first|rfl|(simp;done)|(simp [eInt];done)|(simp [eLk];done)))) rfl)
end
section
open Go.RowKit
def redC (s:Int):Cg where
 ch x:=(x,!pOk s x.1 x.2.1)
 mr x:=(x.1,x.2.1,if okR s x.2.2.1=true then x.2.2.1 else 0,if okG s x.2.2.2.1=true then x.2.2.2.1 else 0,x.2.2.2.2)
 ml x:=(if okR s x.2.2.1=true then []else [2])++(if okG s x.2.2.2.1=true then []else [3])
 tie i e:=if e.tie=true∧hasS s 7=false then false else if e.tie=false∧hasS s 8=false then true else e.tie
 bare i:=decide (0<i) && hasS s 7
def redQ(s:Int)(p:Pce):List Ev:=if s=4 then plE p else p.evs
def redI(s:Int)(p:Pce):Pce:=⟨p.cs,p.st,redQ s p⟩
def thrB(evs:List Ev):Bool:=evs.any fun e=>e.three
def frsB (C:Cg)(evs:List Ev):Bool:=match evs with
 | []=>false
 | e::_=>decide ((nwS C e.stops).length=0)
def redX (s:Int)(p:Pce):Int:=if ¬ (1≤s∧s≤4) then 30 else if pceE p≠0 then pceE p else if s=4∧thrB p.evs=true then 31 else if s=3∧frsB (redC s) p.evs=true then 31 else 0
def redN (s:Int) (p:Pce):List Ev:=nwL (redC s) (redQ s p)
def redP (s:Int) (p:Pce):Pce:=if redX s p=0 then ⟨p.cs,p.st,fnL (znH s (redN s p)) (redN s p)⟩else noP
def redL (s:Int) (p:Pce):List Lck:=if redX s p=0 then lsL (redC s) (znH s (redN s p)) (redQ s p) (redQ s p).length else []
theorem redQ_len(s:Int)(p:Pce):(redQ s p).length=p.evs.length:=by
 unfold redQ;split
 ·exact plE_length p
 ·rfl
theorem redQ_20 {s:Int} {p:Pce} (hO:PcOk p):∀ e∈redQ s p,e.stops.length≤20:=by
 have h0:∀ e∈p.evs,e.stops.length≤20:=fun e he=>by
  obtain⟨i,hi,rfl⟩:=List.getElem_of_mem he
  exact hO.n4 i hi
 unfold redQ
 split
 ·intro e he
  obtain⟨f,hf,e1⟩:=plN_stops (Nat.le_refl _) e he
  rw [e1];exact h0 f hf
 ·exact h0
theorem redI_ok {s:Int} {p:Pce} (hO:PcOk p):PcOk (redI s p) :=
 ⟨hO.n1,hO.n2,by show (redQ s p).length≤420;rw [redQ_len];exact hO.n3,fun k hk=>redQ_20 hO _ (List.getElem_mem _)⟩
theorem redI_valid {s:Int} {p:Pce} (h0:pceE p=0):pceE (redI s p)=0:=by
 unfold redI redQ
 split
 ·exact pceE_pl h0
 ·exact h0
theorem redC_mv {s:Int} {x y:Stp} (h:(redC s).mv x=some y):pOk s x.1 x.2.1=true∧y=(redC s).mr x:=by
 unfold Cg.mv at h
 by_cases hp:pOk s x.1 x.2.1=true
 ·rw [if_neg (by show ¬ (!pOk s x.1 x.2.1)=true;rw [hp];simp)]at h
  exact⟨hp,(Option.some.inj h).symm⟩
 ·rw [if_pos (by show (!pOk s x.1 x.2.1)=true;simpa using hp)]at h
  cases h
theorem redC_crs {s:Int} (x y:Stp)(h:(redC s).mv x=some y):y.1=x.1∧y.2.2.2.2=x.2.2.2.2:=by
 obtain⟨_,rfl⟩:=redC_mv h;exact⟨rfl,rfl⟩
theorem redC_ml(s:Int)(y:Stp):((redC s).ml y).length≤2:=by
 show(_++_:List Int).length≤2
 rw [List.length_append]
 split<;>split<;>simp
theorem redQ_first {s:Int} {p:Pce} (h3:s=3):redQ s p=p.evs:=by
 unfold redQ;rw [if_neg (by omega)]
theorem redC_ok {s:Int} {p:Pce} (hs:1≤s∧s≤4) (h0:pceE p=0) (hf:¬ (s=3∧frsB (redC s) p.evs=true)):CgOk (redC s) (redI s p) p.cs:=by
 have hv:=redI_valid (s:=s) h0
 refine ⟨redC_crs,rfl,fun k hk x hx y hy=>?_,fun k hk ht=>?_⟩
 ·obtain ⟨hp,rfl⟩:=redC_mv hy
  have hE:=evOk_of hv hk
  have hS:=hE.stops x hx
  obtain ⟨j,hj,rfl⟩:=List.getElem_of_mem hx
  obtain ⟨_,_,b3,b4,_⟩:=stopsIn_of hv k hk j hj
  refine ⟨hS.fret,?_,?_⟩
  ·show 0≤(if _ then _ else _:Int)∧(if _ then _ else _:Int)≤3
   split<;>omega
  ·show 0≤(if _ then _ else _:Int)∧(if _ then _ else _:Int)≤4
   split<;>omega
 ·have hE:=evOk_of hv hk
  unfold nwT at ht
  by_cases hl:(redI s p).evs[k].stops.length=0
  ·rw [if_pos hl] at ht
   have hnil:nwS (redC s) (redI s p).evs[k].stops=[]:=by rw [List.eq_nil_of_length_eq_zero hl];rfl
   refine ⟨?_,hnil⟩
   cases hti:(redI s p).evs[k].tie with
   | true=>exact (hE.tie hti).2
   | false =>
    have ht:(if (redI s p).evs[k].tie=true∧hasS s 7=false then false else if (redI s p).evs[k].tie=false∧hasS s 8=false then true else (redI s p).evs[k].tie)=true:=ht
    rw [hti,if_neg (by simp)] at ht
    by_cases h8:hasS s 8=false
    ·rcases Nat.lt_or_ge 0 k with h|h
     ·exact h
     ·exfalso
      obtain rfl:k=0:=by omega
      have h3:s=3:=by
       unfold hasS at h8
       by_cases a:s=3
       ·exact a
       ·rw [if_neg a] at h8
        by_cases b:s=4
        ·rw [if_pos b] at h8;cases h8
        ·rw [if_neg b] at h8;cases h8
      refine hf ⟨h3,?_⟩
      have e:(redI s p).evs=p.evs:=redQ_first h3
      have hk':0<p.evs.length:=by rw [← e];exact hk
      cases hev:p.evs with
      | nil=>rw [hev] at hk';cases hk'
      | cons a r =>
       have e2:(redI s p).evs[0]=a:=by
        have:(redI s p).evs[0]?=some a:=by rw [e,hev];rfl
        rw [List.getElem?_eq_getElem hk] at this
        exact Option.some.inj this
       rw [e2] at hnil
       show decide _=true
       rw [hnil];rfl
    ·rw [if_neg (fun h=>h8 h.2)] at ht
     cases ht
  ·rw [if_neg hl] at ht
   by_cases hn:(nwS (redC s) (redI s p).evs[k].stops).length=0
   ·rw [if_pos hn] at ht
    have ht:(decide (0<k) && hasS s 7)=true:=ht
    rw [Bool.and_eq_true] at ht
    exact ⟨of_decide_eq_true ht.1,List.eq_nil_of_length_eq_zero hn⟩
   ·rw [if_neg hn] at ht
    have:=(hE.tie ht).1
    rw [this] at hl
    exact absurd rfl hl
theorem red_mid {s:Int} {p:Pce} (hs:1≤s∧s≤4) (h0:pceE p=0) (hf:¬ (s=3∧frsB (redC s) p.evs=true)):pceE ⟨p.cs,p.st,fnL (ftH (redN s p)) (redN s p)⟩=0 :=
 cv_ok (p:=redI s p) (redI_valid h0) (pceE_zero h0).1 (redC_ok hs h0 hf) fun i y hy=>ftH_bd hy
theorem redN_asc {s:Int} {p:Pce} (h0:pceE p=0):∀ e∈redN s p,e.stops.Pairwise fun x y=>x.1<y.1:=by
 intro e he
 obtain⟨i,hi,rfl⟩:=List.getElem_of_mem he
 have hi':i<(redQ s p).length:=by unfold redN at hi;rw [nwL_len] at hi;exact hi
 have e1:(redN s p)[i]=nwE (redC s) i (redQ s p)[i]:=nwL_get hi'
 rw [e1]
 exact nwS_asc redC_crs (evOk_of (redI_valid (s:=s) h0) hi').asc
theorem redN_pok {s:Int} {p:Pce}:∀ e∈redN s p,∀ x∈e.stops,pOk s x.1 x.2.1=true:=by
 intro e he x hx
 obtain⟨i,hi,rfl⟩:=List.getElem_of_mem he
 have hi':i<(redQ s p).length:=by unfold redN at hi;rw [nwL_len] at hi;exact hi
 have e1:(redN s p)[i]=nwE (redC s) i (redQ s p)[i]:=nwL_get hi'
 rw [e1] at hx
 obtain⟨z,_,hm⟩:=nwS_mem hx
 obtain⟨hp,rfl⟩:=redC_mv hm
 exact hp
theorem fnL_asc {H:Nat→Stp→Int} {evs:List Ev} (h:∀ e∈evs,e.stops.Pairwise fun x y=>x.1<y.1):∀ e∈fnL H evs,e.stops.Pairwise fun x y=>x.1<y.1:=by
 intro e he
 obtain⟨i,hi,rfl⟩:=List.getElem_of_mem he
 have hi':i<evs.length:=by rw [fnL_len]at hi;exact hi
 rw [fnL_get hi']
 exact map_stH_asc (h _ (List.getElem_mem hi'))
theorem fnL_pok {s:Int} {H:Nat→Stp→Int} {evs:List Ev} (h:∀ e∈evs,∀ x∈e.stops,pOk s x.1 x.2.1=true):∀ e∈fnL H evs,∀ x∈e.stops,pOk s x.1 x.2.1=true:=by
 intro e he x hx
 obtain⟨i,hi,rfl⟩:=List.getElem_of_mem he
 have hi':i<evs.length:=by rw [fnL_len] at hi;exact hi
 rw [fnL_get hi'] at hx
 obtain⟨y,hy,rfl⟩:=List.mem_map.1 hx
 exact h _ (List.getElem_mem hi') y hy
theorem mem_three {s:Int} {p:Pce} {i:Nat} {e:Ev}:(∃ x∈lackE s p i e,x.2.2=(5:Int))↔e.three=true∧hasS s 5=false:=by
 unfold lackE lackHead
 constructor
 ·rintro ⟨x,hx,h5⟩
  rcases List.mem_append.1 hx with hx|hx
  ·rcases List.mem_append.1 hx with hx|hx
   ·split at hx
    ·rw [mem_lkIf]at hx;rw [hx.2]at h5;simp at h5
    ·cases hx
   rcases List.mem_append.1 hx with hx|hx
   ·split at hx
    ·rename_i ht
     rw [mem_lkIf]at hx;exact ⟨ht,hx.1⟩
    ·cases hx
   ·split at hx
    ·rw [mem_lkIf]at hx;rw [hx.2]at h5;simp at h5
    ·split at hx
     ·rw [mem_lkIf]at hx;rw [hx.2]at h5;simp at h5
     ·cases hx
  ·obtain ⟨y,hy,hx⟩:=List.mem_flatMap.1 hx
   unfold lackStop at hx
   split at hx
   ·rw [List.mem_singleton]at hx;rw [hx]at h5;simp at h5
   ·rcases List.mem_append.1 hx with hx|hx
    ·rw [mem_lkIf]at hx;rw [hx.2]at h5;simp at h5
    rcases List.mem_append.1 hx with hx|hx
    ·rw [mem_lkIf]at hx;rw [hx.2]at h5;simp at h5
    ·rw [mem_lkIf]at hx;rw [hx.2]at h5;simp at h5
 ·rintro ⟨ht,hh⟩
  refine ⟨((i:Int),0,5),?_,rfl⟩
  refine List.mem_append.2 (.inl (List.mem_append.2 (.inr (List.mem_append.2 (.inl ?_)))))
  rw [if_pos ht]
  exact mem_lkIf.2 ⟨hh,rfl⟩
def hasW(l:List Lck)(w:Int):Bool:=l.any fun x=>x.2.2 == w
theorem hasW_app (l m:List Lck)(w:Int):hasW (l++m) w=(hasW l w|| hasW m w):=List.any_append
theorem hasW_three {s:Int} {p:Pce} (h5:hasS s 5=false):∀ n,n≤p.evs.length→hasW (lksTo s p n) 5=thrB (p.evs.take n)
 | 0,_=>rfl
 | n+1,hn=>by
  rw [lksTo_at s p (by omega),hasW_app,hasW_three h5 n (by omega),List.take_succ_eq_append_getElem (by omega)]
  unfold thrB
  rw [List.any_append]
  congr 1
  rw [List.any_cons,List.any_nil,Bool.or_false]
  have hm:=mem_three (s:=s) (p:=p) (i:=n) (e:=p.evs[n])
  cases ht:p.evs[n].three with
  | true =>
   obtain ⟨x,hx,h⟩:=hm.2 ⟨ht,h5⟩
   unfold hasW
   rw [List.any_eq_true]
   exact ⟨x,hx,by rw [h];rfl⟩
  | false =>
   unfold hasW
   rw [List.any_eq_false]
   intro x hx h
   have:=hm.1 ⟨x,hx,by simpa using h⟩
   rw [ht] at this;cases this.1
theorem hasW_no {s:Int} {p:Pce} (h5:hasS s 5=true):∀ n,n≤p.evs.length→hasW (lksTo s p n) 5=false
 | 0,_=>rfl
 | n+1,hn=>by
  rw [lksTo_at s p (by omega),hasW_app,hasW_no h5 n (by omega),Bool.false_or]
  unfold hasW
  rw [List.any_eq_false]
  intro x hx h
  have:=(mem_three (s:=s) (p:=p) (i:=n) (e:=p.evs[n])).1 ⟨x,hx,by simpa using h⟩
  rw [h5] at this;cases this.2
theorem has_three {s:Int} {p:Pce} (hs:1≤s∧s≤4)(h0:pceE p=0):hasW (lksR s p) 5=decide (s=4∧thrB p.evs=true):=by
 rw [(lks_ok hs h0).1]
 by_cases h4:s=4
 ·rw [hasW_three (by rw [h4];rfl) _ (Nat.le_refl _),List.take_length]
  cases ht:thrB p.evs<;>simp [h4]
 ·rw [hasW_no (by unfold hasS;rw [if_neg h4];split<;>simp) _ (Nat.le_refl _)]
  simp [h4]
end
end Go.Proofs.YtockempedekkkaaGreatDoor
