/- What becomes of an event (the program's one), a function of each stop. -/
import Derived.Test.YtockempedekkkaaGreatDoorYCJq
set_option maxHeartbeats 8000000
set_option maxRecDepth 100000
set_option linter.unusedVariables false
set_option linter.unusedSimpArgs false
namespace Go.Proofs.YtockempedekkkaaGreatDoor
open Go.RowKit
theorem z48i {z:Int} (h:I64 z:=by unfold I64;omega):I64 z:=h
theorem oneA_0 (C:Cg) (ht:∀ i e,C.tie i e=e.tie) (cs:List (Int×Int×Bool)) (st:List Int) (L:List AV) (i:Nat) (e:Ev) (h0:e.stops=[]) :
  Cto truB 0 Tryz.prog 67 [.ag [.ls 3 (cs.map eCrs),.ls 1 (st.map eInt),.sc (.bool false),.sc .nilFunc,.fn 73 [.pr L],.sc .nilFunc,.sc .nilFunc],.pt 0 0 0,.sc (.bool (decide (i=0)))] [(0,.box 44 (eEv e))] 1 (.ag (eOc (evT C i e) (ocN C e.stops) (ocG C e.stops)))
   [(0,.box 44 (eEvS (nwE C i e) 1)),(1,.row 41 5 ((nwS C e.stops).map eStp)),(2,.box 136 (eOc (evT C i e) (ocN C e.stops) (ocG C e.stops)))] 3:=by
 obtain ⟨b1,v,d3,t3,t,l⟩:=e
 dsimp only at h0
 subst h0
 have e1:evT C i ⟨b1,v,d3,t3,t,[]⟩=0:=by
  unfold evT
  rw [ht]
  dsimp only
  cases t<;>rfl
 have e2:nwE C i ⟨b1,v,d3,t3,t,[]⟩=⟨b1,v,d3,t3,t,[]⟩:=by
  unfold nwE nwT
  rw [if_pos (show ([]:List Stp).length=0 from rfl),ht];rfl
 rw [e1,e2]
 refine Cto.intro truS Tryz.func67 rfl Tryz.ntmps67 (Nat.le_of_ble_eq_true rfl) rfl fun w0 F0 fp pg hB=>?_
 dsimp only [number,Nat.reduceAdd]
 repeat (first|refine WL.vl rfl (WV.nch rfl rfl) ?_|refine W.gob rfl ?_|refine WL.nil ?_|refine WL.e1 rfl ?_|refine WL.len rfl rfl zql ?_|refine W.condT rfl ?_|refine W.condF rfl ?_)
 (first|refine (?_:W _ _ _ _ _)|refine (?_:WL _ _ _ _ _ _)|skip)
 try dsimp only [St.put,Nat.reduceAdd]
 refine WL.vl rfl (fnqV_of rfl) ?_
 repeat (first|refine WL.vl rfl (WV.nch rfl rfl) ?_|refine W.gob rfl ?_|refine WL.nil ?_|refine WL.e1 rfl ?_|refine WL.len rfl rfl zql ?_|refine W.condT rfl ?_|refine W.condF rfl ?_)
 (first|refine (?_:W _ _ _ _ _)|refine (?_:WL _ _ _ _ _ _)|skip)
 try dsimp only [St.put,Nat.reduceAdd]
 refine W.tr (Tr.nilC 2 1 8 rfl rfl rfl) ?_
 refine W.tr (Tr.nilC 2 2 1 rfl rfl rfl) ?_
 refine W.tr (Tr.nilBox (k:=0) (j:=5) 41 5 rfl rfl rfl rfl) ?_
 refine W.tr (σ':=⟨[(6,.pt 2 0 0)],[(0,.box 44 [.sc (.bool b1),.sc (.int .i64 v),.sc (.bool d3),.sc (.bool t3),.sc (.bool t),.sl 1]),(1,.row 41 5 []),(2,.box 136 [.sc (.int .i64 0),.ls 8 [],.ls 1 []])],3⟩) (zqu (fun q=>bif Nat.beq q 1 then 4 else q) (by repeat (first|exact trivial|refine ⟨⟨?_,?_,?_⟩,?_⟩|rfl|exact congrArg (fun q=>some (AO.row _ _ q)) (by first|rfl|(simp;done)|(simp [eInt];done)|(simp [eLk];done)))) rfl) ?_
 exact W.ret (finM rfl rfl rfl rfl rfl)
theorem oneA_1 (C:Cg) (hm:∀ y,C.mr y=y) (hml:∀ y,C.ml y=[]) (ht:∀ i e,C.tie i e=e.tie) (hba:∀ i,C.bare i=decide (0 < i)) (hcr:∀ x y,C.mv x=some y→y.1=x.1∧y.2.2.2.2=x.2.2.2.2) (cs:List (Int×Int×Bool)) (st:List Int) (L:List AV) (i:Nat) (e:Ev) (h0:e.stops≠[]) (ha:e.stops.Pairwise fun x y=>x.1 < y.1) (h14:e.stops.length≤14) (hch:Ctr Tryz.prog 73 [.ls 5 (e.stops.map eStp),.pr L] (.ls 6 ((e.stops.map C.ch).map eKp))) :
  Cto truB 0 Tryz.prog 67 [.ag [.ls 3 (cs.map eCrs),.ls 1 (st.map eInt),.sc (.bool false),.sc .nilFunc,.fn 73 [.pr L],.sc .nilFunc,.sc .nilFunc],.pt 0 0 0,.sc (.bool (decide (i=0)))] [(0,.box 44 (eEv e))] 1 (.ag (eOc (evT C i e) (ocN C e.stops) (ocG C e.stops)))
   [(0,.box 44 (eEvS (nwE C i e) 1)),(1,.row 41 5 ((nwS C e.stops).map eStp)),(2,.box 136 (eOc (evT C i e) (ocN C e.stops) (ocG C e.stops)))] 3:=by
 have h1:C.bare i=!decide (i=0):=by rw [hba];cases i<;>simp
 have hl0:¬ e.stops.length=0:=fun h=>h0 (List.eq_nil_of_length_eq_zero h)
 have e1:evT C i e=0:=if_neg hl0
 have hnl:=nwS_len C e.stops
 have hsort:=ySort_G (nwS C e.stops) (nwS_asc hcr ha) zqo
 have hSl:(e.stops.map eStp).length=e.stops.length:=List.length_map _
 have hKl:((e.stops.map C.ch).map eKp).length=e.stops.length:=by rw [List.length_map,List.length_map]
 have hKa:∀ k (h:k < e.stops.length),((e.stops.map C.ch).map eKp)[((k:Nat):Int).toNat]?=some (eKp (C.ch e.stops[k])):=fun k h=>by rw [Int.toNat_natCast,List.getElem?_map,List.getElem?_map,List.getElem?_eq_getElem h];rfl
 have hSa:∀ k (h:k < e.stops.length),(e.stops.map eStp)[((k:Nat):Int).toNat]?=some (eStp e.stops[k]):=fun k h=>map_at h
 have e2:nwT C i e=(if (nwS C e.stops).length=0 then C.bare i else e.tie):=if_neg hl0
 have e3:eEvS (nwE C i e) 1=[.sc (.bool e.bar),.sc (.int .i64 e.val),.sc (.bool e.dot),.sc (.bool e.three),.sc (.bool (if (nwS C e.stops).length=0 then C.bare i else e.tie)),.sl 1]:=by rw [← e2];rfl
 rw [e1,e3,h1]
 have e4:eEv e=[.sc (.bool e.bar),.sc (.int .i64 e.val),.sc (.bool e.dot),.sc (.bool e.three),.sc (.bool e.tie),.ls 5 (e.stops.map eStp)]:=rfl
 rw [e4]
 obtain ⟨SS,hSS⟩:∃ z,e.stops.map eStp=z:=⟨_,rfl⟩
 obtain ⟨KK,hKK⟩:∃ z,(e.stops.map C.ch).map eKp=z:=⟨_,rfl⟩
 rw [hSS] at hSl hSa hch ⊢
 rw [hKK] at hKl hKa hch
 obtain ⟨fi,hfi⟩:∃ z,decide (i=0)=z:=⟨_,rfl⟩
 rw [hfi]
 refine Cto.intro truS Tryz.func67 rfl Tryz.ntmps67 (Nat.le_of_ble_eq_true rfl) rfl fun w0 F0 fp pg hB=>?_
 dsimp only [number,Nat.reduceAdd]
 repeat (first|refine WL.vl rfl (WV.nch rfl rfl) ?_|refine W.gob rfl ?_|refine WL.nil ?_|refine WL.bt rfl rfl rfl zqo ?_|refine WL.bf rfl rfl rfl zqo ?_|refine WL.e1 rfl ?_|refine WL.gyes rfl rfl rfl rfl ?_|refine WL.opno rfl rfl rfl rfl rfl rfl rfl ?_|refine WL.ar rfl rfl z48i ?_|refine WL.len rfl rfl zql ?_|refine WL.idx rfl rfl zqo zqm ?_|refine WL.app rfl rfl rfl zqs ?_|refine W.condT rfl ?_|refine W.condF rfl ?_)
 (first|refine (?_:W _ _ _ _ _)|refine (?_:WL _ _ _ _ _ _)|skip)
 try dsimp only [St.put,Nat.reduceAdd]
 refine WL.vl rfl (WV.callV (truH _) rfl (callF Tryz.func73 rfl rfl) rfl rfl rfl rfl rfl hch.g) ?_
 repeat (first|refine WL.vl rfl (WV.nch rfl rfl) ?_|refine W.gob rfl ?_|refine WL.nil ?_|refine WL.bt rfl rfl rfl zqo ?_|refine WL.bf rfl rfl rfl zqo ?_|refine WL.e1 rfl ?_|refine WL.gyes rfl rfl rfl rfl ?_|refine WL.opno rfl rfl rfl rfl rfl rfl rfl ?_|refine WL.ar rfl rfl z48i ?_|refine WL.len rfl rfl zql ?_|refine WL.idx rfl rfl zqo zqm ?_|refine WL.app rfl rfl rfl zqs ?_|refine W.condT rfl ?_|refine W.condF rfl ?_)
 (first|refine (?_:W _ _ _ _ _)|refine (?_:WL _ _ _ _ _ _)|skip)
 try dsimp only [St.put,Nat.reduceAdd]
 refine W.tr (Tr.nilBox (k:=0) (j:=5) 41 5 rfl rfl rfl rfl) ?_
 refine W.tr (Tr.nilBox (k:=3) (j:=1) 181 8 rfl rfl rfl rfl) ?_
 refine W.tr (Tr.nilBox (k:=3) (j:=2) 4 1 rfl rfl rfl rfl) ?_
 dsimp only [St.put,St.new,St.upd,Nat.reduceAdd]
 refine W.loop (fun k:Nat=>k≤e.stops.length) (fun k=>⟨[(1,.pt 0 0 0),(2,.sc (.bool fi)),(3,.pt 1 0 0),(6,.pt 2 0 0),(7,.pt 3 0 0),(8,.ls 5 SS),(34,.ls 6 KK),(35,.sc (.int .i64 KK.length)),(36,.sc (.int .i64 k))],[(0,.box 44 [.sc (.bool e.bar),.sc (.int .i64 e.val),.sc (.bool e.dot),.sc (.bool e.three),.sc (.bool e.tie),.sl 4]),(1,.box 88 [.ls 3 (cs.map eCrs),.ls 1 (st.map eInt),.sc (.bool false),.sc .nilFunc,.fn 73 [.pr L],.sc .nilFunc,.sc .nilFunc]),(2,.box 136 [.sc (.int .i64 0),.sc (.slice none 0 0),.sc (.slice none 0 0)]),(3,.box 136 [.sc (.int .i64 0),.sl 5,.sl 6]),(4,.row 41 5 ((nwS C (e.stops.take k)).map eStp)),(5,.row 181 8 ((ocN C (e.stops.take k)).map eNt)),(6,.row 4 1 ((ocG C (e.stops.take k)).map eBl))],7⟩) (fun k=>e.stops.length - k) 0 zqo (zqt id) fun k hk=>?_
 have l1:=nwS_len C (e.stops.take k)
 have l2:(e.stops.take k).length=k:=by rw [List.length_take];omega
 have l3:((nwS C (e.stops.take k)).map eStp).length=(nwS C (e.stops.take k)).length:=List.length_map _
 have l4:((ocN C (e.stops.take k)).map eNt).length=k:=by rw [List.length_map,ocN_len,l2]
 have l5:((ocG C (e.stops.take k)).map eBl).length=k:=by rw [List.length_map,ocG_len,l2]
 by_cases hlt:k < e.stops.length
 ·have n1:=nw_rows C hlt
  have n2:=ocN_rows C hlt
  have n3:=ocG_rows C hlt
  have hKk:=hKa k hlt
  have hSk:=hSa k hlt
  have hmk:=hm (C.ch e.stops[k]).1
  have hmm:=hml (C.ch e.stops[k]).1
  obtain ⟨R1,hR1⟩:∃ z,(nwS C (e.stops.take k)).map eStp=z:=⟨_,rfl⟩
  obtain ⟨R2,hR2⟩:∃ z,(ocN C (e.stops.take k)).map eNt=z:=⟨_,rfl⟩
  obtain ⟨R3,hR3⟩:∃ z,(ocG C (e.stops.take k)).map eBl=z:=⟨_,rfl⟩
  rw [hR1] at n1 l3 ⊢
  rw [hR2] at n2 l4 ⊢
  rw [hR3] at n3 l5 ⊢
  clear hR1 hR2 hR3
  obtain ⟨X,hX⟩:∃ z,e.stops[k]=z:=⟨_,rfl⟩
  rw [hX] at n1 n2 n3 hKk hSk hmk hmm
  rw [hmk] at n1 n2
  rw [hmm] at n2
  obtain ⟨Y,lo,hY⟩:∃ Y lo,C.ch X=(Y,lo):=⟨_,_,rfl⟩
  rw [hY] at n1 n2 n3 hKk hmk hmm
  dsimp only at n1 n2 n3
  cases lo with
  | true =>
   have n1:R1=_:=(List.append_nil R1).symm.trans n1
   repeat (first|refine WL.vl rfl (WV.nch rfl rfl) ?_|refine W.gob rfl ?_|refine WL.nil ?_|refine WL.bt rfl rfl rfl zqo ?_|refine WL.bf rfl rfl rfl zqo ?_|refine WL.e1 rfl ?_|refine WL.gyes rfl rfl rfl rfl ?_|refine WL.opno rfl rfl rfl rfl rfl rfl rfl ?_|refine WL.ar rfl rfl z48i ?_|refine WL.len rfl rfl zql ?_|refine WL.idx rfl rfl zqo zqm ?_|refine WL.app rfl rfl rfl zqs ?_|refine W.condT rfl ?_|refine W.condF rfl ?_)
   (first|refine (?_:W _ _ _ _ _)|refine (?_:WL _ _ _ _ _ _)|skip)
   try dsimp only [St.put,Nat.reduceAdd]
   refine WL.idx rfl rfl zqo hKk ?_
   repeat (first|refine WL.vl rfl (WV.nch rfl rfl) ?_|refine W.gob rfl ?_|refine WL.nil ?_|refine WL.bt rfl rfl rfl zqo ?_|refine WL.bf rfl rfl rfl zqo ?_|refine WL.e1 rfl ?_|refine WL.gyes rfl rfl rfl rfl ?_|refine WL.opno rfl rfl rfl rfl rfl rfl rfl ?_|refine WL.ar rfl rfl z48i ?_|refine WL.len rfl rfl zql ?_|refine WL.idx rfl rfl zqo zqm ?_|refine WL.app rfl rfl rfl zqs ?_|refine W.condT rfl ?_|refine W.condF rfl ?_)
   (first|refine (?_:W _ _ _ _ _)|refine (?_:WL _ _ _ _ _ _)|skip)
   try dsimp only [St.put,Nat.reduceAdd]
   refine W.of_wa zqk ?_
   refine WA.ds [false,false,false,false,false,false,false,false,false,false,false,false,false,true,true] [7] zqk zqk ⟨rfl,trivial⟩ ?_
   refine DSK.st rfl rfl ?_
   refine DSK.st rfl rfl ?_
   refine DSK.st rfl rfl ?_
   refine DSK.st rfl rfl ?_
   refine DSK.idx rfl rfl zqo hSk ?_
   refine DSK.st rfl rfl ?_
   refine DSK.st rfl rfl ?_
   refine DSK.st rfl rfl ?_
   refine DSK.st rfl rfl ?_
   refine DSK.idx rfl rfl zqo hSk ?_
   refine DSK.st rfl rfl ?_
   refine DSK.st rfl rfl ?_
   refine DSK.st rfl rfl ?_
   refine DSK.al rfl rfl rfl rfl ⟨rfl,trivial⟩ ?_
   refine DSK.sto rfl rfl rfl rfl rfl rfl rfl rfl rfl rfl rfl rfl rfl rfl ⟨rfl,trivial⟩ ?_
   refine DSK.nil ?_
   refine W.tr (Tr.nilC 8 7 1 rfl rfl rfl) ?_
   dsimp only [St.upd]
   repeat (first|refine WL.vl rfl (WV.nch rfl rfl) ?_|refine W.gob rfl ?_|refine WL.nil ?_|refine WL.bt rfl rfl rfl zqo ?_|refine WL.bf rfl rfl rfl zqo ?_|refine WL.e1 rfl ?_|refine WL.gyes rfl rfl rfl rfl ?_|refine WL.opno rfl rfl rfl rfl rfl rfl rfl ?_|refine WL.ar rfl rfl z48i ?_|refine WL.len rfl rfl zql ?_|refine WL.idx rfl rfl zqo zqm ?_|refine WL.app rfl rfl rfl zqs ?_|refine W.condT rfl ?_|refine W.condF rfl ?_)
   (first|refine (?_:W _ _ _ _ _)|refine (?_:WL _ _ _ _ _ _)|skip)
   try dsimp only [St.put,Nat.reduceAdd]
   refine ⟨k+1,by omega,by omega,?_⟩
   exact (zqu (fun q=>bif Nat.beq q 5 then 12 else bif Nat.beq q 6 then 10 else q) (by repeat (first|exact trivial|refine ⟨⟨?_,?_,?_⟩,?_⟩|rfl|exact congrArg (fun q=>some (AO.row _ _ q)) n1|exact congrArg (fun q=>some (AO.row _ _ q)) n2|exact congrArg (fun q=>some (AO.row _ _ q)) n3)) rfl)
  | false =>
   repeat (first|refine WL.vl rfl (WV.nch rfl rfl) ?_|refine W.gob rfl ?_|refine WL.nil ?_|refine WL.bt rfl rfl rfl zqo ?_|refine WL.bf rfl rfl rfl zqo ?_|refine WL.e1 rfl ?_|refine WL.gyes rfl rfl rfl rfl ?_|refine WL.opno rfl rfl rfl rfl rfl rfl rfl ?_|refine WL.ar rfl rfl z48i ?_|refine WL.len rfl rfl zql ?_|refine WL.idx rfl rfl zqo zqm ?_|refine WL.app rfl rfl rfl zqs ?_|refine W.condT rfl ?_|refine W.condF rfl ?_)
   (first|refine (?_:W _ _ _ _ _)|refine (?_:WL _ _ _ _ _ _)|skip)
   try dsimp only [St.put,Nat.reduceAdd]
   refine WL.idx rfl rfl zqo hKk ?_
   repeat (first|refine WL.vl rfl (WV.nch rfl rfl) ?_|refine W.gob rfl ?_|refine WL.nil ?_|refine WL.bt rfl rfl rfl zqo ?_|refine WL.bf rfl rfl rfl zqo ?_|refine WL.e1 rfl ?_|refine WL.gyes rfl rfl rfl rfl ?_|refine WL.opno rfl rfl rfl rfl rfl rfl rfl ?_|refine WL.ar rfl rfl z48i ?_|refine WL.len rfl rfl zql ?_|refine WL.idx rfl rfl zqo zqm ?_|refine WL.app rfl rfl rfl zqs ?_|refine W.condT rfl ?_|refine W.condF rfl ?_)
   (first|refine (?_:W _ _ _ _ _)|refine (?_:WL _ _ _ _ _ _)|skip)
   try dsimp only [St.put,Nat.reduceAdd]
   refine W.of_wa zqk ?_
   refine WA.ds [false,false,false,false,false,false,false,false,false,false,false,false,false,true,true] [7] zqk zqk ⟨rfl,trivial⟩ ?_
   refine DSK.st rfl rfl ?_
   refine DSK.st rfl rfl ?_
   refine DSK.st rfl rfl ?_
   refine DSK.st rfl rfl ?_
   refine DSK.idx rfl rfl zqo hSk ?_
   refine DSK.st rfl rfl ?_
   refine DSK.st rfl rfl ?_
   refine DSK.st rfl rfl ?_
   refine DSK.st rfl rfl ?_
   refine DSK.idx rfl rfl zqo hSk ?_
   refine DSK.st rfl rfl ?_
   refine DSK.st rfl rfl ?_
   refine DSK.st rfl rfl ?_
   refine DSK.al rfl rfl rfl rfl ⟨rfl,trivial⟩ ?_
   refine DSK.sto rfl rfl rfl rfl rfl rfl rfl rfl rfl rfl rfl rfl rfl rfl ⟨rfl,trivial⟩ ?_
   refine DSK.nil ?_
   refine W.tr (Tr.nilC 8 7 1 rfl rfl rfl) ?_
   dsimp only [St.upd]
   repeat (first|refine WL.vl rfl (WV.nch rfl rfl) ?_|refine W.gob rfl ?_|refine WL.nil ?_|refine WL.bt rfl rfl rfl zqo ?_|refine WL.bf rfl rfl rfl zqo ?_|refine WL.e1 rfl ?_|refine WL.gyes rfl rfl rfl rfl ?_|refine WL.opno rfl rfl rfl rfl rfl rfl rfl ?_|refine WL.ar rfl rfl z48i ?_|refine WL.len rfl rfl zql ?_|refine WL.idx rfl rfl zqo zqm ?_|refine WL.app rfl rfl rfl zqs ?_|refine W.condT rfl ?_|refine W.condF rfl ?_)
   (first|refine (?_:W _ _ _ _ _)|refine (?_:WL _ _ _ _ _ _)|skip)
   try dsimp only [St.put,Nat.reduceAdd]
   refine WL.vl rfl (fnqV_of rfl) ?_
   repeat (first|refine WL.vl rfl (WV.nch rfl rfl) ?_|refine W.gob rfl ?_|refine WL.nil ?_|refine WL.bt rfl rfl rfl zqo ?_|refine WL.bf rfl rfl rfl zqo ?_|refine WL.e1 rfl ?_|refine WL.gyes rfl rfl rfl rfl ?_|refine WL.opno rfl rfl rfl rfl rfl rfl rfl ?_|refine WL.ar rfl rfl z48i ?_|refine WL.len rfl rfl zql ?_|refine WL.idx rfl rfl zqo zqm ?_|refine WL.app rfl rfl rfl zqs ?_|refine W.condT rfl ?_|refine W.condF rfl ?_)
   (first|refine (?_:W _ _ _ _ _)|refine (?_:WL _ _ _ _ _ _)|skip)
   try dsimp only [St.put,Nat.reduceAdd]
   refine W.of_wa zqk ?_
   refine WA.dt [false,false,false,false,false,false,false,true,true,false,false,true] [8] [8,0] 11 zqk zqk zqk ⟨rfl,trivial⟩ ⟨rfl,rfl,trivial⟩ ?_
   refine DTK.st rfl zqk rfl ?_
   refine DTK.st rfl zqk rfl ?_
   refine DTK.vl rfl zqk (WV.nch rfl rfl) ?_
   refine DTK.st rfl zqk rfl ?_
   refine DTK.st rfl zqk rfl ?_
   refine DTK.st rfl zqk rfl ?_
   refine DTK.st rfl zqk rfl ?_
   refine DTK.bd rfl rfl rfl ⟨rfl,trivial⟩ (fun _=>⟨rfl,rfl,trivial⟩) ?_
   refine DTK.ap rfl rfl (by show R1.length+1≤1000000000;omega) ⟨rfl,trivial⟩ (fun _=>⟨rfl,rfl,trivial⟩) ?_
   refine DTK.vl rfl zqk (WV.nch rfl rfl) ?_
   refine DTK.st rfl zqk rfl ?_
   refine DTK.sto rfl rfl rfl rfl rfl rfl rfl rfl rfl rfl rfl rfl rfl rfl ⟨rfl,trivial⟩ (fun h=>by cases h) ?_
   refine DTK.nil ?_
   repeat (first|refine WL.vl rfl (WV.nch rfl rfl) ?_|refine W.gob rfl ?_|refine WL.nil ?_|refine WL.bt rfl rfl rfl zqo ?_|refine WL.bf rfl rfl rfl zqo ?_|refine WL.e1 rfl ?_|refine WL.gyes rfl rfl rfl rfl ?_|refine WL.opno rfl rfl rfl rfl rfl rfl rfl ?_|refine WL.ar rfl rfl z48i ?_|refine WL.len rfl rfl zql ?_|refine WL.idx rfl rfl zqo zqm ?_|refine WL.app rfl rfl rfl zqs ?_|refine W.condT rfl ?_|refine W.condF rfl ?_)
   (first|refine (?_:W _ _ _ _ _)|refine (?_:WL _ _ _ _ _ _)|skip)
   try dsimp only [St.put,Nat.reduceAdd]
   refine ⟨k+1,by omega,by omega,?_⟩
   exact (zqu (fun q=>bif Nat.beq q 4 then 12 else bif Nat.beq q 5 then 14 else bif Nat.beq q 6 then 10 else q) (by repeat (first|exact trivial|refine ⟨⟨?_,?_,?_⟩,?_⟩|rfl|exact congrArg (fun q=>some (AO.row _ _ q)) n1|exact congrArg (fun q=>some (AO.row _ _ q)) n2|exact congrArg (fun q=>some (AO.row _ _ q)) n3)) rfl)
 ·obtain rfl:k=e.stops.length:=by omega
  rw [List.take_length] at l3 l4 l5 ⊢
  by_cases hz:(nwS C e.stops).length=0
  ·rw [if_pos hz]
   cases fi
   all_goals
    repeat (first|refine WL.vl rfl (WV.nch rfl rfl) ?_|refine W.gob rfl ?_|refine WL.nil ?_|refine WL.bt rfl rfl rfl zqo ?_|refine WL.bf rfl rfl rfl zqo ?_|refine WL.e1 rfl ?_|refine WL.gyes rfl rfl rfl rfl ?_|refine WL.opno rfl rfl rfl rfl rfl rfl rfl ?_|refine WL.ar rfl rfl z48i ?_|refine WL.len rfl rfl zql ?_|refine WL.idx rfl rfl zqo zqm ?_|refine WL.app rfl rfl rfl zqs ?_|refine W.condT rfl ?_|refine W.condF rfl ?_)
    (first|refine (?_:W _ _ _ _ _)|refine (?_:WL _ _ _ _ _ _)|skip)
    try dsimp only [St.put,Nat.reduceAdd]
    refine WL.cto (truH _) [4] rfl rfl (callF Tryz.func94 rfl rfl) hsort rfl rfl rfl ⟨⟨rfl,rfl,rfl⟩,trivial⟩ rfl rfl rfl rfl ?_
    repeat (first|refine WL.vl rfl (WV.nch rfl rfl) ?_|refine W.gob rfl ?_|refine WL.nil ?_|refine WL.bt rfl rfl rfl zqo ?_|refine WL.bf rfl rfl rfl zqo ?_|refine WL.e1 rfl ?_|refine WL.gyes rfl rfl rfl rfl ?_|refine WL.opno rfl rfl rfl rfl rfl rfl rfl ?_|refine WL.ar rfl rfl z48i ?_|refine WL.len rfl rfl zql ?_|refine WL.idx rfl rfl zqo zqm ?_|refine WL.app rfl rfl rfl zqs ?_|refine W.condT rfl ?_|refine W.condF rfl ?_)
    (first|refine (?_:W _ _ _ _ _)|refine (?_:WL _ _ _ _ _ _)|skip)
    try dsimp only [St.put,Nat.reduceAdd]
    refine W.tr (Tr.freeze 5 rfl) ?_
    refine W.tr (Tr.freeze 6 rfl) ?_
    first
     | (refine W.tr (σ':=⟨[(6,.pt 2 0 0)],[(0,.box 44 [.sc (.bool e.bar),.sc (.int .i64 e.val),.sc (.bool e.dot),.sc (.bool e.three),.sc (.bool true),.sl 1]),(1,.row 41 5 ((nwS C e.stops).map eStp)),(2,.box 136 (eOc 0 (ocN C e.stops) (ocG C e.stops)))],3⟩) (zqu (fun q=>bif Nat.beq q 1 then 4 else q) (by repeat (first|exact trivial|refine ⟨⟨?_,?_,?_⟩,?_⟩|rfl|exact congrArg (fun q=>some (AO.row _ _ q)) (by first|rfl|(simp;done)|(simp [eInt];done)|(simp [eLk];done)))) rfl) ?_;exact W.ret (finM rfl rfl rfl rfl rfl))
     | (refine W.tr (σ':=⟨[(6,.pt 2 0 0)],[(0,.box 44 [.sc (.bool e.bar),.sc (.int .i64 e.val),.sc (.bool e.dot),.sc (.bool e.three),.sc (.bool false),.sl 1]),(1,.row 41 5 ((nwS C e.stops).map eStp)),(2,.box 136 (eOc 0 (ocN C e.stops) (ocG C e.stops)))],3⟩) (zqu (fun q=>bif Nat.beq q 1 then 4 else q) (by repeat (first|exact trivial|refine ⟨⟨?_,?_,?_⟩,?_⟩|rfl|exact congrArg (fun q=>some (AO.row _ _ q)) (by first|rfl|(simp;done)|(simp [eInt];done)|(simp [eLk];done)))) rfl) ?_;exact W.ret (finM rfl rfl rfl rfl rfl))
  ·rw [if_neg hz]
   repeat (first|refine WL.vl rfl (WV.nch rfl rfl) ?_|refine W.gob rfl ?_|refine WL.nil ?_|refine WL.bt rfl rfl rfl zqo ?_|refine WL.bf rfl rfl rfl zqo ?_|refine WL.e1 rfl ?_|refine WL.gyes rfl rfl rfl rfl ?_|refine WL.opno rfl rfl rfl rfl rfl rfl rfl ?_|refine WL.ar rfl rfl z48i ?_|refine WL.len rfl rfl zql ?_|refine WL.idx rfl rfl zqo zqm ?_|refine WL.app rfl rfl rfl zqs ?_|refine W.condT rfl ?_|refine W.condF rfl ?_)
   (first|refine (?_:W _ _ _ _ _)|refine (?_:WL _ _ _ _ _ _)|skip)
   try dsimp only [St.put,Nat.reduceAdd]
   refine WL.cto (truH _) [4] rfl rfl (callF Tryz.func94 rfl rfl) hsort rfl rfl rfl ⟨⟨rfl,rfl,rfl⟩,trivial⟩ rfl rfl rfl rfl ?_
   repeat (first|refine WL.vl rfl (WV.nch rfl rfl) ?_|refine W.gob rfl ?_|refine WL.nil ?_|refine WL.bt rfl rfl rfl zqo ?_|refine WL.bf rfl rfl rfl zqo ?_|refine WL.e1 rfl ?_|refine WL.gyes rfl rfl rfl rfl ?_|refine WL.opno rfl rfl rfl rfl rfl rfl rfl ?_|refine WL.ar rfl rfl z48i ?_|refine WL.len rfl rfl zql ?_|refine WL.idx rfl rfl zqo zqm ?_|refine WL.app rfl rfl rfl zqs ?_|refine W.condT rfl ?_|refine W.condF rfl ?_)
   (first|refine (?_:W _ _ _ _ _)|refine (?_:WL _ _ _ _ _ _)|skip)
   try dsimp only [St.put,Nat.reduceAdd]
   refine W.tr (Tr.freeze 5 rfl) ?_
   refine W.tr (Tr.freeze 6 rfl) ?_
   refine W.tr (σ':=⟨[(6,.pt 2 0 0)],[(0,.box 44 [.sc (.bool e.bar),.sc (.int .i64 e.val),.sc (.bool e.dot),.sc (.bool e.three),.sc (.bool e.tie),.sl 1]),(1,.row 41 5 ((nwS C e.stops).map eStp)),(2,.box 136 (eOc 0 (ocN C e.stops) (ocG C e.stops)))],3⟩) (zqu (fun q=>bif Nat.beq q 1 then 4 else q) (by repeat (first|exact trivial|refine ⟨⟨?_,?_,?_⟩,?_⟩|rfl|exact congrArg (fun q=>some (AO.row _ _ q)) (by first|rfl|(simp;done)|(simp [eInt];done)|(simp [eLk];done)))) rfl) ?_
   exact W.ret (finM rfl rfl rfl rfl rfl)
end Go.Proofs.YtockempedekkkaaGreatDoor
