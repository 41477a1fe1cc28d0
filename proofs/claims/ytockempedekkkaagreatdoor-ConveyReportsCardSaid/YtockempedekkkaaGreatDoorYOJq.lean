/- What becomes of an event (the program's one), Reduce. -/
import Derived.Test.YtockempedekkkaaGreatDoorYLJq
import Derived.Test.YtockempedekkkaaGreatDoorYCJq
set_option maxHeartbeats 8000000
set_option maxRecDepth 100000
set_option linter.unusedVariables false
set_option linter.unusedSimpArgs false
namespace Go.Proofs.YtockempedekkkaaGreatDoor
open Go.RowKit
theorem z49i {z:Int} (h:I64 z:=by unfold I64;omega):I64 z:=h
theorem oneB_0 (s:Int) (cs:List (Int×Int×Bool)) (st:List Int) (i:Nat) (e:Ev) (h0:e.stops=[]) :
  Cto truB 0 Tryz.prog 67 [.ag [.ls 3 (cs.map eCrs),.ls 1 (st.map eInt),.sc (.bool (!hasS s 7)),.fn 34 [.pr [.sc (.bool (hasS s 7))],.pr [.sc (.bool (hasS s 8))]],.fn 32 [.pr [.sc (.int .u8 s)]],.fn 35 [.pr [.sc (.int .u8 s)]],.fn 37 [.pr [.sc (.int .u8 s)]]],.pt 0 0 0,.sc (.bool (decide (i=0)))] [(0,.box 44 (eEv e))] 1 (.ag (eOc (evT (redC s) i e) (ocN (redC s) e.stops) (ocG (redC s) e.stops)))
   [(0,.box 44 (eEvS (nwE (redC s) i e) 1)),(1,.row 41 5 ((nwS (redC s) e.stops).map eStp)),(2,.box 136 (eOc (evT (redC s) i e) (ocN (redC s) e.stops) (ocG (redC s) e.stops)))] 3:=by
 obtain ⟨b1,v,d3,t3,t,l⟩:=e
 dsimp only at h0
 subst h0
 have h2:=red2_FS b1 v d3 t3 t (hasS s 7) (hasS s 8) (.sc (.slice none 0 0)) 0 [] (.inr rfl)
 have e1:evT (redC s) i ⟨b1,v,d3,t3,t,[]⟩=(if t=true∧hasS s 7=false then 7 else if t=false∧hasS s 8=false then 8 else 0):=by
  unfold evT redC
  dsimp only
  rw [if_pos (show ([]:List Stp).length=0 from rfl)]
  cases t<;>cases hasS s 7<;>cases hasS s 8<;>rfl
 have e2:nwE (redC s) i ⟨b1,v,d3,t3,t,[]⟩=⟨b1,v,d3,t3,(if t=true∧hasS s 7=false then false else if t=false∧hasS s 8=false then true else t),[]⟩:=rfl
 rw [e1,e2]
 obtain ⟨Z,hZ⟩:∃ z,(if t=true∧hasS s 7=false then 7 else if t=false∧hasS s 8=false then 8 else 0:Int)=z:=⟨_,rfl⟩
 obtain ⟨T,hT⟩:∃ z,(if t=true∧hasS s 7=false then false else if t=false∧hasS s 8=false then true else t)=z:=⟨_,rfl⟩
 rw [hZ,hT] at h2
 rw [hZ,hT]
 refine Cto.intro truS Tryz.func67 rfl Tryz.ntmps67 (Nat.le_of_ble_eq_true rfl) rfl fun w0 F0 fp pg hB=>?_
 dsimp only [number,Nat.reduceAdd]
 repeat (first|refine WL.vl rfl (WV.nch rfl rfl) ?_|refine W.gob rfl ?_|refine WL.nil ?_|refine WL.e1 rfl ?_|refine WL.len rfl rfl zql ?_|refine W.condT rfl ?_)
 (first|refine (?_:W _ _ _ _ _)|refine (?_:WL _ _ _ _ _ _)|skip)
 try dsimp only [St.put,Nat.reduceAdd]
 refine WL.vl rfl (fnqV_of rfl) ?_
 repeat (first|refine WL.vl rfl (WV.nch rfl rfl) ?_|refine W.gob rfl ?_|refine WL.nil ?_|refine WL.e1 rfl ?_|refine WL.len rfl rfl zql ?_|refine W.condT rfl ?_)
 (first|refine (?_:W _ _ _ _ _)|refine (?_:WL _ _ _ _ _ _)|skip)
 try dsimp only [St.put,Nat.reduceAdd]
 refine WL.cto (truH _) [0] rfl rfl (callF Tryz.func34 rfl rfl) h2 rfl rfl rfl ⟨⟨rfl,rfl,rfl⟩,trivial⟩ rfl rfl rfl rfl ?_
 repeat (first|refine WL.vl rfl (WV.nch rfl rfl) ?_|refine W.gob rfl ?_|refine WL.nil ?_|refine WL.e1 rfl ?_|refine WL.len rfl rfl zql ?_|refine W.condT rfl ?_)
 (first|refine (?_:W _ _ _ _ _)|refine (?_:WL _ _ _ _ _ _)|skip)
 try dsimp only [St.put,Nat.reduceAdd]
 refine W.tr (Tr.nilC 2 1 8 rfl rfl rfl) ?_
 refine W.tr (Tr.nilC 2 2 1 rfl rfl rfl) ?_
 refine W.tr (Tr.nilBox (k:=0) (j:=5) 41 5 rfl rfl rfl rfl) ?_
 refine W.tr (σ':=⟨[(6,.pt 2 0 0)],[(0,.box 44 [.sc (.bool b1),.sc (.int .i64 v),.sc (.bool d3),.sc (.bool t3),.sc (.bool T),.sl 1]),(1,.row 41 5 []),(2,.box 136 [.sc (.int .i64 Z),.ls 8 [],.ls 1 []])],3⟩) (zqu (fun q=>bif Nat.beq q 1 then 4 else q) (by repeat (first|exact trivial|refine ⟨⟨?_,?_,?_⟩,?_⟩|rfl|exact congrArg (fun q=>some (AO.row _ _ q)) (by first|rfl|(simp;done)|(simp [eInt];done)|(simp [eLk];done)))) rfl) ?_
 exact W.ret (finM rfl rfl rfl rfl rfl)
theorem oneB_1 (s:Int) (hs:1≤s∧s≤4) (cs:List (Int×Int×Bool)) (st:List Int) (i:Nat) (e:Ev) (h0:e.stops≠[]) (ha:e.stops.Pairwise fun x y=>x.1 < y.1) (h14:e.stops.length≤14) (hb:∀ k (h:k < e.stops.length),(1≤e.stops[k].1∧e.stops[k].1≤14)∧(0≤e.stops[k].2.1∧e.stops[k].2.1≤18)∧(0≤e.stops[k].2.2.1∧e.stops[k].2.2.1≤3)∧(0≤e.stops[k].2.2.2.1∧e.stops[k].2.2.2.1≤4)) :
  Cto truB 0 Tryz.prog 67 [.ag [.ls 3 (cs.map eCrs),.ls 1 (st.map eInt),.sc (.bool (!hasS s 7)),.fn 34 [.pr [.sc (.bool (hasS s 7))],.pr [.sc (.bool (hasS s 8))]],.fn 32 [.pr [.sc (.int .u8 s)]],.fn 35 [.pr [.sc (.int .u8 s)]],.fn 37 [.pr [.sc (.int .u8 s)]]],.pt 0 0 0,.sc (.bool (decide (i=0)))] [(0,.box 44 (eEv e))] 1 (.ag (eOc (evT (redC s) i e) (ocN (redC s) e.stops) (ocG (redC s) e.stops)))
   [(0,.box 44 (eEvS (nwE (redC s) i e) 1)),(1,.row 41 5 ((nwS (redC s) e.stops).map eStp)),(2,.box 136 (eOc (evT (redC s) i e) (ocN (redC s) e.stops) (ocG (redC s) e.stops)))] 3:=by
 have hch:=red1_FS s hs e.stops zqo fun k h=>⟨(hb k h).1,(hb k h).2.1⟩
 have h1:(redC s).bare i=(!decide (i=0) && hasS s 7):=by
  show (decide (0 < i) && hasS s 7)=_
  cases i<;>simp
 have hl0:¬ e.stops.length=0:=fun h=>h0 (List.eq_nil_of_length_eq_zero h)
 have e1:evT (redC s) i e=0:=if_neg hl0
 have hnl:=nwS_len (redC s) e.stops
 have hsort:=ySort_G (nwS (redC s) e.stops) (nwS_asc redC_crs ha) zqo
 have hSl:(e.stops.map eStp).length=e.stops.length:=List.length_map _
 have hKl:((e.stops.map (redC s).ch).map eKp).length=e.stops.length:=by rw [List.length_map,List.length_map]
 have hKa:∀ k (h:k < e.stops.length),((e.stops.map (redC s).ch).map eKp)[((k:Nat):Int).toNat]?=some (eKp ((redC s).ch e.stops[k])):=fun k h=>by rw [Int.toNat_natCast,List.getElem?_map,List.getElem?_map,List.getElem?_eq_getElem h];rfl
 have hSa:∀ k (h:k < e.stops.length),(e.stops.map eStp)[((k:Nat):Int).toNat]?=some (eStp e.stops[k]):=fun k h=>map_at h
 have e2:nwT (redC s) i e=(if (nwS (redC s) e.stops).length=0 then (redC s).bare i else e.tie):=if_neg hl0
 have e3:eEvS (nwE (redC s) i e) 1=[.sc (.bool e.bar),.sc (.int .i64 e.val),.sc (.bool e.dot),.sc (.bool e.three),.sc (.bool (if (nwS (redC s) e.stops).length=0 then (redC s).bare i else e.tie)),.sl 1]:=by rw [← e2];rfl
 rw [e1,e3,h1]
 have e4:eEv e=[.sc (.bool e.bar),.sc (.int .i64 e.val),.sc (.bool e.dot),.sc (.bool e.three),.sc (.bool e.tie),.ls 5 (e.stops.map eStp)]:=rfl
 rw [e4]
 obtain ⟨SS,hSS⟩:∃ z,e.stops.map eStp=z:=⟨_,rfl⟩
 obtain ⟨KK,hKK⟩:∃ z,(e.stops.map (redC s).ch).map eKp=z:=⟨_,rfl⟩
 rw [hSS] at hSl hSa hch ⊢
 rw [hKK] at hKl hKa hch
 obtain ⟨fi,hfi⟩:∃ z,decide (i=0)=z:=⟨_,rfl⟩
 rw [hfi]
 obtain ⟨h7,hh7⟩:∃ z,hasS s 7=z:=⟨_,rfl⟩
 rw [hh7]
 refine Cto.intro truS Tryz.func67 rfl Tryz.ntmps67 (Nat.le_of_ble_eq_true rfl) rfl fun w0 F0 fp pg hB=>?_
 dsimp only [number,Nat.reduceAdd]
 repeat (first|refine WL.vl rfl (WV.nch rfl rfl) ?_|refine W.gob rfl ?_|refine WL.nil ?_|refine WL.bt rfl rfl rfl zqo ?_|refine WL.bf rfl rfl rfl zqo ?_|refine WL.e1 rfl ?_|refine WL.gyes rfl rfl rfl rfl ?_|refine WL.opno rfl rfl rfl rfl rfl rfl rfl ?_|refine WL.ar rfl rfl z49i ?_|refine WL.len rfl rfl zql ?_|refine WL.idx rfl rfl zqo zqm ?_|refine WL.app rfl rfl rfl zqs ?_|refine W.condT rfl ?_|refine W.condF rfl ?_)
 (first|refine (?_:W _ _ _ _ _)|refine (?_:WL _ _ _ _ _ _)|skip)
 try dsimp only [St.put,Nat.reduceAdd]
 refine WL.vl rfl (WV.callV (truH _) rfl (callF Tryz.func32 rfl rfl) rfl rfl rfl rfl rfl hch.g) ?_
 repeat (first|refine WL.vl rfl (WV.nch rfl rfl) ?_|refine W.gob rfl ?_|refine WL.nil ?_|refine WL.bt rfl rfl rfl zqo ?_|refine WL.bf rfl rfl rfl zqo ?_|refine WL.e1 rfl ?_|refine WL.gyes rfl rfl rfl rfl ?_|refine WL.opno rfl rfl rfl rfl rfl rfl rfl ?_|refine WL.ar rfl rfl z49i ?_|refine WL.len rfl rfl zql ?_|refine WL.idx rfl rfl zqo zqm ?_|refine WL.app rfl rfl rfl zqs ?_|refine W.condT rfl ?_|refine W.condF rfl ?_)
 (first|refine (?_:W _ _ _ _ _)|refine (?_:WL _ _ _ _ _ _)|skip)
 try dsimp only [St.put,Nat.reduceAdd]
 refine W.tr (Tr.nilBox (k:=0) (j:=5) 41 5 rfl rfl rfl rfl) ?_
 refine W.tr (Tr.nilBox (k:=3) (j:=1) 181 8 rfl rfl rfl rfl) ?_
 refine W.tr (Tr.nilBox (k:=3) (j:=2) 4 1 rfl rfl rfl rfl) ?_
 dsimp only [St.put,St.new,St.upd,Nat.reduceAdd]
 refine W.loop (fun k:Nat=>k≤e.stops.length) (fun k=>⟨[(1,.pt 0 0 0),(2,.sc (.bool fi)),(3,.pt 1 0 0),(6,.pt 2 0 0),(7,.pt 3 0 0),(8,.ls 5 SS),(34,.ls 6 KK),(35,.sc (.int .i64 KK.length)),(36,.sc (.int .i64 k))],[(0,.box 44 [.sc (.bool e.bar),.sc (.int .i64 e.val),.sc (.bool e.dot),.sc (.bool e.three),.sc (.bool e.tie),.sl 4]),(1,.box 88 [.ls 3 (cs.map eCrs),.ls 1 (st.map eInt),.sc (.bool (!h7)),.fn 34 [.pr [.sc (.bool (h7))],.pr [.sc (.bool (hasS s 8))]],.fn 32 [.pr [.sc (.int .u8 s)]],.fn 35 [.pr [.sc (.int .u8 s)]],.fn 37 [.pr [.sc (.int .u8 s)]]]),(2,.box 136 [.sc (.int .i64 0),.sc (.slice none 0 0),.sc (.slice none 0 0)]),(3,.box 136 [.sc (.int .i64 0),.sl 5,.sl 6]),(4,.row 41 5 ((nwS (redC s) (e.stops.take k)).map eStp)),(5,.row 181 8 ((ocN (redC s) (e.stops.take k)).map eNt)),(6,.row 4 1 ((ocG (redC s) (e.stops.take k)).map eBl))],7⟩) (fun k=>e.stops.length - k) 0 zqo (zqt id) fun k hk=>?_
 have l1:=nwS_len (redC s) (e.stops.take k)
 have l2:(e.stops.take k).length=k:=by rw [List.length_take];omega
 have l3:((nwS (redC s) (e.stops.take k)).map eStp).length=(nwS (redC s) (e.stops.take k)).length:=List.length_map _
 have l4:((ocN (redC s) (e.stops.take k)).map eNt).length=k:=by rw [List.length_map,ocN_len,l2]
 have l5:((ocG (redC s) (e.stops.take k)).map eBl).length=k:=by rw [List.length_map,ocG_len,l2]
 by_cases hlt:k < e.stops.length
 ·have n1:=nw_rows (redC s) hlt
  have n2:=ocN_rows (redC s) hlt
  have n3:=ocG_rows (redC s) hlt
  have hKk:=hKa k hlt
  have hSk:=hSa k hlt
  obtain ⟨bc,bf,br,bg⟩:=hb k hlt
  have hch1:((redC s).ch e.stops[k]).1=e.stops[k]:=rfl
  have hch2:((redC s).ch e.stops[k]).2=!pOk s e.stops[k].1 e.stops[k].2.1:=rfl
  obtain ⟨R1,hR1⟩:∃ z,(nwS (redC s) (e.stops.take k)).map eStp=z:=⟨_,rfl⟩
  obtain ⟨R2,hR2⟩:∃ z,(ocN (redC s) (e.stops.take k)).map eNt=z:=⟨_,rfl⟩
  obtain ⟨R3,hR3⟩:∃ z,(ocG (redC s) (e.stops.take k)).map eBl=z:=⟨_,rfl⟩
  rw [hR1] at n1 l3 ⊢
  rw [hR2] at n2 l4 ⊢
  rw [hR3] at n3 l5 ⊢
  clear hR1 hR2 hR3
  have h3:=fun hp:pOk s e.stops[k].1 e.stops[k].2.1=true=>red3_FS s hs e.stops[k] e.stops[k].1 e.stops[k].2.2.2.2 bc bf br bg hp
  obtain ⟨X,hX⟩:∃ z,e.stops[k]=z:=⟨_,rfl⟩
  rw [hX] at n1 n2 n3 hKk hSk h3 hch1 hch2
  rw [hch1] at n1 n2
  rw [hch2] at n1 n2 n3
  have hKk:KK[((k:Nat):Int).toNat]?=some (eKp (X,!pOk s X.1 X.2.1)):=hKk
  cases hp:pOk s X.1 X.2.1 with
  | false =>
   rw [hp] at n1 n2 n3 hKk
   have n1:R1=_:=(List.append_nil R1).symm.trans n1
   repeat (first|refine WL.vl rfl (WV.nch rfl rfl) ?_|refine W.gob rfl ?_|refine WL.nil ?_|refine WL.bt rfl rfl rfl zqo ?_|refine WL.bf rfl rfl rfl zqo ?_|refine WL.e1 rfl ?_|refine WL.gyes rfl rfl rfl rfl ?_|refine WL.opno rfl rfl rfl rfl rfl rfl rfl ?_|refine WL.ar rfl rfl z49i ?_|refine WL.len rfl rfl zql ?_|refine WL.idx rfl rfl zqo zqm ?_|refine WL.app rfl rfl rfl zqs ?_|refine W.condT rfl ?_|refine W.condF rfl ?_)
   (first|refine (?_:W _ _ _ _ _)|refine (?_:WL _ _ _ _ _ _)|skip)
   try dsimp only [St.put,Nat.reduceAdd]
   refine WL.idx rfl rfl zqo hKk ?_
   repeat (first|refine WL.vl rfl (WV.nch rfl rfl) ?_|refine W.gob rfl ?_|refine WL.nil ?_|refine WL.bt rfl rfl rfl zqo ?_|refine WL.bf rfl rfl rfl zqo ?_|refine WL.e1 rfl ?_|refine WL.gyes rfl rfl rfl rfl ?_|refine WL.opno rfl rfl rfl rfl rfl rfl rfl ?_|refine WL.ar rfl rfl z49i ?_|refine WL.len rfl rfl zql ?_|refine WL.idx rfl rfl zqo zqm ?_|refine WL.app rfl rfl rfl zqs ?_|refine W.condT rfl ?_|refine W.condF rfl ?_)
   (first|refine (?_:W _ _ _ _ _)|refine (?_:WL _ _ _ _ _ _)|skip)
   try dsimp only [St.put,Nat.reduceAdd]
   refine W.of_wa zqk ?_
   refine WA.ds [false,false,false,false,false,false,false,false,false,false,false,false,false,true,true] [7] zqk zqk ⟨rfl,trivial⟩ ?_
   refine DSK.st rfl rfl ?_
   refine DSK.st rfl rfl ?_
   refine DSK.st rfl rfl ?_
   refine DSK.st rfl rfl ?_
   refine DSK.idx rfl rfl zqo hSk ?_
   refine DSK.st rfl rfl ?_
   refine DSK.st rfl rfl ?_
   refine DSK.st rfl rfl ?_
   refine DSK.st rfl rfl ?_
   refine DSK.idx rfl rfl zqo hSk ?_
   refine DSK.st rfl rfl ?_
   refine DSK.st rfl rfl ?_
   refine DSK.st rfl rfl ?_
   refine DSK.al rfl rfl rfl rfl ⟨rfl,trivial⟩ ?_
   refine DSK.sto rfl rfl rfl rfl rfl rfl rfl rfl rfl rfl rfl rfl rfl rfl ⟨rfl,trivial⟩ ?_
   refine DSK.nil ?_
   refine W.tr (Tr.nilC 8 7 1 rfl rfl rfl) ?_
   dsimp only [St.upd]
   repeat (first|refine WL.vl rfl (WV.nch rfl rfl) ?_|refine W.gob rfl ?_|refine WL.nil ?_|refine WL.bt rfl rfl rfl zqo ?_|refine WL.bf rfl rfl rfl zqo ?_|refine WL.e1 rfl ?_|refine WL.gyes rfl rfl rfl rfl ?_|refine WL.opno rfl rfl rfl rfl rfl rfl rfl ?_|refine WL.ar rfl rfl z49i ?_|refine WL.len rfl rfl zql ?_|refine WL.idx rfl rfl zqo zqm ?_|refine WL.app rfl rfl rfl zqs ?_|refine W.condT rfl ?_|refine W.condF rfl ?_)
   (first|refine (?_:W _ _ _ _ _)|refine (?_:WL _ _ _ _ _ _)|skip)
   try dsimp only [St.put,Nat.reduceAdd]
   refine ⟨k+1,by omega,by omega,?_⟩
   exact (zqu (fun q=>bif Nat.beq q 5 then 12 else bif Nat.beq q 6 then 10 else q) (by repeat (first|exact trivial|refine ⟨⟨?_,?_,?_⟩,?_⟩|rfl|exact congrArg (fun q=>some (AO.row _ _ q)) n1|exact congrArg (fun q=>some (AO.row _ _ q)) n2|exact congrArg (fun q=>some (AO.row _ _ q)) n3)) rfl)
  | true =>
   rw [hp] at n1 n2 n3 hKk
   have h3:=h3 hp
   repeat (first|refine WL.vl rfl (WV.nch rfl rfl) ?_|refine W.gob rfl ?_|refine WL.nil ?_|refine WL.bt rfl rfl rfl zqo ?_|refine WL.bf rfl rfl rfl zqo ?_|refine WL.e1 rfl ?_|refine WL.gyes rfl rfl rfl rfl ?_|refine WL.opno rfl rfl rfl rfl rfl rfl rfl ?_|refine WL.ar rfl rfl z49i ?_|refine WL.len rfl rfl zql ?_|refine WL.idx rfl rfl zqo zqm ?_|refine WL.app rfl rfl rfl zqs ?_|refine W.condT rfl ?_|refine W.condF rfl ?_)
   (first|refine (?_:W _ _ _ _ _)|refine (?_:WL _ _ _ _ _ _)|skip)
   try dsimp only [St.put,Nat.reduceAdd]
   refine WL.idx rfl rfl zqo hKk ?_
   repeat (first|refine WL.vl rfl (WV.nch rfl rfl) ?_|refine W.gob rfl ?_|refine WL.nil ?_|refine WL.bt rfl rfl rfl zqo ?_|refine WL.bf rfl rfl rfl zqo ?_|refine WL.e1 rfl ?_|refine WL.gyes rfl rfl rfl rfl ?_|refine WL.opno rfl rfl rfl rfl rfl rfl rfl ?_|refine WL.ar rfl rfl z49i ?_|refine WL.len rfl rfl zql ?_|refine WL.idx rfl rfl zqo zqm ?_|refine WL.app rfl rfl rfl zqs ?_|refine W.condT rfl ?_|refine W.condF rfl ?_)
   (first|refine (?_:W _ _ _ _ _)|refine (?_:WL _ _ _ _ _ _)|skip)
   try dsimp only [St.put,Nat.reduceAdd]
   refine W.of_wa zqk ?_
   refine WA.ds [false,false,false,false,false,false,false,false,false,false,false,false,false,true,true] [7] zqk zqk ⟨rfl,trivial⟩ ?_
   refine DSK.st rfl rfl ?_
   refine DSK.st rfl rfl ?_
   refine DSK.st rfl rfl ?_
   refine DSK.st rfl rfl ?_
   refine DSK.idx rfl rfl zqo hSk ?_
   refine DSK.st rfl rfl ?_
   refine DSK.st rfl rfl ?_
   refine DSK.st rfl rfl ?_
   refine DSK.st rfl rfl ?_
   refine DSK.idx rfl rfl zqo hSk ?_
   refine DSK.st rfl rfl ?_
   refine DSK.st rfl rfl ?_
   refine DSK.st rfl rfl ?_
   refine DSK.al rfl rfl rfl rfl ⟨rfl,trivial⟩ ?_
   refine DSK.sto rfl rfl rfl rfl rfl rfl rfl rfl rfl rfl rfl rfl rfl rfl ⟨rfl,trivial⟩ ?_
   refine DSK.nil ?_
   refine W.tr (Tr.nilC 8 7 1 rfl rfl rfl) ?_
   dsimp only [St.upd]
   repeat (first|refine WL.vl rfl (WV.nch rfl rfl) ?_|refine W.gob rfl ?_|refine WL.nil ?_|refine WL.bt rfl rfl rfl zqo ?_|refine WL.bf rfl rfl rfl zqo ?_|refine WL.e1 rfl ?_|refine WL.gyes rfl rfl rfl rfl ?_|refine WL.opno rfl rfl rfl rfl rfl rfl rfl ?_|refine WL.ar rfl rfl z49i ?_|refine WL.len rfl rfl zql ?_|refine WL.idx rfl rfl zqo zqm ?_|refine WL.app rfl rfl rfl zqs ?_|refine W.condT rfl ?_|refine W.condF rfl ?_)
   (first|refine (?_:W _ _ _ _ _)|refine (?_:WL _ _ _ _ _ _)|skip)
   try dsimp only [St.put,Nat.reduceAdd]
   refine WL.vl rfl (fnqV_of rfl) ?_
   repeat (first|refine WL.vl rfl (WV.nch rfl rfl) ?_|refine W.gob rfl ?_|refine WL.nil ?_|refine WL.bt rfl rfl rfl zqo ?_|refine WL.bf rfl rfl rfl zqo ?_|refine WL.e1 rfl ?_|refine WL.gyes rfl rfl rfl rfl ?_|refine WL.opno rfl rfl rfl rfl rfl rfl rfl ?_|refine WL.ar rfl rfl z49i ?_|refine WL.len rfl rfl zql ?_|refine WL.idx rfl rfl zqo zqm ?_|refine WL.app rfl rfl rfl zqs ?_|refine W.condT rfl ?_|refine W.condF rfl ?_)
   (first|refine (?_:W _ _ _ _ _)|refine (?_:WL _ _ _ _ _ _)|skip)
   try dsimp only [St.put,Nat.reduceAdd]
   refine WL.cto (truH _) [8] rfl rfl (callF Tryz.func35 rfl rfl) h3 rfl rfl rfl ⟨⟨rfl,rfl,rfl⟩,trivial⟩ rfl rfl rfl rfl ?_
   repeat (first|refine WL.vl rfl (WV.nch rfl rfl) ?_|refine W.gob rfl ?_|refine WL.nil ?_|refine WL.bt rfl rfl rfl zqo ?_|refine WL.bf rfl rfl rfl zqo ?_|refine WL.e1 rfl ?_|refine WL.gyes rfl rfl rfl rfl ?_|refine WL.opno rfl rfl rfl rfl rfl rfl rfl ?_|refine WL.ar rfl rfl z49i ?_|refine WL.len rfl rfl zql ?_|refine WL.idx rfl rfl zqo zqm ?_|refine WL.app rfl rfl rfl zqs ?_|refine W.condT rfl ?_|refine W.condF rfl ?_)
   (first|refine (?_:W _ _ _ _ _)|refine (?_:WL _ _ _ _ _ _)|skip)
   try dsimp only [St.put,Nat.reduceAdd]
   refine W.of_wa zqk ?_
   refine WA.dt [false,false,false,false,false,false,false,true,true,false,false,true] [8] [8,0] 11 zqk zqk zqk ⟨rfl,trivial⟩ ⟨rfl,rfl,trivial⟩ ?_
   refine DTK.st rfl zqk rfl ?_
   refine DTK.st rfl zqk rfl ?_
   refine DTK.vl rfl zqk (WV.nch rfl rfl) ?_
   refine DTK.st rfl zqk rfl ?_
   refine DTK.st rfl zqk rfl ?_
   refine DTK.st rfl zqk rfl ?_
   refine DTK.st rfl zqk rfl ?_
   refine DTK.bd rfl rfl rfl ⟨rfl,trivial⟩ (fun _=>⟨rfl,rfl,trivial⟩) ?_
   refine DTK.ap rfl rfl (by show R1.length+1≤1000000000;omega) ⟨rfl,trivial⟩ (fun _=>⟨rfl,rfl,trivial⟩) ?_
   refine DTK.vl rfl zqk (WV.nch rfl rfl) ?_
   refine DTK.st rfl zqk rfl ?_
   refine DTK.sto rfl rfl rfl rfl rfl rfl rfl rfl rfl rfl rfl rfl rfl rfl ⟨rfl,trivial⟩ (fun h=>by cases h) ?_
   refine DTK.nil ?_
   repeat (first|refine WL.vl rfl (WV.nch rfl rfl) ?_|refine W.gob rfl ?_|refine WL.nil ?_|refine WL.bt rfl rfl rfl zqo ?_|refine WL.bf rfl rfl rfl zqo ?_|refine WL.e1 rfl ?_|refine WL.gyes rfl rfl rfl rfl ?_|refine WL.opno rfl rfl rfl rfl rfl rfl rfl ?_|refine WL.ar rfl rfl z49i ?_|refine WL.len rfl rfl zql ?_|refine WL.idx rfl rfl zqo zqm ?_|refine WL.app rfl rfl rfl zqs ?_|refine W.condT rfl ?_|refine W.condF rfl ?_)
   (first|refine (?_:W _ _ _ _ _)|refine (?_:WL _ _ _ _ _ _)|skip)
   try dsimp only [St.put,Nat.reduceAdd]
   refine ⟨k+1,by omega,by omega,?_⟩
   exact (zqu (fun q=>bif Nat.beq q 4 then 12 else bif Nat.beq q 5 then 14 else bif Nat.beq q 6 then 10 else q) (by repeat (first|exact trivial|refine ⟨⟨?_,?_,?_⟩,?_⟩|rfl|exact congrArg (fun q=>some (AO.row _ _ q)) n1|exact congrArg (fun q=>some (AO.row _ _ q)) n2|exact congrArg (fun q=>some (AO.row _ _ q)) n3)) rfl)
 ·obtain rfl:k=e.stops.length:=by omega
  rw [List.take_length] at l3 l4 l5 ⊢
  by_cases hz:(nwS (redC s) e.stops).length=0
  ·rw [if_pos hz]
   cases fi
   all_goals
    repeat (first|refine WL.vl rfl (WV.nch rfl rfl) ?_|refine W.gob rfl ?_|refine WL.nil ?_|refine WL.bt rfl rfl rfl zqo ?_|refine WL.bf rfl rfl rfl zqo ?_|refine WL.e1 rfl ?_|refine WL.gyes rfl rfl rfl rfl ?_|refine WL.opno rfl rfl rfl rfl rfl rfl rfl ?_|refine WL.ar rfl rfl z49i ?_|refine WL.len rfl rfl zql ?_|refine WL.idx rfl rfl zqo zqm ?_|refine WL.app rfl rfl rfl zqs ?_|refine W.condT rfl ?_|refine W.condF rfl ?_)
    (first|refine (?_:W _ _ _ _ _)|refine (?_:WL _ _ _ _ _ _)|skip)
    try dsimp only [St.put,Nat.reduceAdd]
    refine WL.cto (truH _) [4] rfl rfl (callF Tryz.func94 rfl rfl) hsort rfl rfl rfl ⟨⟨rfl,rfl,rfl⟩,trivial⟩ rfl rfl rfl rfl ?_
    repeat (first|refine WL.vl rfl (WV.nch rfl rfl) ?_|refine W.gob rfl ?_|refine WL.nil ?_|refine WL.bt rfl rfl rfl zqo ?_|refine WL.bf rfl rfl rfl zqo ?_|refine WL.e1 rfl ?_|refine WL.gyes rfl rfl rfl rfl ?_|refine WL.opno rfl rfl rfl rfl rfl rfl rfl ?_|refine WL.ar rfl rfl z49i ?_|refine WL.len rfl rfl zql ?_|refine WL.idx rfl rfl zqo zqm ?_|refine WL.app rfl rfl rfl zqs ?_|refine W.condT rfl ?_|refine W.condF rfl ?_)
    (first|refine (?_:W _ _ _ _ _)|refine (?_:WL _ _ _ _ _ _)|skip)
    try dsimp only [St.put,Nat.reduceAdd]
    refine W.tr (Tr.freeze 5 rfl) ?_
    refine W.tr (Tr.freeze 6 rfl) ?_
    cases h7
    all_goals
     first
      | (refine W.tr (σ':=⟨[(6,.pt 2 0 0)],[(0,.box 44 [.sc (.bool e.bar),.sc (.int .i64 e.val),.sc (.bool e.dot),.sc (.bool e.three),.sc (.bool true),.sl 1]),(1,.row 41 5 ((nwS (redC s) e.stops).map eStp)),(2,.box 136 (eOc 0 (ocN (redC s) e.stops) (ocG (redC s) e.stops)))],3⟩) (zqu (fun q=>bif Nat.beq q 1 then 4 else q) (by repeat (first|exact trivial|refine ⟨⟨?_,?_,?_⟩,?_⟩|rfl|exact congrArg (fun q=>some (AO.row _ _ q)) (by first|rfl|(simp;done)|(simp [eInt];done)|(simp [eLk];done)))) rfl) ?_;exact W.ret (finM rfl rfl rfl rfl rfl))
      | (refine W.tr (σ':=⟨[(6,.pt 2 0 0)],[(0,.box 44 [.sc (.bool e.bar),.sc (.int .i64 e.val),.sc (.bool e.dot),.sc (.bool e.three),.sc (.bool false),.sl 1]),(1,.row 41 5 ((nwS (redC s) e.stops).map eStp)),(2,.box 136 (eOc 0 (ocN (redC s) e.stops) (ocG (redC s) e.stops)))],3⟩) (zqu (fun q=>bif Nat.beq q 1 then 4 else q) (by repeat (first|exact trivial|refine ⟨⟨?_,?_,?_⟩,?_⟩|rfl|exact congrArg (fun q=>some (AO.row _ _ q)) (by first|rfl|(simp;done)|(simp [eInt];done)|(simp [eLk];done)))) rfl) ?_;exact W.ret (finM rfl rfl rfl rfl rfl))
  ·rw [if_neg hz]
   repeat (first|refine WL.vl rfl (WV.nch rfl rfl) ?_|refine W.gob rfl ?_|refine WL.nil ?_|refine WL.bt rfl rfl rfl zqo ?_|refine WL.bf rfl rfl rfl zqo ?_|refine WL.e1 rfl ?_|refine WL.gyes rfl rfl rfl rfl ?_|refine WL.opno rfl rfl rfl rfl rfl rfl rfl ?_|refine WL.ar rfl rfl z49i ?_|refine WL.len rfl rfl zql ?_|refine WL.idx rfl rfl zqo zqm ?_|refine WL.app rfl rfl rfl zqs ?_|refine W.condT rfl ?_|refine W.condF rfl ?_)
   (first|refine (?_:W _ _ _ _ _)|refine (?_:WL _ _ _ _ _ _)|skip)
   try dsimp only [St.put,Nat.reduceAdd]
   refine WL.cto (truH _) [4] rfl rfl (callF Tryz.func94 rfl rfl) hsort rfl rfl rfl ⟨⟨rfl,rfl,rfl⟩,trivial⟩ rfl rfl rfl rfl ?_
   repeat (first|refine WL.vl rfl (WV.nch rfl rfl) ?_|refine W.gob rfl ?_|refine WL.nil ?_|refine WL.bt rfl rfl rfl zqo ?_|refine WL.bf rfl rfl rfl zqo ?_|refine WL.e1 rfl ?_|refine WL.gyes rfl rfl rfl rfl ?_|refine WL.opno rfl rfl rfl rfl rfl rfl rfl ?_|refine WL.ar rfl rfl z49i ?_|refine WL.len rfl rfl zql ?_|refine WL.idx rfl rfl zqo zqm ?_|refine WL.app rfl rfl rfl zqs ?_|refine W.condT rfl ?_|refine W.condF rfl ?_)
   (first|refine (?_:W _ _ _ _ _)|refine (?_:WL _ _ _ _ _ _)|skip)
   try dsimp only [St.put,Nat.reduceAdd]
   refine W.tr (Tr.freeze 5 rfl) ?_
   refine W.tr (Tr.freeze 6 rfl) ?_
   refine W.tr (σ':=⟨[(6,.pt 2 0 0)],[(0,.box 44 [.sc (.bool e.bar),.sc (.int .i64 e.val),.sc (.bool e.dot),.sc (.bool e.three),.sc (.bool e.tie),.sl 1]),(1,.row 41 5 ((nwS (redC s) e.stops).map eStp)),(2,.box 136 (eOc 0 (ocN (redC s) e.stops) (ocG (redC s) e.stops)))],3⟩) (zqu (fun q=>bif Nat.beq q 1 then 4 else q) (by repeat (first|exact trivial|refine ⟨⟨?_,?_,?_⟩,?_⟩|rfl|exact congrArg (fun q=>some (AO.row _ _ q)) (by first|rfl|(simp;done)|(simp [eInt];done)|(simp [eLk];done)))) rfl) ?_
   exact W.ret (finM rfl rfl rfl rfl rfl)
end Go.Proofs.YtockempedekkkaaGreatDoor
