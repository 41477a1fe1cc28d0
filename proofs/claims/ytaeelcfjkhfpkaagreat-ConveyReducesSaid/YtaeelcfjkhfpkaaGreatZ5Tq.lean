/- Reduce of the reference. (RWN.) -/
import Derived.Test.YtaeelcfjkhfpkaaGreatRPnTq
set_option maxHeartbeats 8000000
set_option maxRecDepth 100000
set_option linter.unusedVariables false
set_option linter.unusedSimpArgs false
namespace Go.Proofs.YtaeelcfjkhfpkaaGreat
open Go.RowKit
theorem z57i {z:Int} (h:I64 z:=by unfold I64;omega):I64 z:=h
theorem rReduce_FS (s:Int) (p:Pce) (hO:PcOk p):Ctr Tryz.prog 17 [.sc (.int .u8 s),ePce p] (.tu [ePce (redP s p),.ls 3 ((redL s p).map eLk),.sc (.int .i64 (redX s p))]):=by
 have hPe:ePce p=.ag [.ls 3 (p.cs.map eCrs),.ls 1 (p.st.map eInt),.ls 6 (p.evs.map eEv)]:=rfl
 have hbad:redX s p≠0→ePce (redP s p)=.ag [.ls 3 [],.ls 1 [],.ls 6 []]∧redL s p=[]:=fun h=>⟨by rw [show redP s p=noP from if_neg h];rfl,if_neg h⟩
 have hK:=known_FS s
 have hPl:=rPlain_FS p hO
 by_cases hs:1≤s∧s≤4
 rotate_left
 ·have e:redX s p=30:=if_pos hs
  obtain ⟨e1,e2⟩:=hbad (by rw [e];decide)
  rw [e1,e2,e]
  rw [decide_eq_false hs] at hK
  refine zqe Tryz.func17 Tryz.ntmps17 fun w0 F0=>?_;dsimp only [St.init,number,Nat.reduceAdd]
  repeat refine W.go rfl ?_
  refine (?_:WL _ _ _ _ _ _)
  refine WL.vl rfl (zqc Tryz.func58 hK) ?_
  repeat (first|refine W.go rfl ?_|refine WL.ev rfl ?_|refine W.condT rfl ?_)
  refine (?_:W _ _ _ _ _)
  refine W.tr (Tr.nilC 1 0 3 rfl rfl rfl) ?_
  refine W.tr (Tr.nilC 1 1 1 rfl rfl rfl) ?_
  refine W.tr (Tr.nilC 1 2 6 rfl rfl rfl) ?_
  refine W.tr (Tr.nilLs (t:=5) 3 rfl) ?_
  exact W.ret (finN rfl rfl rfl rfl)
 rw [decide_eq_true hs] at hK
 by_cases h0:pceE p=0
 rotate_left
 ·have e:redX s p=pceE p:=by unfold redX;rw [if_neg (fun h=>h hs),if_pos h0]
  obtain ⟨e1,e2⟩:=hbad (by rw [e];exact h0)
  rw [e1,e2,e]
  rw [show plP p=noP from if_neg h0] at hPl
  have hPl:Ctr Tryz.prog 33 [ePce p] (.tu [.ag [.ls 3 [],.ls 1 [],.ls 6 []],.sc (.int .i64 (pceE p))]):=hPl
  obtain ⟨E,hE⟩:∃ z,pceE p=z:=⟨_,rfl⟩
  rw [hE] at hPl h0 ⊢
  refine zqe Tryz.func17 Tryz.ntmps17 fun w0 F0=>?_;dsimp only [St.init,number,Nat.reduceAdd]
  repeat refine W.go rfl ?_
  refine (?_:WL _ _ _ _ _ _)
  refine WL.vl rfl (zqc Tryz.func58 hK) ?_
  repeat (first|refine W.go rfl ?_|refine WL.ev rfl ?_|refine W.condF rfl ?_)
  refine (?_:WL _ _ _ _ _ _)
  refine WL.vl rfl (zqc Tryz.func33 hPl) ?_
  repeat (first|refine W.gob rfl ?_|refine WL.nil ?_|refine WL.nt rfl rfl rfl zqo ?_|refine WL.e1 rfl ?_|refine W.condT rfl ?_)
  refine (?_:W _ _ _ _ _)
  refine W.tr (Tr.nilC 1 0 3 rfl rfl rfl) ?_
  refine W.tr (Tr.nilC 1 1 1 rfl rfl rfl) ?_
  refine W.tr (Tr.nilC 1 2 6 rfl rfl rfl) ?_
  refine W.tr (Tr.nilLs (t:=5) 3 rfl) ?_
  exact W.ret (finN rfl rfl rfl rfl)
 have hpl:ePce (plP p)=.ag [.ls 3 (p.cs.map eCrs),.ls 1 (p.st.map eInt),.ls 6 ((plE p).map eEv)]:=by rw [show plP p=⟨p.cs,p.st,plE p⟩ from if_pos h0];rfl
 rw [hpl,h0] at hPl
 have hCp:=pcCopy_FS p hO
 rw [hPe] at hCp hPl ⊢
 have hQok:=redI_ok (s:=s) hO
 have hQ0:=redI_valid (s:=s) h0
 have hBg:=bg_G (redI s p) hQok p.cs p.st hO.n1 hO.n2
 have hIe:ePce (redI s p)=.ag [.ls 3 (p.cs.map eCrs),.ls 1 (p.st.map eInt),.ls 6 ((redQ s p).map eEv)]:=rfl
 rw [hIe,show (redI s p).evs=redQ s p from rfl] at hBg
 have hb1:(redQ s p).map bgE=ptL (rdC s) (redQ s p) 0 0:=(ptL_0 _ _).symm
 have hb2:((redQ s p).map fun _=>([]:List Stp))=kpL (rdC s) (redQ s p) 0 0:=(kpL_0 _ _).symm
 rw [hb1,hb2] at hBg
 have hq4:s=4→redQ s p=plE p:=fun h=>if_pos h
 have hqn:s≠4→redQ s p=p.evs:=fun h=>if_neg h
 have hQl:(redQ s p).length≤400:=by rw [redQ_len];exact (pceE_zero h0).2.1
 have hQ20:=redQ_20 (s:=s) hO
 refine zqe Tryz.func17 Tryz.ntmps17 fun w0 F0=>?_;dsimp only [St.init,number,Nat.reduceAdd]
 repeat refine W.go rfl ?_
 refine (?_:WL _ _ _ _ _ _)
 refine WL.vl rfl (zqc Tryz.func58 hK) ?_
 repeat (first|refine W.go rfl ?_|refine WL.ev rfl ?_|refine W.condF rfl ?_)
 refine (?_:WL _ _ _ _ _ _)
 refine WL.vl rfl (zqc Tryz.func33 hPl) ?_
 repeat (first|refine W.gob rfl ?_|refine WL.nil ?_|refine WL.nf rfl rfl rfl zqo ?_|refine WL.e1 rfl ?_|refine W.condF rfl ?_)
 refine (?_:WL _ _ _ _ _ _)
 refine WL.vl rfl (zqc Tryz.func15 hCp) ?_
 repeat (first|refine W.go rfl ?_|refine WL.ev rfl ?_)
 refine (?_:W _ _ _ _ _)
 refine W.meet ⟨[(0,.sc (.int .u8 s)),(4,.pt 1 0 0),(9,.pt 3 0 0)],[(1,.box 29 [.sc (.slice none 0 0),.sc (.slice none 0 0),.sc (.slice none 0 0)]),(3,.box 29 [.ls 3 (p.cs.map eCrs),.ls 1 (p.st.map eInt),.ls 6 ((redQ s p).map eEv)])],4⟩ ?_ ?_
 ·(refine W.cond rfl (fun hif=>?_) (fun hif=>?_)<;>(try simp only [decide_eq_true_eq,decide_eq_false_iff_not,Int.not_lt,Int.not_le,Bool.not_eq_true',Bool.not_eq_false'] at hif))
  ·have h4:s=4:=by simpa using hif
   rw [hq4 h4]
   repeat refine W.go rfl ?_
   refine (?_:Tr _ _ _)
   exact (zqt id)
  ·have h4:s≠4:=by simpa using hif
   rw [hqn h4]
   repeat refine W.go rfl ?_
   refine (?_:Tr _ _ _)
   exact (zqt id)
 have hthr:∀ i (h:i < (redQ s p).length),s=4→(redQ s p)[i].three=true→redX s p=31:=fun i h h4 ht=>by
  have:thrB p.evs=true:=by
   rw [← thr_plE h0,← hq4 h4]
   exact List.any_eq_true.2 ⟨_,List.getElem_mem h,ht⟩
  unfold redX
  rw [if_neg (fun h=>h hs),if_neg (fun h=>h h0),if_pos ⟨h4,this⟩]
 have hnth:(s=4→∀ j (hj:j < (redQ s p).length),(redQ s p)[j].three=false)→redX s p=if s=3∧frsB (redC s) (redQ s p)=true then 31 else 0:=fun h=>by
  have h1:¬ (s=4∧thrB p.evs=true):=fun ⟨h4,ht⟩=>by
   rw [← thr_plE h0,← hq4 h4] at ht
   obtain ⟨e,he,h2⟩:=List.any_eq_true.1 ht
   obtain ⟨j,hj,rfl⟩:=List.getElem_of_mem he
   rw [h h4 j hj] at h2;cases h2
  have h3:(s=3∧frsB (redC s) p.evs=true)=(s=3∧frsB (redC s) (redQ s p)=true):=by
   by_cases e:s=3
   ·rw [hqn (by omega)]
   ·simp [e]
  unfold redX
  rw [if_neg (fun h=>h hs),if_neg (fun h=>h h0),if_neg h1]
  simp only [h3]
 have hEo:∀ i (h:i < (redQ s p).length),EvOk (redI s p) i (redQ s p)[i]:=fun i h=>evOk_of hQ0 h
 have hIn:∀ i (h:i < (redQ s p).length),StopsIn (redQ s p)[i]:=fun i h=>stopsIn_of hQ0 i h
 have hok1:redX s p=0→ePce (redP s p)=.ag [.ls 3 (p.cs.map eCrs),.ls 1 (p.st.map eInt),.ls 6 ((fnL (znH s (redN s p)) (redN s p)).map eEv)]∧redL s p=lsL (redC s) (znH s (redN s p)) (redQ s p) (redQ s p).length:=fun e=>⟨by rw [show redP s p=_ from if_pos e];rfl,if_pos e⟩
 unfold redN at hok1
 have hbare:=bare_G (rdC s) (!decide (s=4)) (redI s p) hQok p.cs p.st
 rw [hIe] at hbare
 unfold mvB at hbare
 have hlo:=rLoss_FS (rdC s) (rd_ls s) (rd_ml s) (znH s (nwL (rdC s) (redI s p).evs)) (redI s p) hQok (fun e he=>by
  obtain ⟨k,hk,rfl⟩:=List.getElem_of_mem he
  exact (hEo k hk).asc) p.cs p.st
 rw [hIe,show (redI s p).evs=redQ s p from rfl] at hlo
 obtain ⟨QI,hQI⟩:∃ z,redI s p=z:=⟨_,rfl⟩
 have hQIe:QI.evs=redQ s p:=by rw [← hQI];rfl
 rw [hQI] at hQok hQ0 hEo hbare
 rw [hQIe] at hbare
 obtain ⟨QS,hQS⟩:∃ z,redQ s p=z:=⟨_,rfl⟩
 simp only [hQS] at hBg hQl hQ20 hthr hnth hEo hIn hok1 hbare hQIe hlo ⊢
 clear hq4 hqn hIe hb1 hb2
 have hEv:∀ k (h:k < QS.length),(QS.map eEv)[((k:Nat):Int).toNat]?=some [.sc (.bool QS[k].bar),.sc (.int .i64 QS[k].val),.sc (.bool QS[k].dot),.sc (.bool QS[k].three),.sc (.bool QS[k].tie),.ls 5 (QS[k].stops.map eStp)]:=fun k h=>by
  rw [Int.toNat_natCast,List.getElem?_map,List.getElem?_eq_getElem h];rfl
 have hEl:(QS.map eEv).length=QS.length:=List.length_map _
 obtain ⟨QE,hQE⟩:∃ z,QS.map eEv=z:=⟨_,rfl⟩
 rw [hQE] at hBg hEv hEl hbare hlo ⊢
 have hput:=fun i k (hi:i < QS.length) (hk:k < QS[i].stops.length) hl=>put_step (rdC s) (fun _=>⟨rfl,rfl⟩) p.cs p.st QS (by omega) i k hi hk (hEo i hi).asc (hQ20 _ (List.getElem_mem hi)) hl
 unfold mvB at hput
 repeat refine W.go rfl ?_
 refine (?_:WL _ _ _ _ _ _)
 refine WL.cto (truH _) [] rfl rfl (callF Tryz.func59 rfl rfl) hBg rfl rfl rfl trivial rfl rfl rfl rfl ?_
 repeat (first|refine W.go rfl ?_|refine WL.ev rfl ?_)
 refine (?_:W _ _ _ _ _)
 refine W.loop (fun i:Nat=>i≤QS.length∧(s=4→∀ j (hj:j < QS.length),j < i→QS[j].three=false)) (fun i=>⟨[(0,.sc (.int .u8 s)),(4,.pt 1 0 0),(9,.pt 3 0 0),(10,.pt 7 0 0),(11,.sc (.int .i64 i))],[(1,.box 29 [.sc (.slice none 0 0),.sc (.slice none 0 0),.sc (.slice none 0 0)]),(3,.box 29 [.ls 3 (p.cs.map eCrs),.ls 1 (p.st.map eInt),.ls 6 QE]),(4,.rwn 45 6 ((ptL (rdC s) QS i 0).map eEvO)),(5,.rwn 43 1 ((kpL (rdC s) QS i 0).map eFr)),(7,.box 100 [.ls 3 (p.cs.map eCrs),.ls 1 (p.st.map eInt),.sl 4,.sl 5])],8⟩) (fun i=>QS.length - i) 0 ⟨by omega,fun _ j _ h=>absurd h (Nat.not_lt_zero _)⟩ (zqt id) fun i hi=>?_
 obtain ⟨hi,hth⟩:=hi
 by_cases hlt:i < QS.length
 ·have h1:=hEv i hlt
  have h2:=hput i
  have h20:=hQ20 _ (List.getElem_mem hlt)
  have hEi:=hEo i hlt
  have hIi:=hIn i hlt
  have hti:=hthr i hlt
  have hSl:(QS[i].stops.map eStp).length=QS[i].stops.length:=List.length_map _
  have hSt2:∀ k (h:k < QS[i].stops.length),(QS[i].stops.map eStp)[((k:Nat):Int).toNat]?=some [.sc (.int .i64 QS[i].stops[k].1),.sc (.int .i64 QS[i].stops[k].2.1),.sc (.int .i64 QS[i].stops[k].2.2.1),.sc (.int .i64 QS[i].stops[k].2.2.2.1),.sc (.int .i64 QS[i].stops[k].2.2.2.2)]:=fun k h=>by
   rw [Int.toNat_natCast,List.getElem?_map,List.getElem?_eq_getElem h];rfl
  obtain ⟨SE,hSE⟩:∃ z,QS[i].stops.map eStp=z:=⟨_,rfl⟩
  rw [hSE] at h1 hSl hSt2
  clear hSE
  have hth2:s=4→QS[i].three=false→∀ j (hj:j < QS.length),j < i+1→QS[j].three=false:=fun h4 ht j hj hji=>by
   by_cases e:j=i
   ·subst e;exact ht
   ·exact hth h4 j hj zqo
  clear hput hEv hEo hIn hthr
  by_cases hret:s=4∧QS[i].three=true
  ·have hX:=hti hret.1 hret.2
   obtain ⟨e1,e2⟩:=hbad (by rw [hX];decide)
   rw [e1,e2,hX]
   have hd:decide (s=4)=true:=decide_eq_true hret.1
   rw [hret.2] at h1
   repeat (first|refine W.gob rfl ?_|refine WL.nil ?_|refine WL.bt rfl rfl rfl zqo ?_|refine WL.e1 rfl ?_|refine WL.gyes rfl rfl rfl rfl ?_|refine WL.len rfl rfl rfl ?_|refine W.condT rfl ?_)
   refine (?_:WL _ _ _ _ _ _)
   refine WL.idx rfl rfl zqo h1 ?_
   repeat (first|refine W.gob rfl ?_|refine WL.nil ?_|refine WL.e1 rfl ?_|refine WL.gyes rfl rfl rfl rfl ?_|refine W.condT rfl ?_)
   refine (?_:W _ _ _ _ _)
   refine W.tr (Tr.nilC 1 0 3 rfl rfl rfl) ?_
   refine W.tr (Tr.nilC 1 1 1 rfl rfl rfl) ?_
   refine W.tr (Tr.nilC 1 2 6 rfl rfl rfl) ?_
   refine W.tr (Tr.nilLs (t:=5) 3 rfl) ?_
   exact W.ret (finN rfl rfl rfl rfl)
  have hth3:s=4→∀ j (hj:j < QS.length),j < i+1→QS[j].three=false:=fun h4=>hth2 h4 (by
   cases ht:QS[i].three with
   | false=>rfl
   | true=>exact absurd ⟨h4,ht⟩ hret)
  repeat (first|refine W.gob rfl ?_|refine WL.nil ?_|refine WL.bt rfl rfl rfl zqo ?_|refine WL.e1 rfl ?_|refine WL.len rfl rfl rfl ?_|refine W.condT rfl ?_)
  refine (?_:WL _ _ _ _ _ _)
  refine WL.meet2 ⟨[(0,.sc (.int .u8 s)),(4,.pt 1 0 0),(9,.pt 3 0 0),(10,.pt 7 0 0),(11,.sc (.int .i64 i))],[(1,.box 29 [.sc (.slice none 0 0),.sc (.slice none 0 0),.sc (.slice none 0 0)]),(3,.box 29 [.ls 3 (p.cs.map eCrs),.ls 1 (p.st.map eInt),.ls 6 QE]),(4,.rwn 45 6 ((ptL (rdC s) QS i 0).map eEvO)),(5,.rwn 43 1 ((kpL (rdC s) QS i 0).map eFr)),(7,.box 100 [.ls 3 (p.cs.map eCrs),.ls 1 (p.st.map eInt),.sl 4,.sl 5])],8⟩ ?_ ?_
  ·by_cases h4:s=4
   ·have hd:decide (s=4)=true:=decide_eq_true h4
    have ht:QS[i].three=false:=by
     cases ht:QS[i].three with
     | false=>rfl
     | true=>exact absurd ⟨h4,ht⟩ hret
    rw [ht] at h1
    rw [hd]
    repeat (first|refine WL.e1 rfl ?_|refine WL.gyes rfl rfl rfl rfl ?_)
    refine (?_:WL _ _ _ _ _ _)
    refine WL.idx rfl rfl zqo h1 ?_
    repeat (first|refine W.gob rfl ?_|refine WL.nil ?_|refine WL.e1 rfl ?_|refine WL.gyes rfl rfl rfl rfl ?_|refine W.condF rfl ?_)
    refine (?_:Tr _ _ _)
    exact (zqt id)
   ·have hd:decide (s=4)=false:=decide_eq_false h4
    rw [hd]
    repeat (first|refine W.gob rfl ?_|refine WL.nil ?_|refine WL.e1 rfl ?_|refine WL.opno rfl rfl rfl rfl rfl rfl rfl ?_|refine W.condF rfl ?_)
    refine (?_:Tr _ _ _)
    exact (zqt id)
  repeat (first|refine W.gob rfl ?_|refine WL.nil ?_|refine WL.e1 rfl ?_)
  refine (?_:W _ _ _ _ _)
  refine W.loop (fun k:Nat=>k≤QS[i].stops.length) (fun k=>⟨[(0,.sc (.int .u8 s)),(4,.pt 1 0 0),(9,.pt 3 0 0),(10,.pt 7 0 0),(11,.sc (.int .i64 i)),(12,.sc (.int .i64 k))],[(1,.box 29 [.sc (.slice none 0 0),.sc (.slice none 0 0),.sc (.slice none 0 0)]),(3,.box 29 [.ls 3 (p.cs.map eCrs),.ls 1 (p.st.map eInt),.ls 6 QE]),(4,.rwn 45 6 ((ptL (rdC s) QS i k).map eEvO)),(5,.rwn 43 1 ((kpL (rdC s) QS i k).map eFr)),(7,.box 100 [.ls 3 (p.cs.map eCrs),.ls 1 (p.st.map eInt),.sl 4,.sl 5])],8⟩) (fun k=>QS[i].stops.length - k) 0 (by omega) (zqt id) fun k hk=>?_
  by_cases hkl:k < QS[i].stops.length
  ·have g1:=hSt2 k hkl
   obtain ⟨b1,b2,b3,b4,b5⟩:=hIi k hkl
   obtain ⟨ST,hsy⟩:=rSymX_FS s hs QS[i].stops[k].1 QS[i].stops[k].2.1 b1 b2
   have hp0:=pl_lost (C:=rdC s) hlt hkl
   have hp1:=h2 k hlt hkl
   rw [show ((rdC s).ch QS[i].stops[k]).2=!pOk s QS[i].stops[k].1 QS[i].stops[k].2.1 from rfl] at hp0 hp1
   rw [show ((rdC s).ch QS[i].stops[k]).1.2.1=QS[i].stops[k].2.1 from rfl] at hp1
   cases hpo:pOk s QS[i].stops[k].1 QS[i].stops[k].2.1 with
   | false =>
    rw [hpo] at hp0 hsy
    rw [if_neg (by simp)] at hsy
    obtain ⟨q1,q2⟩:=hp0 rfl
    repeat (first|refine W.gob rfl ?_|refine WL.e1 rfl ?_)
    refine (?_:WL _ _ _ _ _ _)
    refine WL.idx rfl rfl zqo h1 ?_
    repeat (first|refine W.gob rfl ?_|refine WL.nil ?_|refine WL.bt rfl rfl rfl zqo ?_|refine WL.e1 rfl ?_|refine WL.len rfl rfl rfl ?_|refine W.condT rfl ?_)
    refine (?_:WL _ _ _ _ _ _)
    refine WL.idx rfl rfl zqo h1 ?_
    repeat refine WL.e1 rfl ?_
    refine (?_:WL _ _ _ _ _ _)
    refine WL.idx rfl rfl zqo g1 ?_
    repeat (first|refine W.gob rfl ?_|refine WL.nil ?_|refine WL.e1 rfl ?_)
    refine (?_:WL _ _ _ _ _ _)
    refine WL.vl rfl (zqc Tryz.func60 hsy) ?_
    repeat (first|refine W.gob rfl ?_|refine WL.nil ?_|refine WL.bf rfl rfl rfl zqo ?_|refine WL.e1 rfl ?_|refine WL.ar rfl rfl z57i ?_|refine W.condF rfl ?_)
    refine ⟨k+1,by omega,by omega,?_⟩
    rw [q1,q2]
    exact (zqt id)
   | true =>
    rw [hpo] at hp1 hsy
    rw [if_pos rfl] at hsy
    have hp1:=hp1 rfl
    repeat (first|refine W.gob rfl ?_|refine WL.e1 rfl ?_)
    refine (?_:WL _ _ _ _ _ _)
    refine WL.idx rfl rfl zqo h1 ?_
    repeat (first|refine W.gob rfl ?_|refine WL.nil ?_|refine WL.bt rfl rfl rfl zqo ?_|refine WL.e1 rfl ?_|refine WL.len rfl rfl rfl ?_|refine W.condT rfl ?_)
    refine (?_:WL _ _ _ _ _ _)
    refine WL.idx rfl rfl zqo h1 ?_
    repeat refine WL.e1 rfl ?_
    refine (?_:WL _ _ _ _ _ _)
    refine WL.idx rfl rfl zqo g1 ?_
    repeat (first|refine W.gob rfl ?_|refine WL.nil ?_|refine WL.e1 rfl ?_)
    refine (?_:WL _ _ _ _ _ _)
    refine WL.vl rfl (zqc Tryz.func60 hsy) ?_
    repeat (first|refine W.gob rfl ?_|refine WL.nil ?_|refine WL.bt rfl rfl rfl zqo ?_|refine WL.e1 rfl ?_|refine W.condT rfl ?_)
    refine (?_:WL _ _ _ _ _ _)
    refine WL.cto (truH _) [7,4,5] rfl rfl (callF Tryz.func61 rfl rfl) hp1 rfl rfl rfl ⟨⟨rfl,rfl,rfl⟩,⟨rfl,rfl,rfl⟩,⟨rfl,rfl,rfl⟩,trivial⟩ rfl rfl rfl rfl ?_
    repeat (first|refine W.gob rfl ?_|refine WL.nil ?_|refine WL.e1 rfl ?_|refine WL.ar rfl rfl z57i ?_)
    exact ⟨k+1,by omega,by omega,(zqt id)⟩
  ·obtain rfl:k=QS[i].stops.length:=by omega
   rw [ptL_next hlt rfl,kpL_next hlt rfl]
   repeat (first|refine W.gob rfl ?_|refine WL.e1 rfl ?_)
   refine (?_:WL _ _ _ _ _ _)
   refine WL.idx rfl rfl zqo h1 ?_
   repeat (first|refine W.gob rfl ?_|refine WL.nil ?_|refine WL.bf rfl rfl rfl zqo ?_|refine WL.e1 rfl ?_|refine WL.ar rfl rfl z57i ?_|refine WL.len rfl rfl rfl ?_|refine W.condF rfl ?_)
   exact ⟨i+1,⟨by omega,hth3⟩,by omega,(zqt id)⟩
 ·obtain rfl:i=QS.length:=by omega
  have hX:=hnth (fun h4 j hj=>hth h4 j hj hj)
  rw [ptL_all,kpL_all]
  have hba:=hbare ((kpA (rdC s) QS).map eFr)
  have hKl:((kpA (rdC s) QS).map eFr).length=QS.length:=by rw [List.length_map];exact List.length_map _
  have hb0:baA (rdC s) (!decide (s=4)) QS=mkL (rdC s) (!decide (s=4)) QS 0:=(mkL_0 _ _ _).symm
  rw [hb0] at hba
  have hz2:=eFr_rows (kpA (rdC s) QS)
  have hs2:=List.all_eq_true.2 fun r hr=>List.all_eq_true.2 (eFr_shal (kpA (rdC s) QS) r hr)
  obtain ⟨FR,hFR⟩:∃ z,(kpA (rdC s) QS).map eFr=z:=⟨_,rfl⟩
  rw [hFR] at hba hz2 hs2 ⊢
  clear hbare hput hthr hnth hth
  repeat (first|refine W.gob rfl ?_|refine WL.nil ?_|refine WL.bf rfl rfl rfl zqo ?_|refine WL.e1 rfl ?_|refine WL.len rfl rfl rfl ?_|refine W.condF rfl ?_)
  refine (?_:WL _ _ _ _ _ _)
  refine WL.cto (truH _) [7,4,5] rfl rfl (callF Tryz.func62 rfl rfl) hba rfl rfl rfl ⟨⟨rfl,rfl,rfl⟩,⟨rfl,rfl,rfl⟩,⟨rfl,rfl,rfl⟩,trivial⟩ rfl rfl rfl rfl ?_
  repeat (first|refine W.gob rfl ?_|refine WL.nil ?_|refine WL.e1 rfl ?_)
  refine (?_:W _ _ _ _ _)
  have hX2:=fun _:Unit=>hX
  have hok2:=fun _:Unit=>hok1
  have hbad2:=fun _:Unit=>hbad
  clear hX hok1 hbad
  have hmk:∀ n,((mkL (rdC s) (!decide (s=4)) QS n).map eEvO).length=QS.length:=fun n=>by rw [List.length_map,mkL_len]
  refine W.loop (fun i:Nat=>i≤QS.length) (fun i=>⟨[(0,.sc (.int .u8 s)),(4,.pt 1 0 0),(9,.pt 3 0 0),(10,.pt 7 0 0),(17,.sc (.int .i64 i))],[(1,.box 29 [.sc (.slice none 0 0),.sc (.slice none 0 0),.sc (.slice none 0 0)]),(3,.box 29 [.ls 3 (p.cs.map eCrs),.ls 1 (p.st.map eInt),.ls 6 QE]),(4,.rwn 45 6 ((mkL (rdC s) (!decide (s=4)) QS i).map eEvO)),(5,.rwn 43 1 FR),(7,.box 100 [.ls 3 (p.cs.map eCrs),.ls 1 (p.st.map eInt),.sl 4,.sl 5])],8⟩) (fun i=>QS.length - i) 0 (by omega) (zqt id) fun i hi=>?_
  have hRl:=hmk i
  by_cases hlt:i < QS.length
  ·have h1:=hEv i hlt
   have hat:((mkL (rdC s) (!decide (s=4)) QS i).map eEvO)[i]?=some (eEvO (baE (rdC s) (!decide (s=4)) i QS[i])):=by
    rw [List.getElem?_map,List.getElem?_eq_getElem (by rw [mkL_len];exact hlt),mkL_get hlt,if_neg (Nat.lt_irrefl _)];rfl
   have hset:∀ K:List Stp,K=nwS (rdC s) QS[i].stops→((mkL (rdC s) (!decide (s=4)) QS i).map eEvO).set i (eEvO { QS[i] with stops:=K,tie:=nwT (rdC s) i QS[i] })=(mkL (rdC s) (!decide (s=4)) QS (i+1)).map eEvO:=fun K hK=>by
    rw [← mkL_set hlt,List.map_set,hK];rfl
   have hnt:=nwT_ba (C:=rdC s) (ties:=!decide (s=4)) (rd_bare s hs) i QS[i]
   have hbt:QS[i].stops.length≠0→nwT (rdC s) i QS[i]=(baE (rdC s) (!decide (s=4)) i QS[i]).tie:=fun h=>by rw [hnt,if_neg h]
   have hst0:QS[i].stops.length=0→nwT (rdC s) i QS[i]=rdT s i QS[i]:=fun h=>by rw [hnt,if_pos h];rfl
   have hnw:(pcS (rdC s) QS[i].stops).map (rdC s).mr=nwS (rdC s) QS[i].stops:=(nwS_pl _ _).symm
   have hPl:(pcS (rdC s) QS[i].stops).length≤20:=by
    have:=pcS_len (rdC s) QS[i].stops
    have:=hQ20 _ (List.getElem_mem hlt)
    omega
   have hbd:∀ X∈pcS (rdC s) QS[i].stops,pOk s X.1 X.2.1=true∧(1≤X.1∧X.1≤14)∧(0≤X.2.1∧X.2.1≤18)∧(0≤X.2.2.1∧X.2.2.1≤3)∧(0≤X.2.2.2.1∧X.2.2.2.1≤4)∧(0≤X.2.2.2.2∧X.2.2.2.2≤15):=fun X hm=>by
    rw [pcS_fr] at hm
    obtain ⟨z,hz,rfl⟩:=List.mem_map.1 hm
    obtain ⟨hz1,hz2⟩:=List.mem_filter.1 hz
    obtain ⟨j,hj,rfl⟩:=List.getElem_of_mem hz1
    have hz2:(!(!pOk s QS[i].stops[j].1 QS[i].stops[j].2.1))=true:=hz2
    rw [Bool.not_not] at hz2
    exact ⟨hz2,hIn i hlt j hj⟩
   have hSl:(QS[i].stops.map eStp).length=QS[i].stops.length:=List.length_map _
   have hbe:eEvO (baE (rdC s) (!decide (s=4)) i QS[i])=[.sc (.bool QS[i].bar),.sc (.int .i64 QS[i].val),.sc (.bool QS[i].dot),.sc (.bool QS[i].three),.sc (.bool (baE (rdC s) (!decide (s=4)) i QS[i]).tie),.ow 48 5 ((pcS (rdC s) QS[i].stops).map eStp)]:=rfl
   have hset2:∀ K:List Stp,eEvO { QS[i] with stops:=K,tie:=nwT (rdC s) i QS[i] }=[.sc (.bool QS[i].bar),.sc (.int .i64 QS[i].val),.sc (.bool QS[i].dot),.sc (.bool QS[i].three),.sc (.bool (nwT (rdC s) i QS[i])),.ow 48 5 (K.map eStp)]:=fun _=>rfl
   simp only [hset2] at hset
   rw [hbe] at hat
   obtain ⟨R,hR⟩:∃ z,(mkL (rdC s) (!decide (s=4)) QS i).map eEvO=z:=⟨_,rfl⟩
   rw [hR] at hat hset hRl ⊢
   obtain ⟨bt,hbtE⟩:∃ z,(baE (rdC s) (!decide (s=4)) i QS[i]).tie=z:=⟨_,rfl⟩
   rw [hbtE] at hat hbt
   obtain ⟨nt,hntE⟩:∃ z,nwT (rdC s) i QS[i]=z:=⟨_,rfl⟩
   rw [hntE] at hset hbt hst0
   obtain ⟨PS,hPS⟩:∃ z,pcS (rdC s) QS[i].stops=z:=⟨_,rfl⟩
   rw [hPS] at hat hnw hPl hbd
   have hset:=fun K hK=>hset K (hnw ▸ hK)
   obtain ⟨SE,hSE⟩:∃ z,QS[i].stops.map eStp=z:=⟨_,rfl⟩
   rw [hSE] at h1 hSl
   clear hR hnt hbe hset2 hbtE hntE hPS hSE hnw hmk hba hz2 hs2 hQ0 hEo hIn
   repeat (first|refine W.gob rfl ?_|refine WL.nil ?_|refine WL.bt rfl rfl rfl zqo ?_|refine WL.e1 rfl ?_|refine WL.len rfl rfl rfl ?_|refine W.condT rfl ?_)
   refine (?_:WL _ _ _ _ _ _)
   refine WL.meet2 ⟨[(0,.sc (.int .u8 s)),(4,.pt 1 0 0),(9,.pt 3 0 0),(10,.pt 7 0 0),(17,.sc (.int .i64 i))],[(1,.box 29 [.sc (.slice none 0 0),.sc (.slice none 0 0),.sc (.slice none 0 0)]),(3,.box 29 [.ls 3 (p.cs.map eCrs),.ls 1 (p.st.map eInt),.ls 6 QE]),(4,.rwn 45 6 (R.set i [.sc (.bool QS[i].bar),.sc (.int .i64 QS[i].val),.sc (.bool QS[i].dot),.sc (.bool QS[i].three),.sc (.bool nt),.ow 48 5 (PS.map eStp)])),(5,.rwn 43 1 FR),(7,.box 100 [.ls 3 (p.cs.map eCrs),.ls 1 (p.st.map eInt),.sl 4,.sl 5])],8⟩ ?_ ?_
   ·by_cases hS0:QS[i].stops.length=0
    ·have hn0:=hst0 hS0
     have hv:∀ v:Bool,v=nt→R.set i (putL 4 [.sc (.bool v)] [.sc (.bool QS[i].bar),.sc (.int .i64 QS[i].val),.sc (.bool QS[i].dot),.sc (.bool QS[i].three),.sc (.bool bt),.ow 48 5 (PS.map eStp)])=R.set i [.sc (.bool QS[i].bar),.sc (.int .i64 QS[i].val),.sc (.bool QS[i].dot),.sc (.bool QS[i].three),.sc (.bool nt),.ow 48 5 (PS.map eStp)]:=by
      rintro v rfl;rfl
     unfold rdT at hn0
     obtain ⟨ti,hti⟩:∃ z,QS[i].tie=z:=⟨_,rfl⟩
     rw [hti] at h1 hn0
     have hix:0≤(i:Int)∧(i:Int) < R.length:=by omega
     refine WL.idx rfl rfl zqo h1 ?_
     repeat (first|refine WL.nil ?_|refine WL.bt rfl rfl rfl zqo ?_|refine WL.e1 rfl ?_|refine WL.len rfl rfl rfl ?_|refine W.condT rfl ?_)
     refine (?_:W _ _ _ _ _)
     rcases sys_cases hs with rfl|rfl|rfl|rfl
     all_goals
      cases ti
      all_goals
       refine W.dkT 24 zqk zqk zqk zqk ?_
       repeat (first|refine DK.st rfl ?_|refine DK.idx rfl rfl zqo h1 ?_|refine DK.ixs rfl rfl hix ?_|refine DK.nil ?_)
       refine ⟨rfl,?_⟩
       refine WL.stW rfl rfl rfl rfl hat (by show 4+1≤6;omega) rfl ?_
       repeat refine WL.nil ?_
       refine (?_:Tr _ _ _)
       exact (zqu (fun q=>q) (by repeat (first|exact trivial|refine ⟨⟨?_,?_,?_⟩,?_⟩|rfl|exact congrArg (fun q=>some (AO.row _ _ q)) (hv _ (by rw [hn0];first|rfl|(simp;done)))|exact congrArg (fun q=>some (AO.rwn _ _ q)) (hv _ (by rw [hn0];first|rfl|(simp;done))))) rfl)
    ·have hbt2:=hbt hS0
     have hsame:R=R.set i [.sc (.bool QS[i].bar),.sc (.int .i64 QS[i].val),.sc (.bool QS[i].dot),.sc (.bool QS[i].three),.sc (.bool nt),.ow 48 5 (PS.map eStp)]:=by
      rw [hbt2]
      obtain ⟨hl,e⟩:=List.getElem?_eq_some_iff.1 hat
      rw [← e,List.set_getElem_self]
     refine WL.idx rfl rfl zqo h1 ?_
     repeat (first|refine W.gob rfl ?_|refine WL.nil ?_|refine WL.bf rfl rfl rfl zqo ?_|refine WL.e1 rfl ?_|refine WL.len rfl rfl rfl ?_|refine W.condF rfl ?_)
     refine (?_:Tr _ _ _)
     exact (zqu (fun q=>q) (by repeat (first|exact trivial|refine ⟨⟨?_,?_,?_⟩,?_⟩|rfl|exact congrArg (fun q=>some (AO.row _ _ q)) hsame|exact congrArg (fun q=>some (AO.rwn _ _ q)) hsame)) rfl)
   have hat2:(R.set i [.sc (.bool QS[i].bar),.sc (.int .i64 QS[i].val),.sc (.bool QS[i].dot),.sc (.bool QS[i].three),.sc (.bool nt),.ow 48 5 (PS.map eStp)])[i]?=some [.sc (.bool QS[i].bar),.sc (.int .i64 QS[i].val),.sc (.bool QS[i].dot),.sc (.bool QS[i].three),.sc (.bool nt),.ow 48 5 (PS.map eStp)]:=List.getElem?_set_self (by rw [hRl];exact hlt)
   have hset3:∀ K,K=PS.map (rdC s).mr→(R.set i [.sc (.bool QS[i].bar),.sc (.int .i64 QS[i].val),.sc (.bool QS[i].dot),.sc (.bool QS[i].three),.sc (.bool nt),.ow 48 5 (PS.map eStp)]).set i ([.sc (.bool QS[i].bar),.sc (.int .i64 QS[i].val),.sc (.bool QS[i].dot),.sc (.bool QS[i].three),.sc (.bool nt),.ow 48 5 (PS.map eStp)].set 5 (.ow 48 5 (K.map eStp)))=(mkL (rdC s) (!decide (s=4)) QS (i+1)).map eEvO:=fun K hK=>by
    rw [List.set_set,← hset K hK];rfl
   have hRl2:(R.set i [.sc (.bool QS[i].bar),.sc (.int .i64 QS[i].val),.sc (.bool QS[i].dot),.sc (.bool QS[i].three),.sc (.bool nt),.ow 48 5 (PS.map eStp)]).length=QS.length:=by rw [List.length_set];exact hRl
   obtain ⟨R2,hR2⟩:∃ z,R.set i [.sc (.bool QS[i].bar),.sc (.int .i64 QS[i].val),.sc (.bool QS[i].dot),.sc (.bool QS[i].three),.sc (.bool nt),.ow 48 5 (PS.map eStp)]=z:=⟨_,rfl⟩
   rw [hR2] at hat2 hRl2 ⊢
   simp only [hR2] at hset3
   clear hR2 hset hat hst0 hbt hRl
   refine W.tr (Tr.open_ 4 i 5 rfl hat2 rfl (eStp_own PS) rfl) ?_
   dsimp only [St.upd,St.new,Nat.reduceAdd]
   repeat (first|refine W.gob rfl ?_|refine WL.nil ?_|refine WL.e1 rfl ?_)
   refine (?_:W _ _ _ _ _)
   refine W.loop (fun k:Nat=>k≤PS.length) (fun k=>⟨[(0,.sc (.int .u8 s)),(4,.pt 1 0 0),(9,.pt 3 0 0),(10,.pt 7 0 0),(17,.sc (.int .i64 i)),(18,.sc (.int .i64 k))],[(1,.box 29 [.sc (.slice none 0 0),.sc (.slice none 0 0),.sc (.slice none 0 0)]),(3,.box 29 [.ls 3 (p.cs.map eCrs),.ls 1 (p.st.map eInt),.ls 6 QE]),(4,.rwo 45 6 R2 i 5 (.sl 8)),(5,.rwn 43 1 FR),(7,.box 100 [.ls 3 (p.cs.map eCrs),.ls 1 (p.st.map eInt),.sl 4,.sl 5]),(8,.row 48 5 ((mrK (rdC s) k PS).map eStp))],9⟩) (fun k=>PS.length - k) 0 (by omega) (zqu (fun q=>q) (by repeat (first|exact trivial|refine ⟨⟨?_,?_,?_⟩,?_⟩|rfl|exact congrArg (fun q=>some (AO.row _ _ q)) (by rw [mrK_0])|exact congrArg (fun q=>some (AO.rwn _ _ q)) (by rw [mrK_0]))) rfl) fun k hk=>?_
   have hKl:((mrK (rdC s) k PS).map eStp).length=PS.length:=by rw [List.length_map,mrK_len]
   by_cases hkl:k < PS.length
   ·have hKg:((mrK (rdC s) k PS).map eStp)[k]?=some [.sc (.int .i64 PS[k].1),.sc (.int .i64 PS[k].2.1),.sc (.int .i64 PS[k].2.2.1),.sc (.int .i64 PS[k].2.2.2.1),.sc (.int .i64 PS[k].2.2.2.2)]:=by rw [List.getElem?_map,mrK_get hkl];rfl
    have hKp:=congrArg (List.map eStp) (mrK_put (C:=rdC s) hkl)
    rw [List.map_set] at hKp
    obtain ⟨hpo,c1,c2,c3,c4,c5⟩:=hbd _ (List.getElem_mem hkl)
    have hwf:=wants_FS s PS[k].1 PS[k].2.1 PS[k].2.2.1 PS[k].2.2.2.1 PS[k].2.2.2.2 PS[k].2.2.2.2 hs c1 c2 c3 c4 ⟨c5.1,by omega⟩
    have hwe:wants s PS[k].1 PS[k].2.1 PS[k].2.2.1 PS[k].2.2.2.1 PS[k].2.2.2.2 PS[k].2.2.2.2=wnt s PS[k].2.2.1 PS[k].2.2.2.1 PS[k].2.2.2.2 PS[k].2.2.2.2:=if_neg (by
     have l1:=(sym_law s _ _ hs c1 c2).1
     rw [hpo] at l1
     intro h
     rw [h] at l1;cases l1)
    rw [hwe] at hwf
    have hall:=mkF_all s PS[k] PS[k].2.2.2.2
    have hwl:=wnt_len s PS[k].2.2.1 PS[k].2.2.2.1 PS[k].2.2.2.2 PS[k].2.2.2.2
    obtain ⟨w,hw⟩:∃ z,wnt s PS[k].2.2.1 PS[k].2.2.2.1 PS[k].2.2.2.2 PS[k].2.2.2.2=z:=⟨_,rfl⟩
    rw [hw] at hwf hall hwl
    rw [show (rdC s).mr PS[k]=(redC s).mr PS[k] from rfl,← hall] at hKp
    obtain ⟨X,hX⟩:∃ z,PS[k]=z:=⟨_,rfl⟩
    rw [hX] at hKg hwf hKp c1 c2 c3 c4 c5
    obtain ⟨K,hK⟩:∃ z,(mrK (rdC s) k PS).map eStp=z:=⟨_,rfl⟩
    rw [hK] at hKl hKg hKp ⊢
    clear hK hX hw hwe hall hpo
    have hXe:eStp X=[.sc (.int .i64 X.1),.sc (.int .i64 X.2.1),.sc (.int .i64 X.2.2.1),.sc (.int .i64 X.2.2.2.1),.sc (.int .i64 X.2.2.2.2)]:=rfl
    have hK0:K=K.set k (eStp (mkF X w 0)):=by
     rw [mkF_0,hXe]
     obtain ⟨hl,e⟩:=List.getElem?_eq_some_iff.1 hKg
     rw [← e,List.set_getElem_self]
    have hwl2:(w.map eInt).length=w.length:=List.length_map _
    have hwg:∀ j (h:j < w.length),(w.map eInt)[((j:Nat):Int).toNat]?=some [.sc (.int .i64 w[j])]:=fun j h=>by
     rw [Int.toNat_natCast,List.getElem?_map,List.getElem?_eq_getElem h];rfl
    obtain ⟨WE,hWE⟩:∃ z,w.map eInt=z:=⟨_,rfl⟩
    rw [hWE] at hwf hwl2 hwg
    have hkK:k < K.length:=by omega
    repeat (first|refine W.gob rfl ?_|refine WL.e1 rfl ?_|refine WL.ixs rfl rfl zqs ?_)
    refine (?_:WL _ _ _ _ _ _)
    refine WL.ldQ rfl rfl rfl rfl hat2 (by show 5 < 6;omega) ?_
    repeat (first|refine W.gob rfl ?_|refine WL.nil ?_|refine WL.bt rfl rfl rfl zqo ?_|refine WL.e1 rfl ?_|refine WL.len rfl rfl rfl ?_|refine WL.ixs rfl rfl zqs ?_|refine W.condT rfl ?_)
    refine (?_:WL _ _ _ _ _ _)
    refine WL.ldQ rfl rfl rfl rfl hat2 (by show 5 < 6;omega) ?_
    repeat (first|refine W.gob rfl ?_|refine WL.nil ?_|refine WL.e1 rfl ?_|refine WL.ixs rfl rfl zqs ?_)
    refine (?_:W _ _ _ _ _)
    refine W.drawK zqk zqk ?_
    repeat (first|refine DK.vl rfl (WV.nch rfl rfl) ?_|refine DK.st rfl ?_)
    refine DK.lda rfl rfl hKg rfl ?_
    repeat (first|refine DK.vl rfl (WV.nch rfl rfl) ?_|refine DK.st rfl ?_)
    refine DK.ldr rfl rfl hKg rfl rfl ?_
    refine DK.vl rfl (zqc Tryz.func63 hwf) ?_
    repeat (first|refine DK.st rfl ?_|refine DK.nil ?_)
    repeat (first|refine W.gob rfl ?_|refine WL.nil ?_|refine WL.e1 rfl ?_)
    refine (?_:W _ _ _ _ _)
    refine W.loop (fun j:Nat=>j≤w.length) (fun j=>⟨[(0,.sc (.int .u8 s)),(4,.pt 1 0 0),(9,.pt 3 0 0),(10,.pt 7 0 0),(17,.sc (.int .i64 i)),(18,.sc (.int .i64 k)),(19,.pt 8 k 0),(20,.ls 1 WE),(21,.sc (.int .i64 j))],[(1,.box 29 [.sc (.slice none 0 0),.sc (.slice none 0 0),.sc (.slice none 0 0)]),(3,.box 29 [.ls 3 (p.cs.map eCrs),.ls 1 (p.st.map eInt),.ls 6 QE]),(4,.rwo 45 6 R2 i 5 (.sl 8)),(5,.rwn 43 1 FR),(7,.box 100 [.ls 3 (p.cs.map eCrs),.ls 1 (p.st.map eInt),.sl 4,.sl 5]),(8,.row 48 5 (K.set k (eStp (mkF X w j))))],9⟩) (fun j=>w.length - j) 0 (by omega) (zqu (fun q=>q) (by repeat (first|exact trivial|refine ⟨⟨?_,?_,?_⟩,?_⟩|rfl|exact congrArg (fun q=>some (AO.row _ _ q)) hK0|exact congrArg (fun q=>some (AO.rwn _ _ q)) hK0)) rfl) fun j hj=>?_
    by_cases hjl:j < w.length
    ·have hw1:=hwg j hjl
     have hnx:=mkF_at (x:=X) hjl
     obtain ⟨a,ha⟩:∃ z,w[j]=z:=⟨_,rfl⟩
     rw [ha] at hw1 hnx
     obtain ⟨Z,hZ⟩:∃ z,mkF X w j=z:=⟨_,rfl⟩
     rw [hZ] at hnx ⊢
     have hrow:(K.set k (eStp Z))[k]?=some [.sc (.int .i64 Z.1),.sc (.int .i64 Z.2.1),.sc (.int .i64 Z.2.2.1),.sc (.int .i64 Z.2.2.2.1),.sc (.int .i64 Z.2.2.2.2)]:=List.getElem?_set_self hkK
     by_cases h2:a=2
     ·have hfin:(K.set k (eStp Z)).set k (putL 2 [.sc (.int .i64 0)] [.sc (.int .i64 Z.1),.sc (.int .i64 Z.2.1),.sc (.int .i64 Z.2.2.1),.sc (.int .i64 Z.2.2.2.1),.sc (.int .i64 Z.2.2.2.2)])=K.set k (eStp (mkF X w (j+1))):=by
       rw [hnx,show mk1 Z a=_ from if_pos h2,List.set_set];rfl
      subst h2
      repeat (first|refine W.gob rfl ?_|refine WL.nil ?_|refine WL.bt rfl rfl rfl zqo ?_|refine WL.e1 rfl ?_|refine WL.len rfl rfl rfl ?_|refine W.condT rfl ?_)
      refine (?_:WL _ _ _ _ _ _)
      refine WL.idx rfl rfl zqo hw1 ?_
      repeat (first|refine WL.vl rfl (WV.nch rfl rfl) ?_|refine W.gob rfl ?_|refine WL.nil ?_|refine WL.bt rfl rfl rfl zqo ?_|refine WL.e1 rfl ?_|refine W.condT rfl ?_)
      refine (?_:WL _ _ _ _ _ _)
      refine WL.sto rfl rfl rfl rfl hrow (by show 2+1≤5;omega) ?_
      repeat (first|refine W.gob rfl ?_|refine WL.nil ?_|refine WL.e1 rfl ?_)
      refine (?_:WL _ _ _ _ _ _)
      refine WL.idx rfl rfl zqo hw1 ?_
      repeat (first|refine W.gob rfl ?_|refine WL.nil ?_|refine WL.bf rfl rfl rfl zqo ?_|refine WL.e1 rfl ?_|refine WL.ar rfl rfl z57i ?_|refine W.condF rfl ?_)
      exact ⟨j+1,by omega,by omega,(zqu (fun q=>q) (by repeat (first|exact trivial|refine ⟨⟨?_,?_,?_⟩,?_⟩|rfl|exact congrArg (fun q=>some (AO.row _ _ q)) hfin|exact congrArg (fun q=>some (AO.rwn _ _ q)) hfin)) rfl)⟩
     ·by_cases h3:a=3
      ·have hfin:(K.set k (eStp Z)).set k (putL 3 [.sc (.int .i64 0)] [.sc (.int .i64 Z.1),.sc (.int .i64 Z.2.1),.sc (.int .i64 Z.2.2.1),.sc (.int .i64 Z.2.2.2.1),.sc (.int .i64 Z.2.2.2.2)])=K.set k (eStp (mkF X w (j+1))):=by
        rw [hnx,show mk1 Z a=_ from (if_neg h2).trans (if_pos h3),List.set_set];rfl
       subst h3
       repeat (first|refine W.gob rfl ?_|refine WL.nil ?_|refine WL.bt rfl rfl rfl zqo ?_|refine WL.e1 rfl ?_|refine WL.len rfl rfl rfl ?_|refine W.condT rfl ?_)
       refine (?_:WL _ _ _ _ _ _)
       refine WL.idx rfl rfl zqo hw1 ?_
       repeat (first|refine W.gob rfl ?_|refine WL.nil ?_|refine WL.bf rfl rfl rfl zqo ?_|refine WL.e1 rfl ?_|refine W.condF rfl ?_)
       refine (?_:WL _ _ _ _ _ _)
       refine WL.idx rfl rfl zqo hw1 ?_
       repeat (first|refine WL.vl rfl (WV.nch rfl rfl) ?_|refine W.gob rfl ?_|refine WL.nil ?_|refine WL.bt rfl rfl rfl zqo ?_|refine WL.e1 rfl ?_|refine W.condT rfl ?_)
       refine (?_:WL _ _ _ _ _ _)
       refine WL.sto rfl rfl rfl rfl hrow (by show 3+1≤5;omega) ?_
       repeat (first|refine W.gob rfl ?_|refine WL.nil ?_|refine WL.e1 rfl ?_|refine WL.ar rfl rfl z57i ?_)
       exact ⟨j+1,by omega,by omega,(zqu (fun q=>q) (by repeat (first|exact trivial|refine ⟨⟨?_,?_,?_⟩,?_⟩|rfl|exact congrArg (fun q=>some (AO.row _ _ q)) hfin|exact congrArg (fun q=>some (AO.rwn _ _ q)) hfin)) rfl)⟩
      ·have hfin:K.set k (eStp Z)=K.set k (eStp (mkF X w (j+1))):=by
        rw [hnx,show mk1 Z a=Z from (if_neg h2).trans (if_neg h3)]
       repeat (first|refine W.gob rfl ?_|refine WL.nil ?_|refine WL.bt rfl rfl rfl zqo ?_|refine WL.e1 rfl ?_|refine WL.len rfl rfl rfl ?_|refine W.condT rfl ?_)
       refine (?_:WL _ _ _ _ _ _)
       refine WL.idx rfl rfl zqo hw1 ?_
       repeat (first|refine W.gob rfl ?_|refine WL.nil ?_|refine WL.bf rfl rfl rfl zqo ?_|refine WL.e1 rfl ?_|refine W.condF rfl ?_)
       refine (?_:WL _ _ _ _ _ _)
       refine WL.idx rfl rfl zqo hw1 ?_
       repeat (first|refine W.gob rfl ?_|refine WL.nil ?_|refine WL.bf rfl rfl rfl zqo ?_|refine WL.e1 rfl ?_|refine WL.ar rfl rfl z57i ?_|refine W.condF rfl ?_)
       exact ⟨j+1,by omega,by omega,(zqu (fun q=>q) (by repeat (first|exact trivial|refine ⟨⟨?_,?_,?_⟩,?_⟩|rfl|exact congrArg (fun q=>some (AO.row _ _ q)) hfin|exact congrArg (fun q=>some (AO.rwn _ _ q)) hfin)) rfl)⟩
    ·obtain rfl:j=w.length:=by omega
     repeat (first|refine W.gob rfl ?_|refine WL.nil ?_|refine WL.bf rfl rfl rfl zqo ?_|refine WL.e1 rfl ?_|refine WL.ar rfl rfl z57i ?_|refine WL.len rfl rfl rfl ?_|refine W.condF rfl ?_)
     exact ⟨k+1,by omega,by omega,(zqu (fun q=>q) (by repeat (first|exact trivial|refine ⟨⟨?_,?_,?_⟩,?_⟩|rfl|exact congrArg (fun q=>some (AO.row _ _ q)) hKp|exact congrArg (fun q=>some (AO.rwn _ _ q)) hKp)) rfl)⟩
   ·obtain rfl:k=PS.length:=by omega
    have hcl:=hset3 _ (mrK_all (rdC s) PS)
    obtain ⟨K,hK⟩:∃ z,(mrK (rdC s) PS.length PS).map eStp=z:=⟨_,rfl⟩
    rw [hK] at hKl hcl ⊢
    repeat (first|refine W.gob rfl ?_|refine WL.e1 rfl ?_|refine WL.ixs rfl rfl zqs ?_)
    refine (?_:WL _ _ _ _ _ _)
    refine WL.ldQ rfl rfl rfl rfl hat2 (by show 5 < 6;omega) ?_
    repeat (first|refine W.gob rfl ?_|refine WL.nil ?_|refine WL.bf rfl rfl rfl zqo ?_|refine WL.e1 rfl ?_|refine WL.ar rfl rfl z57i ?_|refine WL.len rfl rfl rfl ?_|refine W.condF rfl ?_)
    refine ⟨i+1,by omega,by omega,?_⟩
    refine Tr.trans (Tr.close_ 4 rfl rfl rfl hat2 (by show 5 < 6;omega) hcl) ?_
    exact (zqt id)
  ·obtain rfl:i=QS.length:=by omega
   rw [mkL_all] at hRl ⊢
   have hR0:∀ (h:0 < QS.length),((nwL (rdC s) QS).map eEvO)[((0:Int)).toNat]?=some (eEvO (nwE (rdC s) 0 QS[0])):=fun h=>by
    rw [show ((0:Int)).toNat=0 from rfl,List.getElem?_map,List.getElem?_eq_getElem (by rw [nwL_len];exact h),nwL_get h];rfl
   have hE0:=hEo 0
   have hrst:=fun (h:0 < QS.length)=>rest_FS (nwE (rdC s) 0 QS[0])
   have hX:=hX2 ()
   by_cases hfr:s=3∧frsB (redC s) QS=true
   ·rw [if_pos hfr] at hX
    obtain ⟨e1,e2⟩:=hbad2 () (by rw [hX];decide)
    obtain ⟨rfl,hfr⟩:=hfr
    have hp0:0 < QS.length:=by
     cases hq:QS with
     | nil=>rw [hq] at hfr;cases hfr
     | cons e r=>exact Nat.zero_lt_succ _
    have hrs:=hrst hp0
    rw [rd_first hp0 (hE0 hp0),hfr] at hrs
    have hat0:=hR0 hp0
    rw [e1,e2,hX]
    clear hX2 hok2 hbad2 hlo hrst hE0 hR0 hmk hEv hQ20 hEo hIn hX
    generalize nwE (rdC 3) 0 QS[0]=E0 at hrs hat0
    obtain ⟨R,hR⟩:∃ z,(nwL (rdC 3) QS).map eEvO=z:=⟨_,rfl⟩
    rw [hR] at hat0 hRl ⊢
    repeat (first|refine W.gob rfl ?_|refine WL.nil ?_|refine WL.bt rfl rfl rfl zqo ?_|refine WL.bf rfl rfl rfl zqo ?_|refine WL.e1 rfl ?_|refine WL.gyes rfl rfl rfl rfl ?_|refine WL.len rfl rfl rfl ?_|refine WL.ixs rfl rfl zqs ?_|refine W.condF rfl ?_)
    refine (?_:WL _ _ _ _ _ _)
    refine WL.tr (Tr.open_ 4 0 5 rfl hat0 rfl (eStp_own E0.stops) rfl) ?_
    dsimp only [St.upd,St.new,Nat.reduceAdd]
    refine (?_:WL _ _ _ _ _ _)
    refine WL.vl rfl (WV.ldaQ rfl rfl rfl rfl rfl hat0 rfl rfl rfl) ?_
    repeat refine WL.gyes rfl rfl rfl rfl ?_
    refine (?_:WL _ _ _ _ _ _)
    refine WL.vl rfl (WV.lendX (truH _) rfl (callF Tryz.func64 rfl rfl) rfl (.cons (Lent.ag (.cons (Lent.pu rfl) (.cons (Lent.pu rfl) (.cons (Lent.pu rfl) (.cons (Lent.pu rfl) (.cons (Lent.pu rfl) (.cons (Lent.row rfl) .nil))))))) .nil) truST hrs.g) ?_
    repeat (first|refine W.gob rfl ?_|refine WL.nil ?_|refine WL.e1 rfl ?_|refine W.condT rfl ?_)
    refine (?_:W _ _ _ _ _)
    refine W.tr (Tr.nilC 1 0 3 rfl rfl rfl) ?_
    refine W.tr (Tr.nilC 1 1 1 rfl rfl rfl) ?_
    refine W.tr (Tr.nilC 1 2 6 rfl rfl rfl) ?_
    refine W.tr (Tr.nilLs (t:=5) 3 rfl) ?_
    exact W.ret (finN rfl rfl rfl rfl)
   rw [if_neg hfr] at hX
   obtain ⟨e1,e2⟩:=hok2 () hX
   rw [e1,e2,hX,← rd_nwL hs hfr,← rd_lsL hs hfr QS.length (Nat.le_refl _)]
   have hIn2:∀ i (h:i < QS.length),∀ X∈(nwS (rdC s) QS[i].stops).map fun y=>stH y (ftH (nwL (rdC s) QS) i y),pOk s X.1 X.2.1=true∧(1≤X.1∧X.1≤14)∧(0≤X.2.1∧X.2.1≤18)∧(0≤X.2.2.1∧X.2.2.1≤3)∧(0≤X.2.2.2.1∧X.2.2.2.1≤4)∧(0≤X.2.2.2.2∧X.2.2.2.2≤15)∧okR s X.2.2.1=true∧okG s X.2.2.2.1=true:=fun i h=>rd_bds (s:=s) (hIn i h) (nwL (rdC s) QS) i
   have hBget:∀ i (h:i < QS.length),∃ h2:i < (fnL (ftH (nwL (rdC s) QS)) (nwL (rdC s) QS)).length,((fnL (ftH (nwL (rdC s) QS)) (nwL (rdC s) QS))[i]'h2).stops=(nwS (rdC s) QS[i].stops).map fun y=>stH y (ftH (nwL (rdC s) QS) i y):=fun i h=>by
    have h3:i < (nwL (rdC s) QS).length:=by rw [nwL_len];exact h
    refine ⟨by rw [fnL_len];exact h3,?_⟩
    rw [fnL_get h3,nwL_get h];rfl
   have hN20:∀ e∈nwL (rdC s) QS,e.stops.length≤20:=fun e he=>by
    obtain ⟨i,hi,rfl⟩:=List.getElem_of_mem he
    have hi2:i < QS.length:=by rw [nwL_len] at hi;exact hi
    rw [nwL_get hi2]
    have:=nwS_len (rdC s) QS[i].stops
    have:=hQ20 _ (List.getElem_mem hi2)
    show (nwS (rdC s) QS[i].stops).length≤20
    omega
   have hft:=fit_G (nwL (rdC s) QS) p.cs p.st hO.n1 hO.n2 (by rw [nwL_len];exact hQl) hN20 FR
   unfold mvB at hft
   have hNl:(nwL (rdC s) QS).length=QS.length:=nwL_len _ _
   clear hX2 hok2 hbad2 e1 e2 hX hmk hEv hQ20 hEo hIn
   repeat (first|refine W.gob rfl ?_|refine WL.nil ?_|refine WL.bf rfl rfl rfl zqo ?_|refine WL.e1 rfl ?_|refine WL.len rfl rfl rfl ?_|refine W.condF rfl ?_)
   refine (?_:WL _ _ _ _ _ _)
   refine WL.meet2 ⟨[(0,.sc (.int .u8 s)),(4,.pt 1 0 0),(9,.pt 3 0 0),(10,.pt 7 0 0)],[(1,.box 29 [.sc (.slice none 0 0),.sc (.slice none 0 0),.sc (.slice none 0 0)]),(3,.box 29 [.ls 3 (p.cs.map eCrs),.ls 1 (p.st.map eInt),.ls 6 QE]),(4,.rwn 45 6 ((nwL (rdC s) QS).map eEvO)),(5,.rwn 43 1 FR),(7,.box 100 [.ls 3 (p.cs.map eCrs),.ls 1 (p.st.map eInt),.sl 4,.sl 5])],8⟩ ?_ ?_
   ·by_cases h3:s=3
    ·have hd:decide (s=3)=true:=decide_eq_true h3
     have hfr2:frsB (redC s) QS=false:=by
      cases hb:frsB (redC s) QS with
      | false=>rfl
      | true=>exact absurd ⟨h3,hb⟩ hfr
     subst h3
     by_cases hp0:0 < QS.length
     ·have hrs:=hrst hp0
      rw [rd_first hp0 (hE0 hp0),hfr2] at hrs
      have hat0:=hR0 hp0
      clear hrst hE0 hR0 hlo hft hIn2 hBget hN20 hfr hfr2
      generalize nwE (rdC 3) 0 QS[0]=E0 at hrs hat0
      obtain ⟨R,hR⟩:∃ z,(nwL (rdC 3) QS).map eEvO=z:=⟨_,rfl⟩
      rw [hR] at hat0 hRl ⊢
      have hsame:R.set 0 ((eEvO E0).set 5 (.ow 48 5 (E0.stops.map eStp)))=R:=by
       have h0:R[0]?=some (eEvO E0):=hat0
       obtain ⟨hl,e⟩:=List.getElem?_eq_some_iff.1 h0
       show R.set 0 (eEvO E0)=R
       rw [← e,List.set_getElem_self]
      refine WL.tr (Tr.open_ 4 0 5 rfl hat0 rfl (eStp_own E0.stops) rfl) ?_
      dsimp only [St.upd,St.new,Nat.reduceAdd]
      rw [hd]
      repeat (first|refine WL.bt rfl rfl rfl zqo ?_|refine WL.e1 rfl ?_|refine WL.gyes rfl rfl rfl rfl ?_|refine WL.len rfl rfl rfl ?_|refine WL.ixs rfl rfl zqs ?_)
      refine (?_:WL _ _ _ _ _ _)
      refine WL.vl rfl (WV.ldaQ rfl rfl rfl rfl rfl hat0 rfl rfl rfl) ?_
      repeat refine WL.gyes rfl rfl rfl rfl ?_
      refine (?_:WL _ _ _ _ _ _)
      refine WL.vl rfl (WV.lendX (truH _) rfl (callF Tryz.func64 rfl rfl) rfl (.cons (Lent.ag (.cons (Lent.pu rfl) (.cons (Lent.pu rfl) (.cons (Lent.pu rfl) (.cons (Lent.pu rfl) (.cons (Lent.pu rfl) (.cons (Lent.row rfl) .nil))))))) .nil) truST hrs.g) ?_
      repeat (first|refine W.gob rfl ?_|refine WL.nil ?_|refine WL.e1 rfl ?_|refine W.condF rfl ?_)
      refine (?_:Tr _ _ _)
      refine Tr.trans (Tr.close_ 4 rfl rfl rfl hat0 (by show 5 < 6;omega) hsame) ?_
      exact (zqt id)
     ·have hz:QE.length=0:=by omega
      rw [hd]
      repeat (first|refine W.gob rfl ?_|refine WL.nil ?_|refine WL.bf rfl rfl rfl zqo ?_|refine WL.e1 rfl ?_|refine WL.gyes rfl rfl rfl rfl ?_|refine WL.opno rfl rfl rfl rfl rfl rfl rfl ?_|refine WL.len rfl rfl rfl ?_|refine W.condF rfl ?_)
      refine (?_:Tr _ _ _)
      exact (zqt id)
    ·have hd:decide (s=3)=false:=decide_eq_false h3
     rw [hd]
     repeat (first|refine W.gob rfl ?_|refine WL.nil ?_|refine WL.e1 rfl ?_|refine WL.opno rfl rfl rfl rfl rfl rfl rfl ?_|refine W.condF rfl ?_)
     refine (?_:Tr _ _ _)
     exact (zqt id)
   clear hrst hE0 hR0
   repeat refine W.gob rfl ?_
   refine (?_:WL _ _ _ _ _ _)
   refine WL.cto (truH _) [7,4,5] rfl rfl (callF Tryz.func65 rfl rfl) hft rfl rfl rfl ⟨⟨rfl,rfl,rfl⟩,⟨rfl,rfl,rfl⟩,⟨rfl,rfl,rfl⟩,trivial⟩ rfl rfl rfl rfl ?_
   repeat (first|refine W.gob rfl ?_|refine WL.nil ?_|refine WL.e1 rfl ?_)
   refine (?_:W _ _ _ _ _)
   have hBl:(fnL (ftH (nwL (rdC s) QS)) (nwL (rdC s) QS)).length=QS.length:=by rw [fnL_len];exact hNl
   have hBX:∀ e∈fnL (ftH (nwL (rdC s) QS)) (nwL (rdC s) QS),∀ X∈e.stops,pOk s X.1 X.2.1=true∧(1≤X.1∧X.1≤14)∧(0≤X.2.1∧X.2.1≤18)∧(0≤X.2.2.1∧X.2.2.1≤3)∧(0≤X.2.2.2.1∧X.2.2.2.1≤4)∧(0≤X.2.2.2.2∧X.2.2.2.2≤15)∧okR s X.2.2.1=true∧okG s X.2.2.2.1=true:=fun e he X hX=>by
    obtain ⟨i,hi,rfl⟩:=List.getElem_of_mem he
    obtain ⟨h2,e⟩:=hBget i zqo
    rw [e] at hX
    exact hIn2 i zqo X hX
   have hB20:∀ e∈fnL (ftH (nwL (rdC s) QS)) (nwL (rdC s) QS),e.stops.length≤20:=fun e he=>by
    obtain ⟨i,hi,rfl⟩:=List.getElem_of_mem he
    obtain ⟨h2,e⟩:=hBget i zqo
    rw [e,List.length_map]
    have h3:i < (nwL (rdC s) QS).length:=by omega
    have:=hN20 _ (List.getElem_mem h3)
    rw [nwL_get (by omega)] at this
    exact this
   have hzh:=zh_two s (nwL (rdC s) QS)
   have hLB:∀ i c:Int,longestN (fnL (ftH (nwL (rdC s) QS)) (nwL (rdC s) QS)) i c=longestN (nwL (rdC s) QS) i c:=fun i c=>longestN_fn _ _ _ _
   have hz1:=eEvO_rows (fnL (znH s (nwL (rdC s) QS)) (nwL (rdC s) QS))
   have hs1:=List.all_eq_true.2 fun r hr=>List.all_eq_true.2 (eEvO_shal (fnL (znH s (nwL (rdC s) QS)) (nwL (rdC s) QS)) r hr)
   clear hIn2 hBget hN20 hft
   obtain ⟨NW,hNW⟩:∃ z,nwL (rdC s) QS=z:=⟨_,rfl⟩
   rw [hNW] at hBl hB20 hBX hzh hz1 hs1 hNl hlo ⊢
   simp only [hNW] at hLB
   obtain ⟨H2,hH2⟩:∃ z,zhH s NW=z:=⟨_,rfl⟩
   have hHe:∀ (i:Nat) (y:Stp),H2 i y=if okH s y.2.2.2.2 (longestN NW i y.1)=true then y.2.2.2.2 else 0:=fun i y=>by rw [← hH2];rfl
   rw [hH2] at hzh
   obtain ⟨B,hB⟩:∃ z,fnL (ftH NW) NW=z:=⟨_,rfl⟩
   rw [hB] at hBl hB20 hBX hzh ⊢
   simp only [hB] at hLB
   obtain ⟨RES,hRES⟩:∃ z,(fnL (znH s NW) NW).map eEv=z:=⟨_,rfl⟩
   obtain ⟨LOS,hLOS⟩:∃ z,(lsL (rdC s) (znH s NW) QS QS.length).map eLk=z:=⟨_,rfl⟩
   rw [hRES] at hz1
   rw [hRES,hLOS] at hlo
   rw [hRES,hLOS]
   clear hRES hLOS hB hH2 hNW
   rw [show B.map eEvO=(fnN H2 B 0 0).map eEvO by rw [fnN_0]]
   refine W.loop (fun i:Nat=>i≤B.length) (fun i=>⟨[(0,.sc (.int .u8 s)),(4,.pt 1 0 0),(9,.pt 3 0 0),(10,.pt 7 0 0),(22,.sc (.int .i64 i))],[(1,.box 29 [.sc (.slice none 0 0),.sc (.slice none 0 0),.sc (.slice none 0 0)]),(3,.box 29 [.ls 3 (p.cs.map eCrs),.ls 1 (p.st.map eInt),.ls 6 QE]),(4,.rwn 45 6 ((fnN H2 B i 0).map eEvO)),(5,.rwn 43 1 FR),(7,.box 100 [.ls 3 (p.cs.map eCrs),.ls 1 (p.st.map eInt),.sl 4,.sl 5])],8⟩) (fun i=>B.length - i) 0 (by omega) (zqt id) fun i hi=>?_
   have hRl:((fnN H2 B i 0).map eEvO).length=B.length:=by rw [List.length_map,fnN_len]
   by_cases hlt:i < B.length
   ·have hat0:(fnN H2 B i 0)[i]'(by rw [fnN_len];exact hlt)=B[i]:=fnN_0at hlt
    have hlt2:i < (fnN H2 B i 0).length:=by rw [fnN_len];exact hlt
    have hat:((fnN H2 B i 0).map eEvO)[i]?=some (eEvO B[i]):=by rw [evO_at hlt2,hat0]
    have hn20:=hB20 _ (List.getElem_mem hlt)
    have hXs:=hBX _ (List.getElem_mem hlt)
    have hsh:=eEvO_shal (fnN H2 B i 0)
    have hcl:((fnN H2 B i 0).map eEvO).set i ((eEvO B[i]).set 5 (.ow 48 5 ((fnK H2 i B[i].stops.length B[i].stops).map eStp)))=(fnN H2 B (i+1) 0).map eEvO:=by
     have:=evK_rowsO hlt2 (fnK H2 i B[i].stops.length B[i].stops)
     rw [hat0] at this
     rw [this,evK_done hlt]
    have hLen:∀ K:List Stp,(((fnN H2 B i 0).map eEvO).map fun r=>r.map (AV.fz 1)).set i (((eEvO B[i]).map (AV.fz 1)).set 5 (.ls 5 (K.map eStp)))=(evK (fnN H2 B i 0) i K).map eEv:=fun K=>by
     have:=evK_lent hlt2 K
     rw [hat0] at this
     exact this
    have hLong:∀ K:List Stp,K.length=B[i].stops.length→K.map (fun x=>x.1)=B[i].stops.map (fun x=>x.1)→∀ c,Ctr Tryz.prog 66 [.ag [.ls 3 (p.cs.map eCrs),.ls 1 (p.st.map eInt),.ls 6 ((evK (fnN H2 B i 0) i K).map eEv)],.sc (.int .i64 i),.sc (.int .i64 c)] (.sc (.int .i64 (longestN NW i c))):=fun K hK hKc c=>by
     have h:=rLong_FS ⟨p.cs,p.st,evK (fnN H2 B i 0) i K⟩ ⟨hO.n1,hO.n2,by show (evK (fnN H2 B i 0) i K).length≤420;rw [evK_len,fnN_len];omega,fun k hk=>evK_20 hlt2 (by omega) (fnN_20 hB20 i 0) _ (List.getElem_mem _)⟩ i c
     rw [show longestN (Pce.mk p.cs p.st (evK (fnN H2 B i 0) i K)).evs i c=longestN NW i c from (longestN_crs ((evK_crs hlt2 (by rw [hat0];exact hKc)).trans (fnN_crs H2 B i 0)) i c).trans (hLB i c)] at h
     exact h
    have hEe:eEvO B[i]=[.sc (.bool B[i].bar),.sc (.int .i64 B[i].val),.sc (.bool B[i].dot),.sc (.bool B[i].three),.sc (.bool B[i].tie),.ow 48 5 (B[i].stops.map eStp)]:=rfl
    obtain ⟨RR,hRR⟩:∃ z,(fnN H2 B i 0).map eEvO=z:=⟨_,rfl⟩
    rw [hRR] at hat hsh hcl hRl ⊢
    simp only [hRR] at hLen
    obtain ⟨S,hS⟩:∃ z,B[i].stops=z:=⟨_,rfl⟩
    rw [hS] at hn20 hXs hcl
    simp only [hS] at hLong
    have hopen:=fun {C:Cx} {t M} (h1:look 4 M=_)=>Tr.open_ (C:=C) (σ:=⟨t,M,8⟩) 4 i 5 (T:=45) (n:=6) (rows:=RR) h1 hat (by rw [hEe,hS];rfl) (eStp_own S) rfl
    obtain ⟨EE,hEE⟩:∃ z,eEvO B[i]=z:=⟨_,rfl⟩
    have hE6:EE.length=6:=by rw [← hEE];rfl
    rw [hEE] at hat hcl
    simp only [hEE] at hLen
    clear hEe hRR hz1 hs1 hlo hzh hBX hB20 hat0 hlt2 hLB hz2 hs2
    repeat (first|refine W.gob rfl ?_|refine WL.nil ?_|refine WL.bt rfl rfl rfl zqo ?_|refine WL.e1 rfl ?_|refine WL.len rfl rfl rfl ?_|refine W.condT rfl ?_)
    refine (?_:W _ _ _ _ _)
    refine W.tr (hopen rfl) ?_
    dsimp only [St.upd,St.new,Nat.reduceAdd]
    clear hopen
    refine W.loop (fun k:Nat=>k≤S.length) (fun k=>⟨[(0,.sc (.int .u8 s)),(4,.pt 1 0 0),(9,.pt 3 0 0),(10,.pt 7 0 0),(22,.sc (.int .i64 i)),(23,.sc (.int .i64 k))],[(1,.box 29 [.sc (.slice none 0 0),.sc (.slice none 0 0),.sc (.slice none 0 0)]),(3,.box 29 [.ls 3 (p.cs.map eCrs),.ls 1 (p.st.map eInt),.ls 6 QE]),(4,.rwo 45 6 RR i 5 (.sl 8)),(5,.rwn 43 1 FR),(7,.box 100 [.ls 3 (p.cs.map eCrs),.ls 1 (p.st.map eInt),.sl 4,.sl 5]),(8,.row 48 5 ((fnK H2 i k S).map eStp))],9⟩) (fun k=>S.length - k) 0 (by omega) (zqu (fun q=>q) (by repeat (first|exact trivial|refine ⟨⟨?_,?_,?_⟩,?_⟩|rfl|exact congrArg (fun q=>some (AO.row _ _ q)) (by rw [fnK_0])|exact congrArg (fun q=>some (AO.rwn _ _ q)) (by rw [fnK_0]))) rfl) fun k hk=>?_
    have hKl:((fnK H2 i k S).map eStp).length=S.length:=by rw [List.length_map,fnK_len]
    by_cases hkl:k < S.length
    ·have hKj:=fnK_get (H:=H2) (n:=i) hkl
     have hput:=congrArg (List.map eStp) (fnK_put (H:=H2) (n:=i) hkl)
     rw [List.map_set] at hput
     obtain ⟨hpo,c1,c2,c3,c4,c5,c6,c7⟩:=hXs _ (List.getElem_mem hkl)
     have hLC:=hLong _ (fnK_len H2 i k S) (fnK_crs H2 i k S) S[k].1
     have hLe:=hLen (fnK H2 i k S)
     have hH:=hHe i S[k]
     have hwf:=wants_FS s S[k].1 S[k].2.1 S[k].2.2.1 S[k].2.2.2.1 S[k].2.2.2.2 (longestN NW i S[k].1) hs c1 c2 c3 c4 ⟨c5.1,by omega⟩
     have hwe:wants s S[k].1 S[k].2.1 S[k].2.2.1 S[k].2.2.2.1 S[k].2.2.2.2 (longestN NW i S[k].1)=wnt s S[k].2.2.1 S[k].2.2.2.1 S[k].2.2.2.2 (longestN NW i S[k].1):=if_neg (by
      have l1:=(sym_law s _ _ hs c1 c2).1
      rw [hpo] at l1
      intro h
      rw [h] at l1;cases l1)
     have hwl:=wnt_pos s S[k].2.2.1 S[k].2.2.2.1 S[k].2.2.2.2 (longestN NW i S[k].1) c6 c7
     rw [hwe] at hwf
     have hrow:=stpK_row hKj
     obtain ⟨X,hX⟩:∃ z,S[k]=z:=⟨_,rfl⟩
     rw [hX] at hrow hput hLC hH hwf hwl
     have hrow:((fnK H2 i k S).map eStp)[k]?=some [.sc (.int .i64 X.1),.sc (.int .i64 X.2.1),.sc (.int .i64 X.2.2.1),.sc (.int .i64 X.2.2.2.1),.sc (.int .i64 X.2.2.2.2)]:=hrow
     obtain ⟨L,hL⟩:∃ z,longestN NW i X.1=z:=⟨_,rfl⟩
     rw [hL] at hLC hH hwf hwl
     have hwl2:((wnt s X.2.2.1 X.2.2.2.1 X.2.2.2.2 L).map eInt).length=(wnt s X.2.2.1 X.2.2.2.1 X.2.2.2.2 L).length:=List.length_map _
     obtain ⟨WE,hWE⟩:∃ z,(wnt s X.2.2.1 X.2.2.2.1 X.2.2.2.2 L).map eInt=z:=⟨_,rfl⟩
     rw [hWE] at hwf hwl2
     rw [← hLe] at hLC
     obtain ⟨K,hK⟩:∃ z,(fnK H2 i k S).map eStp=z:=⟨_,rfl⟩
     rw [hK] at hrow hput hLC hKl ⊢
     clear hLe hK hKj hwe hLong hLen hXs hHe
     cases hoh:okH s X.2.2.2.2 L with
     | true =>
      rw [if_pos hoh] at hH hwl
      have hW0:WE.length=0:=by omega
      have hfin:K=(fnK H2 i (k+1) S).map eStp:=by
       rw [← hput,hH]
       show K=K.set k (eStp X)
       obtain ⟨hl,e⟩:=List.getElem?_eq_some_iff.1 hrow
       have e:K[k]=eStp X:=e
       rw [← e,List.set_getElem_self]
      repeat (first|refine W.gob rfl ?_|refine WL.e1 rfl ?_|refine WL.ixs rfl rfl zqs ?_)
      refine (?_:WL _ _ _ _ _ _)
      refine WL.ldQ rfl rfl rfl rfl hat (show 5 < EE.length by omega) ?_
      repeat (first|refine W.gob rfl ?_|refine WL.nil ?_|refine WL.bt rfl rfl rfl zqo ?_|refine WL.e1 rfl ?_|refine WL.len rfl rfl rfl ?_|refine WL.ixs rfl rfl zqs ?_|refine W.condT rfl ?_)
      refine (?_:WL _ _ _ _ _ _)
      refine WL.ldQ rfl rfl rfl rfl hat (show 5 < EE.length by omega) ?_
      repeat (first|refine W.gob rfl ?_|refine WL.nil ?_|refine WL.e1 rfl ?_|refine WL.ixs rfl rfl zqs ?_)
      refine (?_:W _ _ _ _ _)
      refine W.drawK zqk zqk ?_
      repeat (first|refine DK.vl rfl (WV.nch rfl rfl) ?_|refine DK.st rfl ?_)
      refine DK.lda rfl rfl hrow rfl ?_
      repeat (first|refine DK.vl rfl (WV.nch rfl rfl) ?_|refine DK.st rfl ?_)
      refine DK.ldr rfl rfl hrow rfl rfl ?_
      refine DK.vl rfl (WV.lendX (truH _) rfl (callF Tryz.func66 rfl rfl) rfl (.cons (Lent.ag (.cons (Lent.pu rfl) (.cons (Lent.pu rfl) (.cons (Lent.rwo 1 rfl (Lent.row rfl) hsh hat (show 5 < EE.length by omega) rfl) .nil)))) (.cons (Lent.pu rfl) (.cons (Lent.pu rfl) .nil))) truST hLC.g) ?_
      refine DK.vl rfl (zqc Tryz.func63 hwf) ?_
      repeat (first|refine DK.st rfl ?_|refine DK.nil ?_)
      repeat (first|refine W.gob rfl ?_|refine WL.nil ?_|refine WL.bf rfl rfl rfl zqo ?_|refine WL.e1 rfl ?_|refine WL.ar rfl rfl z57i ?_|refine WL.len rfl rfl rfl ?_|refine W.condF rfl ?_)
      exact ⟨k+1,by omega,by omega,(zqu (fun q=>q) (by repeat (first|exact trivial|refine ⟨⟨?_,?_,?_⟩,?_⟩|rfl|exact congrArg (fun q=>some (AO.row _ _ q)) hfin|exact congrArg (fun q=>some (AO.rwn _ _ q)) hfin)) rfl)⟩
     | false =>
      rw [if_neg (by rw [hoh];simp)] at hH hwl
      have hW0:WE.length=1:=by omega
      have hfin:K.set k (putL 4 [.sc (.int .i64 0)] [.sc (.int .i64 X.1),.sc (.int .i64 X.2.1),.sc (.int .i64 X.2.2.1),.sc (.int .i64 X.2.2.2.1),.sc (.int .i64 X.2.2.2.2)])=(fnK H2 i (k+1) S).map eStp:=by
       rw [← hput,hH];rfl
      repeat (first|refine W.gob rfl ?_|refine WL.e1 rfl ?_|refine WL.ixs rfl rfl zqs ?_)
      refine (?_:WL _ _ _ _ _ _)
      refine WL.ldQ rfl rfl rfl rfl hat (show 5 < EE.length by omega) ?_
      repeat (first|refine W.gob rfl ?_|refine WL.nil ?_|refine WL.bt rfl rfl rfl zqo ?_|refine WL.e1 rfl ?_|refine WL.len rfl rfl rfl ?_|refine WL.ixs rfl rfl zqs ?_|refine W.condT rfl ?_)
      refine (?_:WL _ _ _ _ _ _)
      refine WL.ldQ rfl rfl rfl rfl hat (show 5 < EE.length by omega) ?_
      repeat (first|refine W.gob rfl ?_|refine WL.nil ?_|refine WL.e1 rfl ?_|refine WL.ixs rfl rfl zqs ?_)
      refine (?_:W _ _ _ _ _)
      refine W.drawK zqk zqk ?_
      repeat (first|refine DK.vl rfl (WV.nch rfl rfl) ?_|refine DK.st rfl ?_)
      refine DK.lda rfl rfl hrow rfl ?_
      repeat (first|refine DK.vl rfl (WV.nch rfl rfl) ?_|refine DK.st rfl ?_)
      refine DK.ldr rfl rfl hrow rfl rfl ?_
      refine DK.vl rfl (WV.lendX (truH _) rfl (callF Tryz.func66 rfl rfl) rfl (.cons (Lent.ag (.cons (Lent.pu rfl) (.cons (Lent.pu rfl) (.cons (Lent.rwo 1 rfl (Lent.row rfl) hsh hat (show 5 < EE.length by omega) rfl) .nil)))) (.cons (Lent.pu rfl) (.cons (Lent.pu rfl) .nil))) truST hLC.g) ?_
      refine DK.vl rfl (zqc Tryz.func63 hwf) ?_
      repeat (first|refine DK.st rfl ?_|refine DK.nil ?_)
      repeat (first|refine WL.vl rfl (WV.nch rfl rfl) ?_|refine W.gob rfl ?_|refine WL.nil ?_|refine WL.bt rfl rfl rfl zqo ?_|refine WL.e1 rfl ?_|refine WL.len rfl rfl rfl ?_|refine W.condT rfl ?_)
      refine (?_:WL _ _ _ _ _ _)
      refine WL.sto rfl rfl rfl rfl hrow (by show 4+1≤5;omega) ?_
      repeat (first|refine W.gob rfl ?_|refine WL.nil ?_|refine WL.e1 rfl ?_|refine WL.ar rfl rfl z57i ?_)
      exact ⟨k+1,by omega,by omega,(zqu (fun q=>q) (by repeat (first|exact trivial|refine ⟨⟨?_,?_,?_⟩,?_⟩|rfl|exact congrArg (fun q=>some (AO.row _ _ q)) hfin|exact congrArg (fun q=>some (AO.rwn _ _ q)) hfin)) rfl)⟩
    ·obtain rfl:k=S.length:=by omega
     obtain ⟨K,hK⟩:∃ z,(fnK H2 i S.length S).map eStp=z:=⟨_,rfl⟩
     rw [hK] at hKl hcl ⊢
     repeat (first|refine W.gob rfl ?_|refine WL.e1 rfl ?_|refine WL.ixs rfl rfl zqs ?_)
     refine (?_:WL _ _ _ _ _ _)
     refine WL.ldQ rfl rfl rfl rfl hat (show 5 < EE.length by omega) ?_
     repeat (first|refine W.gob rfl ?_|refine WL.nil ?_|refine WL.bf rfl rfl rfl zqo ?_|refine WL.e1 rfl ?_|refine WL.ar rfl rfl z57i ?_|refine WL.len rfl rfl rfl ?_|refine W.condF rfl ?_)
     refine ⟨i+1,by omega,by omega,?_⟩
     refine Tr.trans (Tr.close_ 4 rfl rfl rfl hat (show 5 < EE.length by omega) hcl) ?_
     exact (zqt id)
   ·obtain rfl:i=B.length:=by omega
    rw [fnN_all,hzh] at hRl ⊢
    obtain ⟨FE,hFE⟩:∃ z,(fnL (znH s NW) NW).map eEvO=z:=⟨_,rfl⟩
    rw [hFE] at hRl hs1 hz1 ⊢
    repeat (first|refine W.gob rfl ?_|refine WL.nil ?_|refine WL.bf rfl rfl rfl zqo ?_|refine WL.e1 rfl ?_|refine WL.len rfl rfl rfl ?_|refine W.condF rfl ?_)
    refine (?_:W _ _ _ _ _)
    refine W.tr (Tr.freezeW 4 1 rfl hs1 hz1) ?_
    refine W.tr (Tr.freezeW 5 1 rfl hs2 hz2) ?_
    refine W.tr (Tr.freezeB 7 rfl rfl) ?_
    refine W.tr (σ':=⟨[(4,.pt 1 0 0),(9,.pt 3 0 0),(10,.pr [.ls 3 (p.cs.map eCrs),.ls 1 (p.st.map eInt),.ls 6 RES,.ls 1 ((kpA (rdC s) QS).map eFl)])],[(1,.box 29 [.sc (.slice none 0 0),.sc (.slice none 0 0),.sc (.slice none 0 0)]),(3,.box 29 [.ls 3 (p.cs.map eCrs),.ls 1 (p.st.map eInt),.ls 6 QE])],8⟩) (zqt id) ?_
    refine W.dkT 4 zqk zqk zqk zqk ?_
    repeat refine DK.st rfl ?_
    refine DK.vl rfl (zqc Tryz.func67 hlo) ?_
    repeat refine DK.nil ?_
    refine ⟨rfl,?_⟩
    repeat (first|refine WL.nil ?_|refine WL.e1 rfl ?_)
    refine (?_:W _ _ _ _ _)
    exact W.ret (finN rfl rfl rfl rfl)
end Go.Proofs.YtaeelcfjkhfpkaaGreat
