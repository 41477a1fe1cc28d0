/- The reference's piece in the making: the holds fit. (RWN.) -/
import Derived.Test.YtaeelcfjkhfpkaaGreatYJNq
set_option maxHeartbeats 8000000
set_option maxRecDepth 100000
set_option linter.unusedVariables false
set_option linter.unusedSimpArgs false
namespace Go.Proofs.YtaeelcfjkhfpkaaGreat
section
open Go.RowKit
theorem z59i {z:Int} (h:I64 z:=by unfold I64;omega):I64 z:=h
def mvB (cs:List (Int×Int×Bool))(st:List Int):AO:=.box 100 [.ls 3 (cs.map eCrs),.ls 1 (st.map eInt),.sl 1,.sl 2]
theorem put_G (cs:List (Int×Int×Bool)) (st:List Int) (EV:List (List AV)) (FR:List (List AV)) (n:Nat) (e:Ev) (fs:List Stp) (x:Stp) (c f:Int)
  (he:EV[n]?=some (eEvO e)) (hf:FR[n]?=some (eFr fs)) (hE:EV.length≤1000) (hF:FR.length≤1000) (hl:fs.length=e.stops.length) (h20:e.stops.length≤20) (hc:∀ y∈e.stops,y.1 < c) :
  Cto truB 0 Tryz.prog 61 [.pt 0 0 0,.sc (.int .i64 n),.ag (eStp x),.ag [.sc (.int .i64 c),.sc (.int .i64 f)]]
   [(0,mvB cs st),(1,.rwn 45 6 EV),(2,.rwn 43 1 FR)] 3 (.tu [])
   [(0,mvB cs st),(1,.rwn 45 6 (EV.set n (eEvO { e with stops:=e.stops++[(c,f,x.2.2)] }))),(2,.rwn 43 1 (FR.set n (eFr (fs++[x]))))] 3:=by
 obtain ⟨x1,x2,x3,x4,x5⟩:=x
 obtain ⟨b,v,dt,th,ti,S⟩:=e
 dsimp only at hl h20 hc ⊢
 have hnE:n < EV.length:=(List.getElem?_eq_some_iff.1 he).1
 have hnF:n < FR.length:=(List.getElem?_eq_some_iff.1 hf).1
 unfold mvB
 refine Cto.intro truS Tryz.func61 rfl Tryz.ntmps61 (Nat.le_of_ble_eq_true rfl) rfl fun w0 F0 fp pg hB=>?_
 dsimp only [number,Nat.reduceAdd,eStp]
 repeat refine W.go rfl ?_
 refine (?_:W _ _ _ _ _)
 refine W.tr (Tr.nil (t:=9) 48 5 rfl rfl) ?_
 refine W.tr (Tr.nil (t:=10) 48 5 rfl rfl) ?_
 refine W.tr (Tr.open_ 1 n 5 rfl he rfl (eStp_own _) rfl) ?_
 refine W.tr (Tr.open_ 2 n 0 rfl hf rfl (eStp_own _) rfl) ?_
 dsimp only [St.upd,St.new,St.put,Nat.reduceAdd]
 refine (?_:W _ _ _ _ _)
 have hSr:∀ k (h:k < S.length),(S.map eStp)[((k:Nat):Int).toNat]?=some [.sc (.int .i64 S[k].1),.sc (.int .i64 S[k].2.1),.sc (.int .i64 S[k].2.2.1),.sc (.int .i64 S[k].2.2.2.1),.sc (.int .i64 S[k].2.2.2.2)]:=fun k h=>by
  rw [Int.toNat_natCast,List.getElem?_map,List.getElem?_eq_getElem h];rfl
 have hFr:∀ k (h:k < fs.length),(fs.map eStp)[((k:Nat):Int).toNat]?=some [.sc (.int .i64 fs[k].1),.sc (.int .i64 fs[k].2.1),.sc (.int .i64 fs[k].2.2.1),.sc (.int .i64 fs[k].2.2.2.1),.sc (.int .i64 fs[k].2.2.2.2)]:=fun k h=>by
  rw [Int.toNat_natCast,List.getElem?_map,List.getElem?_eq_getElem h];rfl
 have hSl:(S.map eStp).length=S.length:=List.length_map _
 have hFl:(fs.map eStp).length=S.length:=(List.length_map _).trans hl
 have hSt:∀ k (h:k < S.length),(S.take k).map eStp++[[.sc (.int .i64 S[k].1),.sc (.int .i64 S[k].2.1),.sc (.int .i64 S[k].2.2.1),.sc (.int .i64 S[k].2.2.2.1),.sc (.int .i64 S[k].2.2.2.2)]]=(S.take (k+1)).map eStp:=fun k h=>by
  rw [List.take_succ_eq_append_getElem h,List.map_append];rfl
 have hFt:∀ k (h:k < fs.length),(fs.take k).map eStp++[[.sc (.int .i64 fs[k].1),.sc (.int .i64 fs[k].2.1),.sc (.int .i64 fs[k].2.2.1),.sc (.int .i64 fs[k].2.2.2.1),.sc (.int .i64 fs[k].2.2.2.2)]]=(fs.take (k+1)).map eStp:=fun k h=>by
  rw [List.take_succ_eq_append_getElem h,List.map_append];rfl
 have hcE:EV.set n ((eEvO ⟨b,v,dt,th,ti,S⟩).set 5 (.ow 48 5 (S.map eStp++[[.sc (.int .i64 c),.sc (.int .i64 f),.sc (.int .i64 x3),.sc (.int .i64 x4),.sc (.int .i64 x5)]])))=EV.set n (eEvO ⟨b,v,dt,th,ti,S++[(c,f,x3,x4,x5)]⟩):=by
  unfold eEvO;rw [List.map_append];rfl
 have hcF:FR.set n ((eFr fs).set 0 (.ow 48 5 (fs.map eStp++[[.sc (.int .i64 x1),.sc (.int .i64 x2),.sc (.int .i64 x3),.sc (.int .i64 x4),.sc (.int .i64 x5)]])))=FR.set n (eFr (fs++[(x1,x2,x3,x4,x5)])):=by
  unfold eFr;rw [List.map_append];rfl
 have hS0:([]:List (List AV))=(S.take 0).map eStp:=rfl
 have hF0:([]:List (List AV))=(fs.take 0).map eStp:=rfl
 have hSe:(S.take S.length).map eStp=S.map eStp:=by rw [List.take_length]
 have hFe:(fs.take S.length).map eStp=fs.map eStp:=by rw [← hl,List.take_length]
 have hSk:∀ k,k≤S.length→((S.take k).map eStp).length=k:=fun k h=>by rw [List.length_map,List.length_take];omega
 have hFk:∀ k,k≤S.length→((fs.take k).map eStp).length=k:=fun k h=>by rw [List.length_map,List.length_take];omega
 obtain ⟨SS,hSS⟩:∃ z,S.map eStp=z:=⟨_,rfl⟩
 obtain ⟨FF,hFF⟩:∃ z,fs.map eStp=z:=⟨_,rfl⟩
 rw [hSS] at hSr hSl hcE hSe
 rw [hFF] at hFr hFl hcF hFe
 refine W.loop (fun k:Nat=>k≤S.length) (fun k=>⟨[(0,.pt 0 0 0),(1,.sc (.int .i64 n)),(6,.pt 3 0 0),(8,.pt 5 0 0),(9,.sl 6),(10,.sl 7),(11,.sc (.int .i64 k))],
  [(0,.box 100 [.ls 3 (cs.map eCrs),.ls 1 (st.map eInt),.sl 1,.sl 2]),(1,.rwo 45 6 EV n 5 (.sl 8)),(2,.rwo 43 1 FR n 0 (.sl 9)),(3,.box 48 [.sc (.int .i64 x1),.sc (.int .i64 x2),.sc (.int .i64 x3),.sc (.int .i64 x4),.sc (.int .i64 x5)]),(5,.box 48 [.sc (.int .i64 c),.sc (.int .i64 f),.sc (.int .i64 x3),.sc (.int .i64 x4),.sc (.int .i64 x5)]),(6,.row 48 5 ((S.take k).map eStp)),(7,.row 48 5 ((fs.take k).map eStp)),(8,.row 48 5 SS),(9,.row 48 5 FF)],10⟩) (fun k=>S.length - k) 0 (by omega) (zqu (fun q=>q) (by repeat (first|exact trivial|refine ⟨⟨?_,?_,?_⟩,?_⟩|rfl|exact congrArg (fun q=>some (AO.row _ _ q)) hS0|exact congrArg (fun q=>some (AO.rwn _ _ q)) hS0|exact congrArg (fun q=>some (AO.row _ _ q)) hF0|exact congrArg (fun q=>some (AO.rwn _ _ q)) hF0|exact congrArg (fun q=>some (AO.row _ _ q)) hSS|exact congrArg (fun q=>some (AO.rwn _ _ q)) hSS|exact congrArg (fun q=>some (AO.row _ _ q)) hFF|exact congrArg (fun q=>some (AO.rwn _ _ q)) hFF)) rfl) fun k hk=>?_
 by_cases hlt:k < S.length
 ·have hltF:k < fs.length:=by omega
  have h1:=hSr k hlt
  have h2:=hFr k hltF
  have h3:=hSt k hlt
  have h4:=hFt k hltF
  have hyc:S[k].1 < c:=hc _ (List.getElem_mem hlt)
  have l1:=hSk k hk
  have l2:=hFk k hk
  obtain ⟨R6,hR6⟩:∃ z,(S.take k).map eStp=z:=⟨_,rfl⟩
  obtain ⟨R7,hR7⟩:∃ z,(fs.take k).map eStp=z:=⟨_,rfl⟩
  rw [hR6] at h3 l1 ⊢
  rw [hR7] at h4 l2 ⊢
  clear hR6 hR7
  repeat refine W.go rfl ?_
  refine (?_:W _ _ _ _ _)
  refine W.drawK zqk zqk ?_
  repeat (first|refine DK.vl rfl (WV.nch rfl rfl) ?_|refine DK.st rfl ?_|refine DK.ixs rfl rfl zqs ?_)
  refine DK.ldQ rfl rfl rfl rfl he (by show 5 < 6;omega) ?_
  repeat (first|refine DK.vl rfl (WV.nch rfl rfl) ?_|refine DK.bt rfl rfl (by omega) ?_|refine DK.tt rfl (by first|(simp;done)|fail) ?_|refine DK.st rfl ?_|refine DK.len rfl rfl zql ?_|refine DK.ixs rfl rfl zqs ?_)
  refine DK.ldQ rfl rfl rfl rfl he (by show 5 < 6;omega) ?_
  repeat (first|refine DK.st rfl ?_|refine DK.ixs rfl rfl zqs ?_)
  refine DK.ldr rfl rfl h1 rfl rfl ?_
  repeat (first|refine DK.bt rfl rfl (by omega) ?_|refine DK.tt rfl (by first|(simp;done)|fail) ?_|refine DK.st rfl ?_|refine DK.nil ?_)
  repeat (first|refine WL.vl rfl (WV.nch rfl rfl) ?_|refine W.go rfl ?_|refine WL.ev rfl ?_|refine WL.ixs rfl rfl zqs ?_|refine W.condT rfl ?_)
  refine (?_:WL _ _ _ _ _ _)
  refine WL.ldQ rfl rfl rfl rfl he (by show 5 < 6;omega) ?_
  repeat (first|refine WL.e1 rfl ?_|refine WL.ixs rfl rfl zqs ?_)
  refine (?_:WL _ _ _ _ _ _)
  refine WL.lda rfl rfl h1 rfl ?_
  repeat (first|refine WL.vl rfl (WV.nch rfl rfl) ?_|refine W.gob rfl ?_|refine WL.nil ?_|refine WL.e1 rfl ?_|refine WL.ixs rfl rfl zqs ?_|refine WL.app rfl rfl rfl zqs ?_)
  refine (?_:WL _ _ _ _ _ _)
  refine WL.ldQ rfl rfl rfl rfl hf (by show 0 < 1;omega) ?_
  repeat (first|refine WL.e1 rfl ?_|refine WL.ixs rfl rfl zqs ?_)
  refine (?_:WL _ _ _ _ _ _)
  refine WL.lda rfl rfl h2 rfl ?_
  repeat (first|refine W.gob rfl ?_|refine WL.nil ?_|refine WL.e1 rfl ?_|refine WL.ar rfl rfl z59i ?_|refine WL.app rfl rfl rfl zqs ?_)
  exact ⟨k+1,by omega,by omega,(zqu (fun q=>bif Nat.beq q 6 then 11 else bif Nat.beq q 7 then 13 else q) (by repeat (first|exact trivial|refine ⟨⟨?_,?_,?_⟩,?_⟩|rfl|exact congrArg (fun q=>some (AO.row _ _ q)) h3|exact congrArg (fun q=>some (AO.rwn _ _ q)) h3|exact congrArg (fun q=>some (AO.row _ _ q)) h4|exact congrArg (fun q=>some (AO.rwn _ _ q)) h4)) rfl)⟩
 ·obtain rfl:k=S.length:=by omega
  rw [hSe,hFe]
  repeat refine W.go rfl ?_
  refine (?_:W _ _ _ _ _)
  refine W.drawK zqk zqk ?_
  repeat (first|refine DK.vl rfl (WV.nch rfl rfl) ?_|refine DK.st rfl ?_|refine DK.ixs rfl rfl zqs ?_)
  refine DK.ldQ rfl rfl rfl rfl he (by show 5 < 6;omega) ?_
  repeat (first|refine DK.bf rfl rfl (by omega) ?_|refine DK.ff rfl (by first|(simp;done)|fail) ?_|refine DK.st rfl ?_|refine DK.len rfl rfl zql ?_|refine DK.nil ?_)
  repeat (first|refine W.go rfl ?_|refine WL.ev rfl ?_|refine WL.app rfl rfl rfl zqs ?_|refine W.condF rfl ?_)
  refine (?_:W _ _ _ _ _)
  refine W.loop (fun _:Unit=>True) (fun _=>⟨[(0,.pt 0 0 0),(1,.sc (.int .i64 n)),(9,.sl 11),(10,.sl 13),(11,.sc (.int .i64 S.length))],
   [(0,.box 100 [.ls 3 (cs.map eCrs),.ls 1 (st.map eInt),.sl 1,.sl 2]),(1,.rwo 45 6 EV n 5 (.sl 8)),(2,.rwo 43 1 FR n 0 (.sl 9)),(8,.row 48 5 SS),(9,.row 48 5 FF),
    (11,.row 48 5 (SS++[[.sc (.int .i64 c),.sc (.int .i64 f),.sc (.int .i64 x3),.sc (.int .i64 x4),.sc (.int .i64 x5)]])),(13,.row 48 5 (FF++[[.sc (.int .i64 x1),.sc (.int .i64 x2),.sc (.int .i64 x3),.sc (.int .i64 x4),.sc (.int .i64 x5)]]))],14⟩) (fun _=>0) () trivial (zqt id) fun _ _=>?_
  repeat (first|refine WL.vl rfl (WV.nch rfl rfl) ?_|refine W.gob rfl ?_|refine WL.e1 rfl ?_|refine WL.ixs rfl rfl zqs ?_)
  refine (?_:WL _ _ _ _ _ _)
  refine WL.ldQ rfl rfl rfl rfl he (by show 5 < 6;omega) ?_
  repeat (first|refine WL.vl rfl (WV.nch rfl rfl) ?_|refine W.gob rfl ?_|refine WL.nil ?_|refine WL.bf rfl rfl rfl zqo ?_|refine WL.e1 rfl ?_|refine WL.len rfl rfl zql ?_|refine WL.ixs rfl rfl zqs ?_|refine W.condF rfl ?_)
  refine (?_:WL _ _ _ _ _ _)
  refine WL.stR rfl rfl rfl rfl rfl rfl he (by show 5 < 6;omega) ?_
  refine WL.tr (Tr.close_ 1 rfl rfl rfl he (by show 5 < 6;omega) hcE) ?_
  dsimp only [St.upd,St.drop,rem,cond,Nat.beq]
  repeat (first|refine WL.vl rfl (WV.nch rfl rfl) ?_|refine W.gob rfl ?_|refine WL.nil ?_|refine WL.e1 rfl ?_|refine WL.ixs rfl rfl zqs ?_)
  refine (?_:WL _ _ _ _ _ _)
  refine WL.stR rfl rfl rfl rfl rfl rfl hf (by show 0 < 1;omega) ?_
  refine WL.tr (Tr.close_ 2 rfl rfl rfl hf (by show 0 < 1;omega) hcF) ?_
  dsimp only [St.upd,St.drop,rem,cond,Nat.beq]
  repeat refine WL.nil ?_
  exact finTrL (σ':=⟨[],[(0,.box 100 [.ls 3 (cs.map eCrs),.ls 1 (st.map eInt),.sl 1,.sl 2]),(1,.rwn 45 6 (EV.set n (eEvO ⟨b,v,dt,th,ti,S++[(c,f,x3,x4,x5)]⟩))),(2,.rwn 43 1 (FR.set n (eFr (fs++[(x1,x2,x3,x4,x5)]))))],3⟩) (zqt (fun q=>q)) (finMuL rfl rfl rfl rfl rfl)
end
section
open Go.RowKit
theorem bare_G (C:Cg) (ties:Bool) (p:Pce) (hO:PcOk p) (cs:List (Int×Int×Bool)) (st:List Int) (FR:List (List AV)) :
  Cto truB 0 Tryz.prog 62 [.pt 0 0 0,ePce p,.sc (.bool ties)]
   [(0,mvB cs st),(1,.rwn 45 6 ((pcL C p.evs).map eEvO)),(2,.rwn 43 1 FR)] 3 (.tu [])
   [(0,mvB cs st),(1,.rwn 45 6 ((baA C ties p.evs).map eEvO)),(2,.rwn 43 1 FR)] 3:=by
 have hPe:ePce p=.ag [.ls 3 (p.cs.map eCrs),.ls 1 (p.st.map eInt),.ls 6 (p.evs.map eEv)]:=rfl
 have hn:=hO.n3
 have hEv:∀ k (h:k < p.evs.length),(p.evs.map eEv)[((k:Nat):Int).toNat]?=some [.sc (.bool p.evs[k].bar),.sc (.int .i64 p.evs[k].val),.sc (.bool p.evs[k].dot),.sc (.bool p.evs[k].three),.sc (.bool p.evs[k].tie),.ls 5 (p.evs[k].stops.map eStp)]:=fun k h=>by
  rw [Int.toNat_natCast,List.getElem?_map,List.getElem?_eq_getElem h];rfl
 have hEl:(p.evs.map eEv).length=p.evs.length:=List.length_map _
 rw [hPe]
 obtain ⟨EV,hEV⟩:∃ z,p.evs.map eEv=z:=⟨_,rfl⟩
 rw [hEV] at hEv hEl ⊢
 have hst:∀ k (h:k < p.evs.length) t,t=(baE C ties k p.evs[k]).tie→((baL C ties p.evs k).map eEvO).set k (eEvO { p.evs[k] with stops:=pcS C p.evs[k].stops,tie:=t })=(baL C ties p.evs (k+1)).map eEvO:=fun k h t e=>by
  subst e
  rw [baL_set h,List.map_set];rfl
 have hat:∀ k (h:k < p.evs.length),((baL C ties p.evs k).map eEvO)[k]?=some (eEvO { p.evs[k] with stops:=pcS C p.evs[k].stops }):=fun k h=>by
  rw [List.getElem?_map,List.getElem?_eq_getElem (by rw [baL_len];exact h),baL_get h,if_neg (Nat.lt_irrefl _)];rfl
 have hbl:∀ k,((baL C ties p.evs k).map eEvO).length=p.evs.length:=fun k=>by rw [List.length_map,baL_len]
 unfold mvB
 refine Cto.intro truS Tryz.func62 rfl Tryz.ntmps62 (Nat.le_of_ble_eq_true rfl) rfl fun w0 F0 fp pg hB=>?_
 dsimp only [number,Nat.reduceAdd]
 rw [← baL_0 C ties]
 repeat refine W.go rfl ?_
 refine (?_:W _ _ _ _ _)
 refine W.loop (fun k:Nat=>k≤p.evs.length) (fun k=>⟨[(0,.pt 0 0 0),(2,.sc (.bool ties)),(4,.pt 3 0 0),(6,.sc (.int .i64 k))],
  [(0,.box 100 [.ls 3 (cs.map eCrs),.ls 1 (st.map eInt),.sl 1,.sl 2]),(1,.rwn 45 6 ((baL C ties p.evs k).map eEvO)),(2,.rwn 43 1 FR),(3,.box 29 [.ls 3 (p.cs.map eCrs),.ls 1 (p.st.map eInt),.ls 6 EV])],4⟩) (fun k=>p.evs.length - k) 0 (by omega) (zqt id) fun k hk=>?_
 by_cases hlt:k < p.evs.length
 ·have h1:=hEv k hlt
  have h2:=hat k hlt
  have h3:=hst k hlt
  have h4:=hbl k
  obtain ⟨e,hev⟩:∃ z,p.evs[k]=z:=⟨_,rfl⟩
  rw [hev] at h1 h2 h3
  clear hev
  obtain ⟨b,v,dt,th,ti,S⟩:=e
  unfold baE at h3
  dsimp only at h1 h2 h3
  have hPS:(pcS C S).length=((pcS C S).map eStp).length:=(List.length_map _).symm
  have hSS:S.length=(S.map eStp).length:=(List.length_map _).symm
  obtain ⟨R,hR⟩:∃ z,(baL C ties p.evs k).map eEvO=z:=⟨_,rfl⟩
  rw [hR] at h2 h3 h4 ⊢
  clear hR
  have hown:=eStp_own (pcS C S)
  have h2:R[k]?=some [.sc (.bool b),.sc (.int .i64 v),.sc (.bool dt),.sc (.bool th),.sc (.bool ti),.ow 48 5 ((pcS C S).map eStp)]:=h2
  have h3:∀ t:Bool,t=(if S.length=0 then ti else if (pcS C S).length=0 then (decide (0 < k) && ties) else ti)→R.set k [.sc (.bool b),.sc (.int .i64 v),.sc (.bool dt),.sc (.bool th),.sc (.bool t),.ow 48 5 ((pcS C S).map eStp)]=(baL C ties p.evs (k+1)).map eEvO:=h3
  have hsame:R.set k [.sc (.bool b),.sc (.int .i64 v),.sc (.bool dt),.sc (.bool th),.sc (.bool ti),.ow 48 5 ((pcS C S).map eStp)]=R:=by
   obtain ⟨hl,e⟩:=List.getElem?_eq_some_iff.1 h2
   rw [← e,List.set_getElem_self]
  rw [hPS,hSS] at h3
  obtain ⟨PS,hPS2⟩:∃ z,(pcS C S).map eStp=z:=⟨_,rfl⟩
  obtain ⟨SS,hSS2⟩:∃ z,S.map eStp=z:=⟨_,rfl⟩
  rw [hPS2] at h2 h3 hsame hown
  rw [hSS2] at h1 h3
  clear hPS hSS hPS2 hSS2
  by_cases hS0:SS.length=0
  ·have h5:=h3 ti (by rw [if_pos hS0])
   rw [hsame] at h5
   repeat (first|refine W.gob rfl ?_|refine WL.nil ?_|refine WL.bt rfl rfl rfl zqo ?_|refine WL.e1 rfl ?_|refine WL.len rfl rfl zql ?_|refine W.condT rfl ?_)
   refine (?_:WL _ _ _ _ _ _)
   refine WL.idx rfl rfl zqo h1 ?_
   repeat (first|refine W.gob rfl ?_|refine WL.nil ?_|refine WL.bf rfl rfl rfl zqo ?_|refine WL.e1 rfl ?_|refine WL.opno rfl rfl rfl rfl rfl rfl rfl ?_|refine WL.ar rfl rfl z59i ?_|refine WL.len rfl rfl zql ?_|refine W.condF rfl ?_)
   exact ⟨k+1,by omega,by omega,(zqu (fun q=>q) (by repeat (first|exact trivial|refine ⟨⟨?_,?_,?_⟩,?_⟩|rfl|exact congrArg (fun q=>some (AO.row _ _ q)) h5|exact congrArg (fun q=>some (AO.rwn _ _ q)) h5)) rfl)⟩
  ·have hSp:0 < SS.length:=by omega
   rw [if_neg hS0] at h3
   refine W.tr (Tr.open_ 1 k 5 rfl h2 rfl hown rfl) ?_
   dsimp only [St.upd,St.new,Nat.reduceAdd]
   by_cases hP0:PS.length=0
   ·rw [if_pos hP0] at h3
    repeat (first|refine W.gob rfl ?_|refine WL.nil ?_|refine WL.bt rfl rfl rfl zqo ?_|refine WL.e1 rfl ?_|refine WL.len rfl rfl zql ?_|refine W.condT rfl ?_)
    refine (?_:WL _ _ _ _ _ _)
    refine WL.idx rfl rfl zqo h1 ?_
    repeat (first|refine WL.vl rfl (WV.nch rfl rfl) ?_|refine WL.bt rfl rfl rfl zqo ?_|refine WL.e1 rfl ?_|refine WL.gyes rfl rfl rfl rfl ?_|refine WL.len rfl rfl zql ?_|refine WL.ixs rfl rfl zqs ?_)
    refine (?_:WL _ _ _ _ _ _)
    by_cases hk0:0 < k
    ·have h5:=h3 ties (by rw [decide_eq_true hk0];rfl)
     have hkd:decide ((0:Int) < (k:Int))=true:=decide_eq_true zqo
     refine WL.ldQ rfl rfl rfl rfl h2 (by show 5 < 6;omega) ?_
     repeat (first|refine WL.vl rfl (WV.nch rfl rfl) ?_|refine W.gob rfl ?_|refine WL.nil ?_|refine WL.bt rfl rfl rfl zqo ?_|refine WL.e1 rfl ?_|refine WL.gyes rfl rfl rfl rfl ?_|refine WL.len rfl rfl zql ?_|refine WL.ixs rfl rfl zqs ?_|refine W.condT rfl ?_)
     refine (?_:WL _ _ _ _ _ _)
     refine WL.tr (Tr.close_ 1 rfl rfl rfl h2 (by show 5 < 6;omega) hsame) ?_
     dsimp only [St.upd,St.drop,rem,cond,Nat.beq]
     refine WL.stW rfl rfl rfl rfl h2 (by show 4+1≤6;omega) rfl ?_
     repeat (first|refine W.gob rfl ?_|refine WL.nil ?_|refine WL.e1 rfl ?_|refine WL.ar rfl rfl z59i ?_)
     exact ⟨k+1,by omega,by omega,(zqu (fun q=>q) (by repeat (first|exact trivial|refine ⟨⟨?_,?_,?_⟩,?_⟩|rfl|exact congrArg (fun q=>some (AO.row _ _ q)) h5|exact congrArg (fun q=>some (AO.rwn _ _ q)) h5)) rfl)⟩
    ·have h5:=h3 false (by rw [decide_eq_false hk0];rfl)
     refine WL.ldQ rfl rfl rfl rfl h2 (by show 5 < 6;omega) ?_
     repeat (first|refine WL.vl rfl (WV.nch rfl rfl) ?_|refine W.gob rfl ?_|refine WL.nil ?_|refine WL.bt rfl rfl rfl zqo ?_|refine WL.bf rfl rfl rfl zqo ?_|refine WL.e1 rfl ?_|refine WL.gyes rfl rfl rfl rfl ?_|refine WL.opno rfl rfl rfl rfl rfl rfl rfl ?_|refine WL.len rfl rfl zql ?_|refine WL.ixs rfl rfl zqs ?_|refine W.condT rfl ?_)
     refine (?_:WL _ _ _ _ _ _)
     refine WL.tr (Tr.close_ 1 rfl rfl rfl h2 (by show 5 < 6;omega) hsame) ?_
     dsimp only [St.upd,St.drop,rem,cond,Nat.beq]
     refine WL.stW rfl rfl rfl rfl h2 (by show 4+1≤6;omega) rfl ?_
     repeat (first|refine W.gob rfl ?_|refine WL.nil ?_|refine WL.e1 rfl ?_|refine WL.ar rfl rfl z59i ?_)
     exact ⟨k+1,by omega,by omega,(zqu (fun q=>q) (by repeat (first|exact trivial|refine ⟨⟨?_,?_,?_⟩,?_⟩|rfl|exact congrArg (fun q=>some (AO.row _ _ q)) h5|exact congrArg (fun q=>some (AO.rwn _ _ q)) h5)) rfl)⟩
   ·rw [if_neg hP0] at h3
    have h5:=h3 ti rfl
    repeat (first|refine W.gob rfl ?_|refine WL.nil ?_|refine WL.bt rfl rfl rfl zqo ?_|refine WL.e1 rfl ?_|refine WL.len rfl rfl zql ?_|refine W.condT rfl ?_)
    refine (?_:WL _ _ _ _ _ _)
    refine WL.idx rfl rfl zqo h1 ?_
    repeat (first|refine WL.vl rfl (WV.nch rfl rfl) ?_|refine WL.bt rfl rfl rfl zqo ?_|refine WL.e1 rfl ?_|refine WL.gyes rfl rfl rfl rfl ?_|refine WL.len rfl rfl zql ?_|refine WL.ixs rfl rfl zqs ?_)
    refine (?_:WL _ _ _ _ _ _)
    refine WL.ldQ rfl rfl rfl rfl h2 (by show 5 < 6;omega) ?_
    repeat (first|refine W.gob rfl ?_|refine WL.nil ?_|refine WL.bf rfl rfl rfl zqo ?_|refine WL.e1 rfl ?_|refine WL.gyes rfl rfl rfl rfl ?_|refine WL.ar rfl rfl z59i ?_|refine WL.len rfl rfl zql ?_|refine W.condF rfl ?_)
    exact ⟨k+1,by omega,by omega,Tr.trans (Tr.close_ 1 rfl rfl rfl h2 (by show 5 < 6;omega) h5) (zqt (fun q=>q))⟩
 ·obtain rfl:k=p.evs.length:=by omega
  rw [baL_all]
  repeat (first|refine W.gob rfl ?_|refine WL.nil ?_|refine WL.bf rfl rfl rfl zqo ?_|refine WL.e1 rfl ?_|refine WL.len rfl rfl zql ?_|refine W.condF rfl ?_)
  exact finTrL (σ':=⟨[],[(0,.box 100 [.ls 3 (cs.map eCrs),.ls 1 (st.map eInt),.sl 1,.sl 2]),(1,.rwn 45 6 ((baA C ties p.evs).map eEvO)),(2,.rwn 43 1 FR)],3⟩) (zqt (fun q=>q)) (finMuL rfl rfl rfl rfl rfl)
end
section
open Go.RowKit
theorem fit_G (NW:List Ev) (cs:List (Int×Int×Bool)) (st:List Int) (h1:cs.length≤64) (h2:st.length≤64) (hN400:NW.length≤400) (hN20:∀ e∈NW,e.stops.length≤20) (FR:List (List AV)) :
  Cto truB 0 Tryz.prog 65 [.pt 0 0 0]
   [(0,mvB cs st),(1,.rwn 45 6 (NW.map eEvO)),(2,.rwn 43 1 FR)] 3 (.tu [])
   [(0,mvB cs st),(1,.rwn 45 6 ((fnL (ftH NW) NW).map eEvO)),(2,.rwn 43 1 FR)] 3:=by
 unfold mvB
 obtain ⟨H0,hH0⟩:∃ z,ftH NW=z:=⟨_,rfl⟩
 rw [hH0]
 refine Cto.intro truS Tryz.func65 rfl Tryz.ntmps65 (Nat.le_of_ble_eq_true rfl) rfl fun w0 F0 fp pg hB=>?_
 dsimp only [number,Nat.reduceAdd]
 repeat refine W.go rfl ?_
 refine (?_:W _ _ _ _ _)
 rw [show NW.map eEvO=(fnN H0 NW 0 0).map eEvO by rw [fnN_0]]
 refine W.loop (fun n:Nat=>n≤NW.length) (fun n=>⟨[(0,.pt 0 0 0),(2,.sc (.int .i64 n))],[(0,.box 100 [.ls 3 (cs.map eCrs),.ls 1 (st.map eInt),.sl 1,.sl 2]),(1,.rwn 45 6 ((fnN H0 NW n 0).map eEvO)),(2,.rwn 43 1 FR)],3⟩) (fun n=>NW.length - n) 0 (by omega) (zqt id) fun n hn=>?_
 have hnl:((fnN H0 NW n 0).map eEvO).length=NW.length:=by rw [List.length_map,fnN_len]
 by_cases hlt:n < NW.length
 ·have hat0:(fnN H0 NW n 0)[n]'(by rw [fnN_len];exact hlt)=NW[n]:=fnN_0at hlt
  have hlt2:n < (fnN H0 NW n 0).length:=by rw [fnN_len];exact hlt
  have hat:((fnN H0 NW n 0).map eEvO)[n]?=some (eEvO NW[n]):=by rw [evO_at hlt2,hat0]
  have hn20:=hN20 _ (List.getElem_mem hlt)
  repeat (first|refine WL.vl rfl (WV.nch rfl rfl) ?_|refine W.gob rfl ?_|refine WL.nil ?_|refine WL.bt rfl rfl rfl zqo ?_|refine WL.e1 rfl ?_|refine WL.len rfl rfl zql ?_|refine W.condT rfl ?_)
  refine (?_:W _ _ _ _ _)
  refine W.tr (Tr.open_ 1 n 5 rfl hat rfl (eStp_own _) rfl) ?_
  dsimp only [St.upd,St.new,Nat.reduceAdd]
  refine W.loop (fun j:Nat=>j≤NW[n].stops.length) (fun j=>⟨[(0,.pt 0 0 0),(2,.sc (.int .i64 n)),(3,.sc (.int .i64 j))],[(0,.box 100 [.ls 3 (cs.map eCrs),.ls 1 (st.map eInt),.sl 1,.sl 2]),(1,.rwo 45 6 ((fnN H0 NW n 0).map eEvO) n 5 (.sl 3)),(2,.rwn 43 1 FR),(3,.row 48 5 ((fnK H0 n j NW[n].stops).map eStp))],4⟩) (fun j=>NW[n].stops.length - j) 0 (by omega) (zqu (fun q=>q) (by repeat (first|exact trivial|refine ⟨⟨?_,?_,?_⟩,?_⟩|rfl|exact congrArg (fun q=>some (AO.row _ _ q)) (by rw [fnK_0])|exact congrArg (fun q=>some (AO.rwn _ _ q)) (by rw [fnK_0]))) rfl) fun j hj=>?_
  have hjl:((fnK H0 n j NW[n].stops).map eStp).length=NW[n].stops.length:=by rw [List.length_map,fnK_len]
  by_cases hjt:j < NW[n].stops.length
  ·have hKj:=fnK_get (H:=H0) (n:=n) hjt
   have hput:=fnK_put (H:=H0) (n:=n) hjt
   have hkl:=fnK_len H0 n j NW[n].stops
   have hkc:=fnK_crs H0 n j NW[n].stops
   have hH0x:H0 n NW[n].stops[j]=if NW[n].stops[j].2.1=0 then 0 else min NW[n].stops[j].2.2.2.2 (longestN NW n NW[n].stops[j].1:Int):=by rw [← hH0];rfl
   have hLong:∀ K:List Stp,K.length=NW[n].stops.length→K.map (fun x=>x.1)=NW[n].stops.map (fun x=>x.1)→∀ c,Ctr Tryz.prog 66 [.ag [.ls 3 (cs.map eCrs),.ls 1 (st.map eInt),.ls 6 ((evK (fnN H0 NW n 0) n K).map eEv)],.sc (.int .i64 n),.sc (.int .i64 c)] (.sc (.int .i64 (longestN NW n c))):=fun K hK hKc c=>by
    have h:=rLong_FS ⟨cs,st,evK (fnN H0 NW n 0) n K⟩ ⟨h1,h2,by show (evK (fnN H0 NW n 0) n K).length≤420;rw [evK_len,fnN_len];omega,fun k hk=>evK_20 hlt2 (by omega) (fnN_20 hN20 n 0) _ (List.getElem_mem _)⟩ n c
    rw [show longestN (Pce.mk cs st (evK (fnN H0 NW n 0) n K)).evs n c=longestN NW n c from longestN_crs ((evK_crs hlt2 (by rw [hat0];exact hKc)).trans (fnN_crs H0 NW n 0)) n c] at h
    exact h
   have hLen:∀ K:List Stp,(((fnN H0 NW n 0).map eEvO).map fun r=>r.map (AV.fz 1)).set n (((eEvO NW[n]).map (AV.fz 1)).set 5 (.ls 5 (K.map eStp)))=(evK (fnN H0 NW n 0) n K).map eEv:=fun K=>by
    have:=evK_lent hlt2 K
    rw [hat0] at this
    exact this
   obtain ⟨K,hK⟩:∃ z,fnK H0 n j NW[n].stops=z:=⟨_,rfl⟩
   rw [hK] at hjl hKj hput hkl hkc ⊢
   clear hK
   obtain ⟨X,hX⟩:∃ z,NW[n].stops[j]=z:=⟨_,rfl⟩
   rw [hX] at hKj hput hH0x
   clear hX
   have hbd:0≤(longestN NW n X.1:Int)∧(longestN NW n X.1:Int)≤15:=⟨Int.natCast_nonneg _,by have:=longestN_le NW n X.1;omega⟩
   have hjK:j < K.length:=by omega
   have hrow:=stpK_row hKj
   have hLC:=hLong K hkl hkc X.1
   have hmin:(if (longestN NW n X.1:Int) < X.2.2.2.2 then (longestN NW n X.1:Int) else X.2.2.2.2)=min X.2.2.2.2 (longestN NW n X.1:Int):=by
    rw [Int.min_def];split<;>split<;>omega
   obtain ⟨Z,hZ⟩:∃ z,min X.2.2.2.2 (longestN NW n X.1:Int)=z:=⟨_,rfl⟩
   rw [hZ] at hmin hH0x
   have hst1:(K.map eStp).set j (putL 4 [.sc (.int .i64 Z)] (eStp X))=(K.set j (stH X Z)).map eStp:=stpK_put X Z
   have hrow1:((K.set j (stH X Z)).map eStp)[j]?=some (eStp (stH X Z)):=stpK_row (List.getElem?_set_self hjK)
   have hl1:((K.set j (stH X Z)).map eStp).length=NW[n].stops.length:=by rw [List.length_map,List.length_set];exact hkl
   have hst2:((K.set j (stH X Z)).map eStp).set j (putL 4 [.sc (.int .i64 0)] (eStp (stH X Z)))=(K.set j (stH X 0)).map eStp:=by
    rw [stpK_put (stH X Z) 0,List.set_set];rfl
   repeat (first|refine WL.vl rfl (WV.nch rfl rfl) ?_|refine W.gob rfl ?_|refine WL.e1 rfl ?_|refine WL.ixs rfl rfl zqs ?_)
   refine (?_:WL _ _ _ _ _ _)
   refine WL.ldQ rfl rfl rfl rfl hat (by show 5 < 6;omega) ?_
   repeat (first|refine WL.vl rfl (WV.nch rfl rfl) ?_|refine W.gob rfl ?_|refine WL.nil ?_|refine WL.bt rfl rfl rfl zqo ?_|refine WL.e1 rfl ?_|refine WL.len rfl rfl zql ?_|refine WL.ixs rfl rfl zqs ?_|refine W.condT rfl ?_)
   refine (?_:WL _ _ _ _ _ _)
   refine WL.ldQ rfl rfl rfl rfl hat (by show 5 < 6;omega) ?_
   repeat (first|refine W.gob rfl ?_|refine WL.nil ?_|refine WL.e1 rfl ?_|refine WL.ixs rfl rfl zqs ?_)
   refine (?_:W _ _ _ _ _)
   refine W.of_wa zqk ?_
   refine WA.dt [false,false,false,false,false,false,false,false,false,false,false,false,false,false,false,false,false,false,true] [0] [0,1,3] 18 zqk zqk zqk ⟨rfl,trivial⟩ ⟨rfl,rfl,rfl,trivial⟩ ?_
   refine DTK.st rfl zqk rfl ?_
   refine DTK.st rfl zqk rfl ?_
   refine DTK.vl rfl zqk (WV.nch rfl rfl) ?_
   refine DTK.st rfl zqk rfl ?_
   refine DTK.ldr rfl zqk rfl hrow rfl rfl ?_
   refine DTK.st rfl zqk rfl ?_
   refine DTK.vl rfl zqk (WV.nch rfl rfl) ?_
   refine DTK.st rfl zqk rfl ?_
   refine DTK.st rfl zqk rfl ?_
   refine DTK.st rfl zqk rfl ?_
   refine DTK.st rfl zqk rfl ?_
   refine DTK.vl rfl zqk (WV.nch rfl rfl) ?_
   refine DTK.st rfl zqk rfl ?_
   refine DTK.ldr rfl zqk rfl hrow rfl rfl ?_
   refine DTK.vl rfl zqk (WV.lendX (truH _) rfl (callF Tryz.func66 rfl rfl) rfl (.cons (Lent.ag (.cons (Lent.pu rfl) (.cons (Lent.pu rfl) (.cons (Lent.rwo 1 rfl (Lent.row rfl) (eEvO_shal _) hat (by show 5 < 6;omega) (hLen _)) .nil)))) (.cons (Lent.pu rfl) (.cons (Lent.pu rfl) .nil))) truST hLC.g) ?_
   refine DTK.vl rfl zqk (mmV_as rfl hmin) ?_
   refine DTK.vl rfl zqk (WV.nch rfl rfl) ?_
   refine DTK.st rfl zqk rfl ?_
   refine DTK.sto rfl rfl rfl rfl rfl rfl rfl rfl rfl rfl rfl rfl (put_row hrow (by show 4+1≤5;omega) rfl) rfl ⟨rfl,trivial⟩ (fun h=>by cases h) ?_
   refine DTK.nil ?_
   rw [← hst1] at hrow1 hst2
   have hrow1:((K.map eStp).set j (putL 4 [.sc (.int .i64 Z)] (eStp X)))[j]?=some [.sc (.int .i64 X.1),.sc (.int .i64 X.2.1),.sc (.int .i64 X.2.2.1),.sc (.int .i64 X.2.2.2.1),.sc (.int .i64 Z)]:=hrow1
   have hst2:((K.map eStp).set j (putL 4 [.sc (.int .i64 Z)] (eStp X))).set j (putL 4 [.sc (.int .i64 0)] [.sc (.int .i64 X.1),.sc (.int .i64 X.2.1),.sc (.int .i64 X.2.2.1),.sc (.int .i64 X.2.2.2.1),.sc (.int .i64 Z)])=(K.set j (stH X 0)).map eStp:=hst2
   by_cases hf0:X.2.1=0
   ·have hfin:((K.map eStp).set j (putL 4 [.sc (.int .i64 Z)] (eStp X))).set j (putL 4 [.sc (.int .i64 0)] [.sc (.int .i64 X.1),.sc (.int .i64 X.2.1),.sc (.int .i64 X.2.2.1),.sc (.int .i64 X.2.2.2.1),.sc (.int .i64 Z)])=(fnK H0 n (j+1) NW[n].stops).map eStp:=by rw [hst2,← hput,hH0x,if_pos hf0]
    repeat (first|refine WL.vl rfl (WV.nch rfl rfl) ?_|refine W.gob rfl ?_|refine WL.e1 rfl ?_)
    refine (?_:WL _ _ _ _ _ _)
    refine WL.ldr rfl rfl hrow1 rfl rfl ?_
    repeat (first|refine WL.vl rfl (WV.nch rfl rfl) ?_|refine W.gob rfl ?_|refine WL.nil ?_|refine WL.bt rfl rfl rfl zqo ?_|refine WL.e1 rfl ?_|refine W.condT rfl ?_)
    refine (?_:WL _ _ _ _ _ _)
    refine WL.sto rfl rfl rfl rfl hrow1 (by show 4+1≤5;omega) ?_
    repeat (first|refine W.gob rfl ?_|refine WL.nil ?_|refine WL.e1 rfl ?_|refine WL.ar rfl rfl z59i ?_)
    exact ⟨j+1,by omega,by omega,(zqu (fun q=>q) (by repeat (first|exact trivial|refine ⟨⟨?_,?_,?_⟩,?_⟩|rfl|exact congrArg (fun q=>some (AO.row _ _ q)) hfin|exact congrArg (fun q=>some (AO.rwn _ _ q)) hfin)) rfl)⟩
   ·have hfin:(K.map eStp).set j (putL 4 [.sc (.int .i64 Z)] (eStp X))=(fnK H0 n (j+1) NW[n].stops).map eStp:=by rw [hst1,← hput,hH0x,if_neg hf0]
    repeat (first|refine WL.vl rfl (WV.nch rfl rfl) ?_|refine W.gob rfl ?_|refine WL.e1 rfl ?_)
    refine (?_:WL _ _ _ _ _ _)
    refine WL.ldr rfl rfl hrow1 rfl rfl ?_
    repeat (first|refine W.gob rfl ?_|refine WL.nil ?_|refine WL.bf rfl rfl rfl zqo ?_|refine WL.e1 rfl ?_|refine WL.ar rfl rfl z59i ?_|refine W.condF rfl ?_)
    exact ⟨j+1,by omega,by omega,(zqu (fun q=>q) (by repeat (first|exact trivial|refine ⟨⟨?_,?_,?_⟩,?_⟩|rfl|exact congrArg (fun q=>some (AO.row _ _ q)) hfin|exact congrArg (fun q=>some (AO.rwn _ _ q)) hfin)) rfl)⟩
  ·obtain rfl:j=NW[n].stops.length:=by omega
   have hcl:((fnN H0 NW n 0).map eEvO).set n ((eEvO NW[n]).set 5 (.ow 48 5 ((fnK H0 n NW[n].stops.length NW[n].stops).map eStp)))=(fnN H0 NW (n+1) 0).map eEvO:=by
    have:=evK_rowsO hlt2 (fnK H0 n NW[n].stops.length NW[n].stops)
    rw [hat0] at this
    rw [this,evK_done hlt]
   have hkl:=fnK_len H0 n NW[n].stops.length NW[n].stops
   repeat (first|refine WL.vl rfl (WV.nch rfl rfl) ?_|refine W.gob rfl ?_|refine WL.e1 rfl ?_|refine WL.ixs rfl rfl zqs ?_)
   refine (?_:WL _ _ _ _ _ _)
   refine WL.ldQ rfl rfl rfl rfl hat (by show 5 < 6;omega) ?_
   repeat (first|refine W.gob rfl ?_|refine WL.nil ?_|refine WL.bf rfl rfl rfl zqo ?_|refine WL.e1 rfl ?_|refine WL.ar rfl rfl z59i ?_|refine WL.len rfl rfl zql ?_|refine W.condF rfl ?_)
   refine ⟨n+1,by omega,by omega,?_⟩
   refine Tr.trans (Tr.close_ 1 rfl rfl rfl hat (by show 5 < 6;omega) hcl) ?_
   exact (zqt id)
 ·obtain rfl:n=NW.length:=by omega
  rw [fnN_all] at hnl ⊢
  have hfl:(fnL H0 NW).length=NW.length:=fnL_len _ _
  repeat (first|refine WL.vl rfl (WV.nch rfl rfl) ?_|refine W.gob rfl ?_|refine WL.nil ?_|refine WL.bf rfl rfl rfl zqo ?_|refine WL.e1 rfl ?_|refine WL.len rfl rfl zql ?_|refine W.condF rfl ?_)
  exact finTrL (σ':=⟨[],[(0,.box 100 [.ls 3 (cs.map eCrs),.ls 1 (st.map eInt),.sl 1,.sl 2]),(1,.rwn 45 6 ((fnL H0 NW).map eEvO)),(2,.rwn 43 1 FR)],3⟩) (zqt (fun q=>q)) (finMuL rfl rfl rfl rfl rfl)
end
end Go.Proofs.YtaeelcfjkhfpkaaGreat
