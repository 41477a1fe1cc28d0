/- The reference's piece in the making: a stop is put behind the others. (RWN.) -/
import Derived.Test.YtaeelcfjkhfpkaaGreatG9Tq
import Derived.Test.YtaeelcfjkhfpkaaGreatYSTq
set_option maxHeartbeats 8000000
set_option maxRecDepth 100000
set_option linter.unusedVariables false
set_option linter.unusedSimpArgs false
namespace Go.Proofs.YtaeelcfjkhfpkaaGreat
section
open Go.RowKit
def bgE(e:Ev):Ev:={ e with stops:=[] }
theorem Tr.nilOwJ {C:Cx} {σ:St} (k j:Nat) {T n:Nat} {rows:List (List AV)} (T' n':Nat) (hk:look k σ.M=some (.row T n rows)) (hj:∀ r∈rows,r[j]?=some (.sc (.slice none 0 0))) :
  Tr C σ (σ.upd k (.rwn T n (rows.map fun r=>r.set j (.ow T' n' [])))):=fun G a w ok=>by
 obtain ⟨g1,g2,g3,g4,q1,vs,Φ,q2,q3,q4,q5,q6,q7,q8,q9⟩:=ok.ob k _ hk
 refine ⟨G,ok.reob hk ⟨g1,trivial,g3,g4,?_⟩⟩
 have hat:∀ (i:Nat)r,(rows.map fun r=>r.set j (.ow T' n' []))[i]?=some r→∃ r0,rows[i]?=some r0∧r=r0.set j (.ow T' n' []):=fun i r h=>by
  rw [List.getElem?_map]at h
  cases h0:rows[i]? with
  | none=>rw [h0]at h;cases h
  | some r0=>rw [h0]at h;cases h;exact ⟨r0,rfl,rfl⟩
 refine ⟨fun r hr=>?_,vs,Φ,q2,by rw [q3,List.length_map],q4,q5,q6,q7,fun i r v hr hv=>?_,fun i r v j' av u hr hv hj' hu=>?_⟩
 ·obtain ⟨r0,h0,rfl⟩:=List.mem_map.1 hr
  rw [List.length_set];exact q1 r0 h0
 ·obtain ⟨r0,h0,rfl⟩:=hat i r hr
  rw [List.length_set];exact q8 i r0 v h0 hv
 ·obtain ⟨r0,h0,rfl⟩:=hat i r hr
  have hm:=hj r0 (List.mem_of_getElem? h0)
  by_cases e:j=j'
  ·subst e
   rw [List.getElem?_set_self (by exact (List.getElem?_eq_some_iff.1 hm).1)]at hj'
   cases hj'
   have:=(q9 i r0 v j _ u h0 hv hm hu).sc_eq
   rw [this];exact OW.nil_ _ _ _ _ _
  ·rw [List.getElem?_set_ne e]at hj'
   exact .pu _ _ _ (q9 i r0 v j' _ u h0 hv hj' hu)
def eEvN (e:Ev):List AV:=[.sc (.bool e.bar),.sc (.int .i64 e.val),.sc (.bool e.dot),.sc (.bool e.three),.sc (.bool e.tie),.sc (.slice none 0 0)]
theorem eEvN_set (l:List Ev):((l.map eEvN).map fun r=>r.set 5 (.ow 48 5 []))=(l.map bgE).map eEvO:=by
 rw [List.map_map,List.map_map];rfl
def eFr (l:List Stp):List AV:=[.ow 48 5 (l.map eStp)]
theorem bg_G (p:Pce) (hO:PcOk p) (cs:List (Int×Int×Bool)) (st:List Int) (h1:cs.length≤64) (h2:st.length≤64) :
  Cto truB 0 Tryz.prog 59 [ePce p,.ag [.ls 3 (cs.map eCrs),.ls 1 (st.map eInt)]] [] 0 (.ag [.ls 3 (cs.map eCrs),.ls 1 (st.map eInt),.sl 0,.sl 1])
   [(0,.rwn 45 6 ((p.evs.map bgE).map eEvO)),(1,.rwn 43 1 ((p.evs.map fun _=>([]:List Stp)).map eFr)),(2,.box 100 [.ls 3 (cs.map eCrs),.ls 1 (st.map eInt),.sl 0,.sl 1])] 3:=by
 have hC:Ctr Tryz.prog 35 [.ag [.ls 3 (cs.map eCrs),.ls 1 (st.map eInt)]] (.ag [.ls 3 (cs.map eCrs),.ls 1 (st.map eInt)]):=insCopy_FS cs st h1 h2
 have hPe:ePce p=.ag [.ls 3 (p.cs.map eCrs),.ls 1 (p.st.map eInt),.ls 6 (p.evs.map eEv)]:=rfl
 have hn:=hO.n3
 rw [hPe]
 have hEv:∀ k (h:k < p.evs.length),(p.evs.map eEv)[((k:Nat):Int).toNat]?=some [.sc (.bool p.evs[k].bar),.sc (.int .i64 p.evs[k].val),.sc (.bool p.evs[k].dot),.sc (.bool p.evs[k].three),.sc (.bool p.evs[k].tie),.ls 5 (p.evs[k].stops.map eStp)]:=fun k h=>by
  rw [Int.toNat_natCast,List.getElem?_map,List.getElem?_eq_getElem h];rfl
 have hEl:(p.evs.map eEv).length=p.evs.length:=List.length_map _
 obtain ⟨EV,hEV⟩:∃ z,p.evs.map eEv=z:=⟨_,rfl⟩
 rw [hEV] at hEv hEl ⊢
 refine Cto.intro truS Tryz.func59 rfl Tryz.ntmps59 (Nat.le_of_ble_eq_true rfl) rfl fun w0 F0 fp pg hB=>?_
 dsimp only [number,Nat.reduceAdd]
 repeat refine W.go rfl ?_
 refine (?_:WL _ _ _ _ _ _)
 refine WL.vl rfl (zqc Tryz.func35 hC) ?_
 repeat (first|refine W.go rfl ?_|refine WL.ev rfl ?_)
 refine (?_:W _ _ _ _ _)
 refine W.tr (Tr.nilBox (k:=3) (j:=2) 45 6 rfl rfl rfl rfl) ?_
 refine W.tr (Tr.nilBox (k:=3) (j:=3) 43 1 rfl rfl rfl rfl) ?_
 dsimp only [St.put,St.new,St.upd,Nat.reduceAdd]
 refine W.loop (fun k:Nat=>k≤p.evs.length) (fun k=>⟨[(2,.pt 0 0 0),(4,.pt 2 0 0),(5,.pt 3 0 0),(6,.sc (.int .i64 k))],[(0,.box 29 [.ls 3 (p.cs.map eCrs),.ls 1 (p.st.map eInt),.ls 6 EV]),(2,.box 100 [.sc (.slice none 0 0),.sc (.slice none 0 0),.sc (.slice none 0 0),.sc (.slice none 0 0)]),(3,.box 100 [.ls 3 (cs.map eCrs),.ls 1 (st.map eInt),.sl 4,.sl 5]),(4,.row 45 6 ((p.evs.take k).map eEvN)),(5,.row 43 1 (List.replicate k [.sc (.slice none 0 0)]))],6⟩) (fun k=>p.evs.length - k) 0 zqo (zqt id) fun k hk=>?_
 by_cases hlt:k < p.evs.length
 ·have hr1:(p.evs.take k).map eEvN++[eEvN p.evs[k]]=(p.evs.take (k+1)).map eEvN:=by
   rw [List.take_succ_eq_append_getElem hlt,List.map_append];rfl
  have hr2:List.replicate k [AV.sc (.slice none 0 0)]++[[AV.sc (.slice none 0 0)]]=List.replicate (k+1) [AV.sc (.slice none 0 0)]:=by rw [List.replicate_succ']
  have l1:((p.evs.take k).map eEvN).length=k:=by rw [List.length_map,List.length_take];omega
  have l2:(List.replicate k [AV.sc (.slice none 0 0)]).length=k:=List.length_replicate
  obtain ⟨R1,hR1⟩:∃ z,(p.evs.take k).map eEvN=z:=⟨_,rfl⟩
  obtain ⟨R2,hR2⟩:∃ z,List.replicate k [AV.sc (.slice none 0 0)]=z:=⟨_,rfl⟩
  rw [hR1] at hr1 l1 ⊢
  rw [hR2] at hr2 l2 ⊢
  clear hR1 hR2
  have hat:=hEv k hlt
  have hr1':R1++[[.sc (.bool p.evs[k].bar),.sc (.int .i64 p.evs[k].val),.sc (.bool p.evs[k].dot),.sc (.bool p.evs[k].three),.sc (.bool p.evs[k].tie),.sc (.slice none 0 0)]]=(p.evs.take (k+1)).map eEvN:=hr1
  repeat (first|refine W.gob rfl ?_|refine WL.nil ?_|refine WL.bt rfl rfl rfl zqo ?_|refine WL.e1 rfl ?_|refine WL.len rfl rfl zql ?_|refine W.condT rfl ?_)
  refine (?_:WL _ _ _ _ _ _)
  refine WL.idx rfl rfl zqo hat ?_
  repeat (first|refine W.gob rfl ?_|refine WL.nil ?_|refine WL.e1 rfl ?_|refine WL.ar rfl rfl (by unfold I64;omega) ?_|refine WL.app rfl rfl rfl zqs ?_)
  exact ⟨k+1,by omega,by omega,(zqu (fun q=>bif Nat.beq q 4 then 8 else bif Nat.beq q 5 then 10 else q) (by repeat (first|exact trivial|refine ⟨⟨?_,?_,?_⟩,?_⟩|rfl|exact congrArg (fun q=>some (AO.row _ _ q)) hr1'|exact congrArg (fun q=>some (AO.rwn _ _ q)) hr1'|exact congrArg (fun q=>some (AO.row _ _ q)) hr2|exact congrArg (fun q=>some (AO.rwn _ _ q)) hr2)) rfl)⟩
 ·obtain rfl:k=p.evs.length:=by omega
  rw [List.take_length]
  have hs:=eEvN_set p.evs
  have hj:∀ r∈p.evs.map eEvN,r[5]?=some (.sc (.slice none 0 0)):=fun r hr=>by
   obtain ⟨e,_,rfl⟩:=List.mem_map.1 hr;rfl
  have hrep:List.replicate p.evs.length [AV.ow 48 5 []]=(p.evs.map fun _=>([]:List Stp)).map eFr:=by
   rw [List.map_map]
   exact (List.map_const' ..).symm.trans (List.map_congr_left fun _ _=>rfl)
  obtain ⟨RN,hRN⟩:∃ z,p.evs.map eEvN=z:=⟨_,rfl⟩
  rw [hRN] at hs hj ⊢
  rw [← hs,← hrep]
  repeat (first|refine W.gob rfl ?_|refine WL.nil ?_|refine WL.bf rfl rfl rfl zqo ?_|refine WL.e1 rfl ?_|refine WL.len rfl rfl zql ?_|refine W.condF rfl ?_)
  refine (?_:W _ _ _ _ _)
  refine W.tr (Tr.nilOwJ 4 5 48 5 rfl hj) ?_
  refine W.tr (Tr.nilOw 5 48 5 rfl) ?_
  dsimp only [St.upd]
  refine W.tr (σ':=⟨[(4,.pt 2 0 0)],[(0,.rwn 45 6 (RN.map fun r=>r.set 5 (.ow 48 5 []))),(1,.rwn 43 1 (List.replicate p.evs.length [.ow 48 5 []])),(2,.box 100 [.ls 3 (cs.map eCrs),.ls 1 (st.map eInt),.sl 0,.sl 1])],3⟩) (zqt (fun q=>bif Nat.beq q 0 then 4 else bif Nat.beq q 1 then 5 else bif Nat.beq q 2 then 2 else q)) ?_
  exact W.ret (finM rfl rfl rfl rfl rfl)
end
section
open Go.RowKit
def mvB (cs:List (Int×Int×Bool))(st:List Int):AO:=.box 100 [.ls 3 (cs.map eCrs),.ls 1 (st.map eInt),.sl 1,.sl 2]
theorem put_G (cs:List (Int×Int×Bool)) (st:List Int) (EV:List (List AV)) (FR:List (List AV)) (n:Nat) (e:Ev) (fs:List Stp) (x:Stp) (c f:Int)
  (he:EV[n]?=some (eEvO e)) (hf:FR[n]?=some (eFr fs)) (hE:EV.length≤1000) (hF:FR.length≤1000) (hl:fs.length=e.stops.length) (h20:e.stops.length≤20) (hc:∀ y∈e.stops,y.1 < c) :
  Cto truB 0 Tryz.prog 61 [.pt 0 0 0,.sc (.int .i64 n),.ag (eStp x),.ag [.sc (.int .i64 c),.sc (.int .i64 f)]]
   [(0,mvB cs st),(1,.rwn 45 6 EV),(2,.rwn 43 1 FR)] 3 (.tu [])
   [(0,mvB cs st),(1,.rwn 45 6 (EV.set n (eEvO { e with stops:=e.stops++[(c,f,x.2.2)] }))),(2,.rwn 43 1 (FR.set n (eFr (fs++[x]))))] 3:=by
 obtain ⟨x1,x2,x3,x4,x5⟩:=x
 obtain ⟨b,v,dt,th,ti,S⟩:=e
 dsimp only at hl h20 hc ⊢
 have hnE:n < EV.length:=(List.getElem?_eq_some_iff.1 he).1
 have hnF:n < FR.length:=(List.getElem?_eq_some_iff.1 hf).1
 unfold mvB
 refine Cto.intro truS Tryz.func61 rfl Tryz.ntmps61 (Nat.le_of_ble_eq_true rfl) rfl fun w0 F0 fp pg hB=>?_
 dsimp only [number,Nat.reduceAdd,eStp]
 repeat refine W.go rfl ?_
 refine (?_:W _ _ _ _ _)
 refine W.tr (Tr.nil (t:=9) 48 5 rfl rfl) ?_
 refine W.tr (Tr.nil (t:=10) 48 5 rfl rfl) ?_
 refine W.tr (Tr.open_ 1 n 5 rfl he rfl (eStp_own _) rfl) ?_
 refine W.tr (Tr.open_ 2 n 0 rfl hf rfl (eStp_own _) rfl) ?_
 dsimp only [St.upd,St.new,St.put,Nat.reduceAdd]
 refine (?_:W _ _ _ _ _)
 have hSr:∀ k (h:k < S.length),(S.map eStp)[((k:Nat):Int).toNat]?=some [.sc (.int .i64 S[k].1),.sc (.int .i64 S[k].2.1),.sc (.int .i64 S[k].2.2.1),.sc (.int .i64 S[k].2.2.2.1),.sc (.int .i64 S[k].2.2.2.2)]:=fun k h=>by
  rw [Int.toNat_natCast,List.getElem?_map,List.getElem?_eq_getElem h];rfl
 have hFr:∀ k (h:k < fs.length),(fs.map eStp)[((k:Nat):Int).toNat]?=some [.sc (.int .i64 fs[k].1),.sc (.int .i64 fs[k].2.1),.sc (.int .i64 fs[k].2.2.1),.sc (.int .i64 fs[k].2.2.2.1),.sc (.int .i64 fs[k].2.2.2.2)]:=fun k h=>by
  rw [Int.toNat_natCast,List.getElem?_map,List.getElem?_eq_getElem h];rfl
 have hSl:(S.map eStp).length=S.length:=List.length_map _
 have hFl:(fs.map eStp).length=S.length:=(List.length_map _).trans hl
 have hSt:∀ k (h:k < S.length),(S.take k).map eStp++[[.sc (.int .i64 S[k].1),.sc (.int .i64 S[k].2.1),.sc (.int .i64 S[k].2.2.1),.sc (.int .i64 S[k].2.2.2.1),.sc (.int .i64 S[k].2.2.2.2)]]=(S.take (k+1)).map eStp:=fun k h=>by
  rw [List.take_succ_eq_append_getElem h,List.map_append];rfl
 have hFt:∀ k (h:k < fs.length),(fs.take k).map eStp++[[.sc (.int .i64 fs[k].1),.sc (.int .i64 fs[k].2.1),.sc (.int .i64 fs[k].2.2.1),.sc (.int .i64 fs[k].2.2.2.1),.sc (.int .i64 fs[k].2.2.2.2)]]=(fs.take (k+1)).map eStp:=fun k h=>by
  rw [List.take_succ_eq_append_getElem h,List.map_append];rfl
 have hcE:EV.set n ((eEvO ⟨b,v,dt,th,ti,S⟩).set 5 (.ow 48 5 (S.map eStp++[[.sc (.int .i64 c),.sc (.int .i64 f),.sc (.int .i64 x3),.sc (.int .i64 x4),.sc (.int .i64 x5)]])))=EV.set n (eEvO ⟨b,v,dt,th,ti,S++[(c,f,x3,x4,x5)]⟩):=by
  unfold eEvO;rw [List.map_append];rfl
 have hcF:FR.set n ((eFr fs).set 0 (.ow 48 5 (fs.map eStp++[[.sc (.int .i64 x1),.sc (.int .i64 x2),.sc (.int .i64 x3),.sc (.int .i64 x4),.sc (.int .i64 x5)]])))=FR.set n (eFr (fs++[(x1,x2,x3,x4,x5)])):=by
  unfold eFr;rw [List.map_append];rfl
 have hS0:([]:List (List AV))=(S.take 0).map eStp:=rfl
 have hF0:([]:List (List AV))=(fs.take 0).map eStp:=rfl
 have hSe:(S.take S.length).map eStp=S.map eStp:=by rw [List.take_length]
 have hFe:(fs.take S.length).map eStp=fs.map eStp:=by rw [← hl,List.take_length]
 have hSk:∀ k,k≤S.length→((S.take k).map eStp).length=k:=fun k h=>by rw [List.length_map,List.length_take];omega
 have hFk:∀ k,k≤S.length→((fs.take k).map eStp).length=k:=fun k h=>by rw [List.length_map,List.length_take];omega
 obtain ⟨SS,hSS⟩:∃ z,S.map eStp=z:=⟨_,rfl⟩
 obtain ⟨FF,hFF⟩:∃ z,fs.map eStp=z:=⟨_,rfl⟩
 rw [hSS] at hSr hSl hcE hSe
 rw [hFF] at hFr hFl hcF hFe
 refine W.loop (fun k:Nat=>k≤S.length) (fun k=>⟨[(0,.pt 0 0 0),(1,.sc (.int .i64 n)),(6,.pt 3 0 0),(8,.pt 5 0 0),(9,.sl 6),(10,.sl 7),(11,.sc (.int .i64 k))],
  [(0,.box 100 [.ls 3 (cs.map eCrs),.ls 1 (st.map eInt),.sl 1,.sl 2]),(1,.rwo 45 6 EV n 5 (.sl 8)),(2,.rwo 43 1 FR n 0 (.sl 9)),(3,.box 48 [.sc (.int .i64 x1),.sc (.int .i64 x2),.sc (.int .i64 x3),.sc (.int .i64 x4),.sc (.int .i64 x5)]),(5,.box 48 [.sc (.int .i64 c),.sc (.int .i64 f),.sc (.int .i64 x3),.sc (.int .i64 x4),.sc (.int .i64 x5)]),(6,.row 48 5 ((S.take k).map eStp)),(7,.row 48 5 ((fs.take k).map eStp)),(8,.row 48 5 SS),(9,.row 48 5 FF)],10⟩) (fun k=>S.length - k) 0 (by omega) (zqu (fun q=>q) (by repeat (first|exact trivial|refine ⟨⟨?_,?_,?_⟩,?_⟩|rfl|exact congrArg (fun q=>some (AO.row _ _ q)) hS0|exact congrArg (fun q=>some (AO.rwn _ _ q)) hS0|exact congrArg (fun q=>some (AO.row _ _ q)) hF0|exact congrArg (fun q=>some (AO.rwn _ _ q)) hF0|exact congrArg (fun q=>some (AO.row _ _ q)) hSS|exact congrArg (fun q=>some (AO.rwn _ _ q)) hSS|exact congrArg (fun q=>some (AO.row _ _ q)) hFF|exact congrArg (fun q=>some (AO.rwn _ _ q)) hFF)) rfl) fun k hk=>?_
 by_cases hlt:k < S.length
 ·have hltF:k < fs.length:=by omega
  have h1:=hSr k hlt
  have h2:=hFr k hltF
  have h3:=hSt k hlt
  have h4:=hFt k hltF
  have hyc:S[k].1 < c:=hc _ (List.getElem_mem hlt)
  have l1:=hSk k hk
  have l2:=hFk k hk
  obtain ⟨R6,hR6⟩:∃ z,(S.take k).map eStp=z:=⟨_,rfl⟩
  obtain ⟨R7,hR7⟩:∃ z,(fs.take k).map eStp=z:=⟨_,rfl⟩
  rw [hR6] at h3 l1 ⊢
  rw [hR7] at h4 l2 ⊢
  clear hR6 hR7
  repeat refine W.go rfl ?_
  refine (?_:W _ _ _ _ _)
  refine W.drawK zqk zqk ?_
  repeat (first|refine DK.vl rfl (WV.nch rfl rfl) ?_|refine DK.st rfl ?_|refine DK.ixs rfl rfl zqs ?_)
  refine DK.ldQ rfl rfl rfl rfl he (by show 5 < 6;omega) ?_
  repeat (first|refine DK.vl rfl (WV.nch rfl rfl) ?_|refine DK.bt rfl rfl (by omega) ?_|refine DK.tt rfl (by first|(simp;done)|fail) ?_|refine DK.st rfl ?_|refine DK.len rfl rfl zql ?_|refine DK.ixs rfl rfl zqs ?_)
  refine DK.ldQ rfl rfl rfl rfl he (by show 5 < 6;omega) ?_
  repeat (first|refine DK.st rfl ?_|refine DK.ixs rfl rfl zqs ?_)
  refine DK.ldr rfl rfl h1 rfl rfl ?_
  repeat (first|refine DK.bt rfl rfl (by omega) ?_|refine DK.tt rfl (by first|(simp;done)|fail) ?_|refine DK.st rfl ?_|refine DK.nil ?_)
  repeat (first|refine WL.vl rfl (WV.nch rfl rfl) ?_|refine W.go rfl ?_|refine WL.ev rfl ?_|refine WL.ixs rfl rfl zqs ?_|refine W.condT rfl ?_)
  refine (?_:WL _ _ _ _ _ _)
  refine WL.ldQ rfl rfl rfl rfl he (by show 5 < 6;omega) ?_
  repeat (first|refine WL.e1 rfl ?_|refine WL.ixs rfl rfl zqs ?_)
  refine (?_:WL _ _ _ _ _ _)
  refine WL.lda rfl rfl h1 rfl ?_
  repeat (first|refine WL.vl rfl (WV.nch rfl rfl) ?_|refine W.gob rfl ?_|refine WL.nil ?_|refine WL.e1 rfl ?_|refine WL.ixs rfl rfl zqs ?_|refine WL.app rfl rfl rfl zqs ?_)
  refine (?_:WL _ _ _ _ _ _)
  refine WL.ldQ rfl rfl rfl rfl hf (by show 0 < 1;omega) ?_
  repeat (first|refine WL.e1 rfl ?_|refine WL.ixs rfl rfl zqs ?_)
  refine (?_:WL _ _ _ _ _ _)
  refine WL.lda rfl rfl h2 rfl ?_
  repeat (first|refine W.gob rfl ?_|refine WL.nil ?_|refine WL.e1 rfl ?_|refine WL.ar rfl rfl (by unfold I64;omega) ?_|refine WL.app rfl rfl rfl zqs ?_)
  exact ⟨k+1,by omega,by omega,(zqu (fun q=>bif Nat.beq q 6 then 11 else bif Nat.beq q 7 then 13 else q) (by repeat (first|exact trivial|refine ⟨⟨?_,?_,?_⟩,?_⟩|rfl|exact congrArg (fun q=>some (AO.row _ _ q)) h3|exact congrArg (fun q=>some (AO.rwn _ _ q)) h3|exact congrArg (fun q=>some (AO.row _ _ q)) h4|exact congrArg (fun q=>some (AO.rwn _ _ q)) h4)) rfl)⟩
 ·obtain rfl:k=S.length:=by omega
  rw [hSe,hFe]
  repeat refine W.go rfl ?_
  refine (?_:W _ _ _ _ _)
  refine W.drawK zqk zqk ?_
  repeat (first|refine DK.vl rfl (WV.nch rfl rfl) ?_|refine DK.st rfl ?_|refine DK.ixs rfl rfl zqs ?_)
  refine DK.ldQ rfl rfl rfl rfl he (by show 5 < 6;omega) ?_
  repeat (first|refine DK.bf rfl rfl (by omega) ?_|refine DK.ff rfl (by first|(simp;done)|fail) ?_|refine DK.st rfl ?_|refine DK.len rfl rfl zql ?_|refine DK.nil ?_)
  repeat (first|refine W.go rfl ?_|refine WL.ev rfl ?_|refine WL.app rfl rfl rfl zqs ?_|refine W.condF rfl ?_)
  refine (?_:W _ _ _ _ _)
  refine W.loop (fun _:Unit=>True) (fun _=>⟨[(0,.pt 0 0 0),(1,.sc (.int .i64 n)),(9,.sl 11),(10,.sl 13),(11,.sc (.int .i64 S.length))],
   [(0,.box 100 [.ls 3 (cs.map eCrs),.ls 1 (st.map eInt),.sl 1,.sl 2]),(1,.rwo 45 6 EV n 5 (.sl 8)),(2,.rwo 43 1 FR n 0 (.sl 9)),(8,.row 48 5 SS),(9,.row 48 5 FF),
    (11,.row 48 5 (SS++[[.sc (.int .i64 c),.sc (.int .i64 f),.sc (.int .i64 x3),.sc (.int .i64 x4),.sc (.int .i64 x5)]])),(13,.row 48 5 (FF++[[.sc (.int .i64 x1),.sc (.int .i64 x2),.sc (.int .i64 x3),.sc (.int .i64 x4),.sc (.int .i64 x5)]]))],14⟩) (fun _=>0) () trivial (zqt id) fun _ _=>?_
  repeat (first|refine WL.vl rfl (WV.nch rfl rfl) ?_|refine W.gob rfl ?_|refine WL.e1 rfl ?_|refine WL.ixs rfl rfl zqs ?_)
  refine (?_:WL _ _ _ _ _ _)
  refine WL.ldQ rfl rfl rfl rfl he (by show 5 < 6;omega) ?_
  repeat (first|refine WL.vl rfl (WV.nch rfl rfl) ?_|refine W.gob rfl ?_|refine WL.nil ?_|refine WL.bf rfl rfl rfl zqo ?_|refine WL.e1 rfl ?_|refine WL.len rfl rfl zql ?_|refine WL.ixs rfl rfl zqs ?_|refine W.condF rfl ?_)
  refine (?_:WL _ _ _ _ _ _)
  refine WL.stR rfl rfl rfl rfl rfl rfl he (by show 5 < 6;omega) ?_
  refine WL.tr (Tr.close_ 1 rfl rfl rfl he (by show 5 < 6;omega) hcE) ?_
  dsimp only [St.upd,St.drop,rem,cond,Nat.beq]
  repeat (first|refine WL.vl rfl (WV.nch rfl rfl) ?_|refine W.gob rfl ?_|refine WL.nil ?_|refine WL.e1 rfl ?_|refine WL.ixs rfl rfl zqs ?_)
  refine (?_:WL _ _ _ _ _ _)
  refine WL.stR rfl rfl rfl rfl rfl rfl hf (by show 0 < 1;omega) ?_
  refine WL.tr (Tr.close_ 2 rfl rfl rfl hf (by show 0 < 1;omega) hcF) ?_
  dsimp only [St.upd,St.drop,rem,cond,Nat.beq]
  repeat refine WL.nil ?_
  exact finTrL (σ':=⟨[],[(0,.box 100 [.ls 3 (cs.map eCrs),.ls 1 (st.map eInt),.sl 1,.sl 2]),(1,.rwn 45 6 (EV.set n (eEvO ⟨b,v,dt,th,ti,S++[(c,f,x3,x4,x5)]⟩))),(2,.rwn 43 1 (FR.set n (eFr (fs++[(x1,x2,x3,x4,x5)]))))],3⟩) (zqt (fun q=>q)) (finMuL rfl rfl rfl rfl rfl)
end
end Go.Proofs.YtaeelcfjkhfpkaaGreat
