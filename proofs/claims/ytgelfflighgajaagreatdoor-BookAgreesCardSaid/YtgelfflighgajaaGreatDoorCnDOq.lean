/- The reading of the majority, program: Consensus. -/
import Derived.Test.YtgelfflighgajaaGreatDoorRCnPOq
set_option maxHeartbeats 8000000
set_option maxRecDepth 100000
set_option linter.unusedVariables false
set_option linter.unusedSimpArgs false
namespace Go.Proofs.YtgelfflighgajaaGreatDoor
open Go.RowKit
theorem z5i {z:Int} (h:I64 z:=by unfold I64;omega):I64 z:=h
theorem pConsensus_FS (b:Pce) (os:List Pce) (hOb:PcOk b) (h60:b.evs.length≤60) (ho:∀ o∈os,PcOk o∧o.evs.length≤60) (hol:os.length≤100) :
  Ctr Tryz.prog 38 [ePce b,.ls 3 (os.map eP3)] (.tu [ePce (cnP b os),.sc (.int .i64 (cnX b os))]):=by
 have hC:=pCheck_FS b hOb
 have hOl:(os.map eP3).length=os.length:=List.length_map _
 have hOa:∀ k (h:k < os.length),(os.map eP3)[((k:Nat):Int).toNat]?=some (eP3 os[k]):=fun k h=>map_at h
 obtain ⟨OS,hOS⟩:∃ z,os.map eP3=z:=⟨_,rfl⟩
 rw [hOS] at hOl hOa ⊢
 clear hOS
 by_cases h0:pceE b=0
 rotate_left
 ·obtain ⟨e1,e2⟩:=cn_1 (os:=os) h0
  rw [e1,e2]
  obtain ⟨E,hE⟩:∃ E,pceE b=E:=⟨_,rfl⟩
  rw [hE] at hC h0 ⊢
  refine zqe Tryz.func38 Tryz.ntmps38 fun w0 F0=>?_;dsimp only [St.init,number,Nat.reduceAdd]
  repeat refine W.go rfl ?_
  refine (?_:WL _ _ _ _ _ _)
  dsimp only [St.put,Nat.reduceAdd]
  refine WL.vl rfl (zqc Tryz.func52 hC) ?_
  repeat (first|refine W.gob rfl ?_|refine WL.nil ?_|refine WL.nt rfl rfl rfl zqo ?_|refine WL.e1 rfl ?_|refine W.condT rfl ?_)
  refine (?_:W _ _ _ _ _)
  dsimp only [St.put,Nat.reduceAdd]
  refine W.tr (Tr.nilC 1 0 3 rfl rfl rfl) ?_
  refine W.tr (Tr.nilC 1 1 1 rfl rfl rfl) ?_
  refine W.tr (Tr.nilC 1 2 6 rfl rfl rfl) ?_
  exact W.ret (finN rfl rfl rfl rfl)
 rw [h0] at hC
 by_cases h64:64 < os.length
 ·obtain ⟨e1,e2⟩:=cn_2 h0 h64
  rw [e1,e2]
  refine zqe Tryz.func38 Tryz.ntmps38 fun w0 F0=>?_;dsimp only [St.init,number,Nat.reduceAdd]
  repeat refine W.go rfl ?_
  refine (?_:WL _ _ _ _ _ _)
  dsimp only [St.put,Nat.reduceAdd]
  refine WL.vl rfl (zqc Tryz.func52 hC) ?_
  repeat (first|refine W.gob rfl ?_|refine WL.nil ?_|refine WL.bt rfl rfl rfl zqo ?_|refine WL.nf rfl rfl rfl zqo ?_|refine WL.e1 rfl ?_|refine WL.len rfl rfl zql ?_|refine W.condT rfl ?_|refine W.condF rfl ?_)
  refine (?_:W _ _ _ _ _)
  dsimp only [St.put,Nat.reduceAdd]
  refine W.tr (Tr.nilC 1 0 3 rfl rfl rfl) ?_
  refine W.tr (Tr.nilC 1 1 1 rfl rfl rfl) ?_
  refine W.tr (Tr.nilC 1 2 6 rfl rfl rfl) ?_
  exact W.ret (finN rfl rfl rfl rfl)
 have hPl:=pPlain_FS b hOb
 have epl:plP b=⟨b.cs,b.st,plE b⟩:=if_pos h0
 rw [epl,h0] at hPl
 have hla:=plE_length b
 have ha2:=plE_20 hOb
 have hVO:=vtB_ok (os:=os) ha2 zqo ho
 have hres:(∀ i (h:i < os.length),cllX b os[i]=0)→cnX b os=0∧cnP b os=⟨b.cs,b.st,stl (cnK (vtB (plE b) os os.length) os.length (plE b).length)⟩:=fun h=>by
  rw [vtB_all,hla];exact cn_4 h0 h64 h
 have hAL:∀ k (h:k < os.length),Ctr Tryz.prog 63 [.ls 6 ((plE b).map eEv),.ls 6 ((plE os[k]).map eEv)] (.tu [.ls 2 ((prsA (plE b) (plE os[k])).map ePr),.sc (.int .i64 (csA (plE b) (plE os[k]) 0 0))]):=fun k h=>by
  obtain ⟨q1,q2⟩:=ho _ (List.getElem_mem h)
  exact pAlign_FS (plE b) (plE os[k]) (by rw [plE_length];omega) (by rw [plE_length];omega) ha2 (plE_20 q1)
 obtain ⟨PA,hPA⟩:∃ z,plE b=z:=⟨_,rfl⟩
 rw [hPA] at hPl hla ha2 hVO hres hAL
 have hPAl:PA.length≤60:=by omega
 have hol2:os.length≤64:=by omega
 clear h64 hol
 refine zqe Tryz.func38 Tryz.ntmps38 fun w0 F0=>?_;dsimp only [St.init,number,Nat.reduceAdd]
 repeat refine W.go rfl ?_
 refine (?_:WL _ _ _ _ _ _)
 dsimp only [St.put,Nat.reduceAdd]
 refine WL.vl rfl (zqc Tryz.func52 hC) ?_
 repeat (first|refine W.gob rfl ?_|refine WL.nil ?_|refine WL.bf rfl rfl rfl zqo ?_|refine WL.nf rfl rfl rfl zqo ?_|refine WL.e1 rfl ?_|refine WL.len rfl rfl zql ?_|refine W.condF rfl ?_)
 refine (?_:WL _ _ _ _ _ _)
 dsimp only [St.put,Nat.reduceAdd]
 refine WL.vl rfl (zqc Tryz.func40 hPl) ?_
 repeat (first|refine W.gob rfl ?_|refine WL.nil ?_|refine WL.nf rfl rfl rfl zqo ?_|refine WL.e1 rfl ?_|refine WL.len rfl rfl zql ?_|refine W.condF rfl ?_)
 refine (?_:WL _ _ _ _ _ _)
 dsimp only [St.put,Nat.reduceAdd]
 refine WL.mks (x:=⟨142,.slice none 0 0,PA.length,PA.length⟩) rfl rfl rfl (show ((PA.length:Nat):Int).toNat=PA.length by simp) ⟨by show 0≤((PA.length:Nat):Int);omega,by show ((PA.length:Nat):Int)≤1000000;omega⟩ ?_
 refine WL.tr (Tr.nilOw 3 144 7 rfl) ?_
 dsimp only [St.upd]
 rw [← nil_rows,← V1_0]
 repeat (first|refine W.gob rfl ?_|refine WL.nil ?_|refine WL.e1 rfl ?_|refine WL.len rfl rfl zql ?_)
 refine (?_:WL _ _ _ _ _ _)
 dsimp only [St.put,Nat.reduceAdd]
 refine WL.mks (x:=⟨3,.int .i64 0,PA.length,PA.length⟩) rfl rfl rfl (show ((PA.length:Nat):Int).toNat=PA.length by simp) ⟨by show 0≤((PA.length:Nat):Int);omega,by show ((PA.length:Nat):Int)≤1000000;omega⟩ ?_
 dsimp only
 rw [← zero_rows]
 repeat (first|refine W.gob rfl ?_|refine WL.nil ?_|refine WL.e1 rfl ?_)
 refine (?_:WL _ _ _ _ _ _)
 dsimp only [St.put,Nat.reduceAdd]
 refine WL.vl rfl (WV.mkf rfl rfl) ?_
 repeat (first|refine W.gob rfl ?_|refine WL.nil ?_|refine WL.e1 rfl ?_|refine WL.len rfl rfl zql ?_)
 refine (?_:W _ _ _ _ _)
 dsimp only [St.put,Nat.reduceAdd]
 refine W.loop (fun k:Nat=>k≤PA.length) (fun k=>⟨[(1,.ls 3 OS),(2,.pt 0 0 0),(4,.pt 1 0 0),(7,.pt 2 0 0),(9,.pt 4 0 0),(10,.sl 5),(11,.fn 80 [.pt 4 0 0]),(54,.ls 6 (PA.map eEv)),(55,.sc (.int .i64 PA.length)),(56,.sc (.int .i64 k))],[(0,.box 28 [.ls 3 (b.cs.map eCrs),.ls 1 (b.st.map eInt),.ls 6 (b.evs.map eEv)]),(1,.box 28 [.sc (.slice none 0 0),.sc (.slice none 0 0),.sc (.slice none 0 0)]),(2,.box 28 [.ls 3 (b.cs.map eCrs),.ls 1 (b.st.map eInt),.ls 6 (PA.map eEv)]),(3,.rwn 142 1 ((V1 PA k).map eVL)),(4,.box 140 [.sl 3]),(5,.row 3 1 ((PA.map fun _=>(0:Int)).map eInt))],6⟩) (fun k=>PA.length - k) 0 (by omega) (zqt id) fun k hk=>?_
 by_cases hlt:k < PA.length
 ·have hVl:=V1_len hk
  have hki:k < (V1 PA k).length:=by omega
  have hcast:=cast_G (V1 PA k) k PA[k] hki (by omega) (by rw [V1_at hlt hki];simp) (by rw [V1_at hlt hki];intro v hv;cases hv) (ha2 _ (List.getElem_mem hlt))
  rw [V1_set hlt hki] at hcast
  repeat (first|refine W.gob rfl ?_|refine WL.nil ?_|refine WL.bt rfl rfl rfl zqo ?_|refine WL.e1 rfl ?_|refine WL.idx rfl rfl zqo zqm ?_|refine W.condT rfl ?_)
  refine (?_:WL _ _ _ _ _ _)
  dsimp only [St.put,Nat.reduceAdd]
  refine WL.cto (truH _) [4,3] rfl rfl (callF Tryz.func80 rfl rfl) hcast rfl rfl rfl ⟨⟨rfl,rfl,rfl⟩,⟨rfl,rfl,rfl⟩,trivial⟩ rfl rfl rfl rfl ?_
  repeat (first|refine W.gob rfl ?_|refine WL.nil ?_|refine WL.e1 rfl ?_|refine WL.ar rfl rfl z5i ?_)
  dsimp only [St.put,Nat.reduceAdd]
  exact ⟨k+1,by omega,by omega,(zqt id)⟩
 obtain rfl:k=PA.length:=by omega
 rw [V1_all]
 repeat (first|refine W.gob rfl ?_|refine WL.nil ?_|refine WL.bf rfl rfl rfl zqo ?_|refine WL.e1 rfl ?_|refine WL.len rfl rfl zql ?_|refine W.condF rfl ?_)
 refine (?_:W _ _ _ _ _)
 dsimp only [St.put,Nat.reduceAdd]
 refine W.loop (fun s:Nat×VS=>s.1≤os.length∧s.2=vtB PA os s.1∧∀ i (h:i < os.length),i < s.1→cllX b os[i]=0) (fun s=>⟨[(1,.ls 3 OS),(2,.pt 0 0 0),(4,.pt 1 0 0),(7,.pt 2 0 0),(9,.pt 4 0 0),(10,.sl 5),(11,.fn 80 [.pt 4 0 0]),(66,.ls 3 OS),(67,.sc (.int .i64 OS.length)),(68,.sc (.int .i64 s.1))],[(0,.box 28 [.ls 3 (b.cs.map eCrs),.ls 1 (b.st.map eInt),.ls 6 (b.evs.map eEv)]),(1,.box 28 [.sc (.slice none 0 0),.sc (.slice none 0 0),.sc (.slice none 0 0)]),(2,.box 28 [.ls 3 (b.cs.map eCrs),.ls 1 (b.st.map eInt),.ls 6 (PA.map eEv)]),(3,.rwn 142 1 (s.2.1.map eVL)),(4,.box 140 [.sl 3]),(5,.row 3 1 (s.2.2.map eInt))],6⟩) (fun s=>os.length - s.1) (0,vt0 PA) ⟨by simp,rfl,fun i _ h=>absurd h (Nat.not_lt_zero i)⟩ (zqt id) fun s hs=>?_
 obtain ⟨k,V,A⟩:=s
 obtain ⟨hk,hVA,hOk⟩:=hs
 dsimp only at hk hVA hOk ⊢
 have hvo:=hVO k hk
 rw [← hVA] at hvo
 obtain ⟨l1,l2,hne,hev,hab⟩:=hvo
 dsimp only at l1 l2 hne hev hab
 by_cases hlt:k < os.length
 ·obtain ⟨q1,q2⟩:=ho _ (List.getElem_mem hlt)
  have hBo:=both_FS b os[k] hOb q1
  have hOk1:=hOa k hlt
  by_cases hx:cllX b os[k]=0
  rotate_left
  ·obtain ⟨e1,e2⟩:=cn_3 (b:=b) (os:=os) h0 zqo hlt (fun i hi=>hOk i zqo hi) hx
   rw [e1,e2]
   obtain ⟨O,hO⟩:∃ z,os[k]=z:=⟨_,rfl⟩
   rw [hO] at hBo hOk1 hx ⊢
   obtain ⟨X,hX⟩:∃ z,cllX b O=z:=⟨_,rfl⟩
   obtain ⟨Y,hY⟩:∃ z,cllA b O=z:=⟨_,rfl⟩
   obtain ⟨Z,hZ⟩:∃ z,cllB b O=z:=⟨_,rfl⟩
   rw [hX] at hx ⊢
   rw [hX,hY,hZ] at hBo
   clear hVO hres hAL
   repeat (first|refine W.gob rfl ?_|refine WL.nil ?_|refine WL.bt rfl rfl rfl zqo ?_|refine W.condT rfl ?_)
   refine (?_:WL _ _ _ _ _ _)
   dsimp only [St.put,Nat.reduceAdd]
   refine WL.idx rfl rfl zqo hOk1 ?_
   repeat (first|refine W.gob rfl ?_|refine WL.nil ?_|refine WL.e1 rfl ?_)
   refine (?_:WL _ _ _ _ _ _)
   dsimp only [St.put,Nat.reduceAdd]
   refine WL.vl rfl (zqc Tryz.func62 hBo) ?_
   repeat (first|refine W.gob rfl ?_|refine WL.nil ?_|refine WL.nt rfl rfl rfl zqo ?_|refine WL.e1 rfl ?_|refine W.condT rfl ?_)
   refine (?_:W _ _ _ _ _)
   dsimp only [St.put,Nat.reduceAdd]
   refine W.tr (Tr.nilC 1 0 3 rfl rfl rfl) ?_
   refine W.tr (Tr.nilC 1 1 1 rfl rfl rfl) ?_
   refine W.tr (Tr.nilC 1 2 6 rfl rfl rfl) ?_
   exact W.ret (finN rfl rfl rfl rfl)
  have e3:cllA b os[k]=⟨b.cs,b.st,plE b⟩:=if_pos hx
  have e4:cllB b os[k]=⟨os[k].cs,os[k].st,plE os[k]⟩:=if_pos hx
  rw [e3,e4,hx,hPA] at hBo
  have hAl:=hAL k hlt
  have hnext:vtB PA os (k+1)=vtL PA (plE os[k]) (V,A):=by rw [vtB_s hlt,hVA]
  have hOk':∀ i (h:i < os.length),i < k+1→cllX b os[i]=0:=fun i h hi=>by
   by_cases e:i=k
   ·subst e;exact hx
   ·exact hOk i h zqo
  have hform:=prs_form (show Aln PA (plE os[k]) 0 0 (prsA PA (plE os[k])) from prs_aln (a:=PA) (b:=plE os[k]) (PA.length+(plE os[k]).length) 0 0 (Nat.zero_le _) (Nat.zero_le _) zqo)
  have hPl2:(prsA PA (plE os[k])).length≤120:=by
   have:=prs_len' (a:=PA) (b:=plE os[k]) (PA.length+(plE os[k]).length) 0 0
   have e:=plE_length os[k]
   unfold prsA;omega
  have hb2:=plE_20 q1
  have hnx:vtL PA (plE os[k]) (V,A)=(prsA PA (plE os[k])).foldl (vtP (plE os[k])) (V,A):=rfl
  rw [hnx] at hnext
  have hvo2:VtOk PA.length (1+120*k) (V,A):=⟨l1,l2,hne,hev,hab⟩
  have hfold:∀ j,VtOk PA.length (1+120*k+120) (((prsA PA (plE os[k])).take j).foldl (vtP (plE os[k])) (V,A)):=fun j=>by
   have h:=vtOk_F hb2 (P:=(prsA PA (plE os[k])).take j) zqo hvo2
   have hl:((prsA PA (plE os[k])).take j).length≤120:=by rw [List.length_take];omega
   exact vtOk_up h zqo
  obtain ⟨O,hO⟩:∃ z,os[k]=z:=⟨_,rfl⟩
  rw [hO] at hBo hOk1 hAl hnext hform hPl2 hb2 hfold
  clear hnx e3 e4
  obtain ⟨PB,hPB⟩:∃ z,plE O=z:=⟨_,rfl⟩
  rw [hPB] at hBo hAl hnext hform hPl2 hb2 hfold
  obtain ⟨PL,hPL⟩:∃ z,prsA PA PB=z:=⟨_,rfl⟩
  obtain ⟨cost,hcost⟩:∃ z,csA PA PB 0 0=z:=⟨_,rfl⟩
  rw [hPL] at hAl hnext hform hPl2 hfold
  rw [hcost] at hAl
  have hQl:(PL.map ePr).length=PL.length:=List.length_map _
  have hQ:∀ j (h:j < PL.length),(PL.map ePr)[((j:Nat):Int).toNat]?=some (ePr PL[j]):=fun j h=>map_at h
  obtain ⟨QP,hQP⟩:∃ z,PL.map ePr=z:=⟨_,rfl⟩
  rw [hQP] at hAl hQl hQ
  clear hVO hres hAL hQP
  repeat (first|refine W.gob rfl ?_|refine WL.nil ?_|refine WL.bt rfl rfl rfl zqo ?_|refine W.condT rfl ?_)
  refine (?_:WL _ _ _ _ _ _)
  dsimp only [St.put,Nat.reduceAdd]
  refine WL.idx rfl rfl zqo hOk1 ?_
  repeat (first|refine W.gob rfl ?_|refine WL.nil ?_|refine WL.e1 rfl ?_)
  refine (?_:WL _ _ _ _ _ _)
  dsimp only [St.put,Nat.reduceAdd]
  refine WL.vl rfl (zqc Tryz.func62 hBo) ?_
  repeat (first|refine W.gob rfl ?_|refine WL.nil ?_|refine WL.nf rfl rfl rfl zqo ?_|refine WL.e1 rfl ?_|refine W.condF rfl ?_)
  refine (?_:WL _ _ _ _ _ _)
  dsimp only [St.put,Nat.reduceAdd]
  refine WL.vl rfl (zqc Tryz.func63 hAl) ?_
  repeat (first|refine W.gob rfl ?_|refine WL.nil ?_|refine WL.e1 rfl ?_|refine WL.len rfl rfl zql ?_)
  refine (?_:W _ _ _ _ _)
  dsimp only [St.put,Nat.reduceAdd]
  refine W.loop (fun q:Nat×VS=>q.1≤PL.length∧q.2=(PL.take q.1).foldl (vtP PB) (V,A)) (fun q=>⟨[(1,.ls 3 OS),(2,.pt 0 0 0),(4,.pt 1 0 0),(7,.pt 2 0 0),(9,.pt 4 0 0),(10,.sl 5),(11,.fn 80 [.pt 4 0 0]),(17,.pt 8 0 0),(66,.ls 3 OS),(67,.sc (.int .i64 OS.length)),(68,.sc (.int .i64 k)),(91,.ls 2 QP),(92,.sc (.int .i64 QP.length)),(93,.sc (.int .i64 q.1))],[(0,.box 28 [.ls 3 (b.cs.map eCrs),.ls 1 (b.st.map eInt),.ls 6 (b.evs.map eEv)]),(1,.box 28 [.sc (.slice none 0 0),.sc (.slice none 0 0),.sc (.slice none 0 0)]),(2,.box 28 [.ls 3 (b.cs.map eCrs),.ls 1 (b.st.map eInt),.ls 6 (PA.map eEv)]),(3,.rwn 142 1 (q.2.1.map eVL)),(4,.box 140 [.sl 3]),(5,.row 3 1 (q.2.2.map eInt)),(8,.box 28 [.ls 3 (O.cs.map eCrs),.ls 1 (O.st.map eInt),.ls 6 (PB.map eEv)])],9⟩) (fun q=>PL.length - q.1) (0,V,A) ⟨by simp,rfl⟩ (zqt id) fun q hq=>?_
  obtain ⟨j,V2,A2⟩:=q
  obtain ⟨hj,hVA2⟩:=hq
  dsimp only at hj hVA2 ⊢
  by_cases hjt:j < PL.length
  ·have hvj:=hfold j
   rw [← hVA2] at hvj
   obtain ⟨m1,m2,mne,mev,mab⟩:=hvj
   dsimp only at m1 m2 mne mev mab
   have hqj:=hQ j hjt
   have hst:(PL.take (j+1)).foldl (vtP PB) (V,A)=vtP PB (V2,A2) PL[j]:=by
    rw [List.take_succ_eq_append_getElem hjt,List.foldl_append,← hVA2];rfl
   rcases hform _ (List.getElem_mem hjt) with ⟨i,z,hi,hz,hp⟩|⟨i,hi,hp⟩|⟨z,hz,hp⟩
   ·have hi1:i < V2.length:=by omega
    rw [hp] at hqj hst
    have hst2:=vtP_both (ys:=PB) (s:=(V2,A2)) hi1 hz
    rw [hst2] at hst
    dsimp only at hst
    have hm:=mne _ (List.getElem_mem hi1)
    have hcast:=cast_G V2 i PB[z] hi1 (by omega) (by omega) (fun v hv=>by have:=mev _ (List.getElem_mem hi1) v hv;omega) (hb2 _ (List.getElem_mem hz))
    have hqj:QP[((j:Nat):Int).toNat]?=some [.sc (.int .i64 (i:Int)),.sc (.int .i64 (z:Int))]:=hqj
    clear mne mev mab hne hev hab hfold hst2 hVA2
    repeat (first|refine W.gob rfl ?_|refine WL.nil ?_|refine WL.bt rfl rfl rfl zqo ?_|refine W.condT rfl ?_)
    refine (?_:WL _ _ _ _ _ _)
    dsimp only [St.put,Nat.reduceAdd]
    refine WL.idx rfl rfl zqo hqj ?_
    repeat (first|refine W.gob rfl ?_|refine WL.nil ?_|refine WL.bt rfl rfl rfl zqo ?_|refine WL.e1 rfl ?_|refine WL.gyes rfl rfl rfl rfl ?_|refine W.condT rfl ?_)
    refine (?_:W _ _ _ _ _)
    dsimp only [St.put,Nat.reduceAdd]
    refine W.dm3 [false,false,false,false,false,false,false,false,false,true] [8,9] zqk zqk zqk (by repeat constructor) ?_
    repeat (first|refine DMK.st rfl rfl ?_|refine DMK.idx rfl rfl zqo zqm ?_)
    refine DMK.ct (truH _) [4,3] rfl rfl (callF Tryz.func80 rfl rfl) hcast rfl rfl rfl ⟨⟨rfl,rfl,rfl⟩,⟨rfl,rfl,rfl⟩,trivial⟩ rfl rfl rfl rfl (by repeat constructor) ?_
    repeat refine DMK.nil ?_
    repeat (first|refine W.gob rfl ?_|refine WL.nil ?_|refine WL.e1 rfl ?_|refine WL.ar rfl rfl z5i ?_)
    dsimp only [St.put,Nat.reduceAdd]
    refine ⟨(j+1,V2.set i (cstV V2[i] PB[z]),A2),⟨by show j+1≤_;omega,hst.symm⟩,by show PL.length - (j+1) < PL.length - j;omega,?_⟩
    exact (zqt id)
   ·have hi1:i < A2.length:=by omega
    rw [hp] at hqj hst
    have hst2:=vtP_left (ys:=PB) (s:=(V2,A2)) hi1
    rw [hst2] at hst
    dsimp only at hst
    have hm:=mab _ (List.getElem_mem hi1)
    have hat:(A2.map eInt)[i]?=some (eInt A2[i]):=by rw [List.getElem?_map,List.getElem?_eq_getElem hi1];rfl
    have hput:=int_put hi1
    have hqj:QP[((j:Nat):Int).toNat]?=some [.sc (.int .i64 (i:Int)),.sc (.int .i64 (-1))]:=hqj
    have hA2l:(A2.map eInt).length=A2.length:=List.length_map _
    clear mne mev mab hne hev hab hfold hst2 hVA2
    repeat (first|refine W.gob rfl ?_|refine WL.nil ?_|refine WL.bt rfl rfl rfl zqo ?_|refine W.condT rfl ?_)
    refine (?_:WL _ _ _ _ _ _)
    dsimp only [St.put,Nat.reduceAdd]
    refine WL.idx rfl rfl zqo hqj ?_
    repeat (first|refine W.gob rfl ?_|refine WL.nil ?_|refine WL.bt rfl rfl rfl zqo ?_|refine WL.bf rfl rfl rfl zqo ?_|refine WL.e1 rfl ?_|refine WL.gyes rfl rfl rfl rfl ?_|refine WL.ixs rfl rfl zqs ?_|refine W.condT rfl ?_|refine W.condF rfl ?_)
    refine (?_:WL _ _ _ _ _ _)
    dsimp only [St.put,Nat.reduceAdd]
    refine WL.ldr rfl rfl hat rfl rfl ?_
    repeat (first|refine WL.ar rfl rfl z5i ?_|refine WL.ixs rfl rfl zqs ?_)
    refine (?_:WL _ _ _ _ _ _)
    dsimp only [St.put,Nat.reduceAdd]
    refine WL.sto rfl rfl rfl rfl hat (by show 0+1≤1;omega) ?_
    repeat (first|refine W.gob rfl ?_|refine WL.nil ?_|refine WL.e1 rfl ?_|refine WL.ar rfl rfl z5i ?_)
    dsimp only [St.put,Nat.reduceAdd]
    refine ⟨(j+1,V2,A2.set i (A2[i]+1)),⟨by show j+1≤_;omega,hst.symm⟩,by show PL.length - (j+1) < PL.length - j;omega,?_⟩
    exact (zqu (fun q=>q) (by repeat (first|exact trivial|refine ⟨⟨?_,?_,?_⟩,?_⟩|rfl|exact congrArg (fun q=>some (AO.row _ _ q)) hput)) rfl)
   ·rw [hp] at hqj hst
    rw [vtP_right] at hst
    have hqj:QP[((j:Nat):Int).toNat]?=some [.sc (.int .i64 (-1)),.sc (.int .i64 (z:Int))]:=hqj
    clear mne mev mab hne hev hab hfold hVA2
    repeat (first|refine W.gob rfl ?_|refine WL.nil ?_|refine WL.bt rfl rfl rfl zqo ?_|refine W.condT rfl ?_)
    refine (?_:WL _ _ _ _ _ _)
    dsimp only [St.put,Nat.reduceAdd]
    refine WL.idx rfl rfl zqo hqj ?_
    repeat (first|refine W.gob rfl ?_|refine WL.nil ?_|refine WL.bf rfl rfl rfl zqo ?_|refine WL.e1 rfl ?_|refine WL.opno rfl rfl rfl rfl rfl rfl rfl ?_|refine WL.ar rfl rfl z5i ?_|refine W.condF rfl ?_)
    dsimp only [St.put,Nat.reduceAdd]
    refine ⟨(j+1,V2,A2),⟨by show j+1≤_;omega,hst.symm⟩,by show PL.length - (j+1) < PL.length - j;omega,?_⟩
    exact (zqt id)
  ·obtain rfl:j=PL.length:=by omega
   rw [List.take_length,← hnext] at hVA2
   repeat (first|refine W.gob rfl ?_|refine WL.nil ?_|refine WL.bf rfl rfl rfl zqo ?_|refine WL.e1 rfl ?_|refine WL.ar rfl rfl z5i ?_|refine W.condF rfl ?_)
   dsimp only [St.put,Nat.reduceAdd]
   refine ⟨(k+1,V2,A2),⟨by show k+1≤_;omega,hVA2,hOk'⟩,by show os.length - (k+1) < os.length - k;omega,?_⟩
   exact (zqt id)
 obtain rfl:k=os.length:=by omega
 obtain ⟨hr1,hr2⟩:=hres fun i h=>hOk i h h
 rw [← hVA] at hr2
 rw [hr1,hr2]
 have hck:∀ k,k≤PA.length→∀ e∈cnK (V,A) os.length k,e.stops.length≤20:=fun k h=>cnK_20 (m:=os.length) (show VtOk PA.length (1+120*os.length) (V,A) from ⟨l1,l2,hne,hev,hab⟩) k h
 have hcl:∀ k,(cnK (V,A) os.length k).length≤k:=fun k=>cnK_len k
 have hml:(V.map eVL).length=V.length:=List.length_map _
 have hal:(A.map eInt).length=A.length:=List.length_map _
 clear hVO hAL hres hVA
 repeat (first|refine W.gob rfl ?_|refine WL.nil ?_|refine WL.bf rfl rfl rfl zqo ?_|refine WL.e1 rfl ?_|refine WL.len rfl rfl zql ?_|refine W.condF rfl ?_)
 refine (?_:W _ _ _ _ _)
 dsimp only [St.put,Nat.reduceAdd]
 refine W.tr (Tr.nilBox (k:=6) (j:=2) 36 6 rfl rfl rfl rfl) ?_
 dsimp only [St.put,St.new,St.upd,Nat.reduceAdd]
 refine (?_:W _ _ _ _ _)
 refine W.loop (fun k:Nat=>k≤PA.length) (fun k=>⟨[(1,.ls 3 OS),(4,.pt 1 0 0),(9,.pt 4 0 0),(10,.sl 5),(23,.pt 6 0 0),(133,.sc (.int .i64 V.length)),(134,.sc (.int .i64 k))],[(1,.box 28 [.sc (.slice none 0 0),.sc (.slice none 0 0),.sc (.slice none 0 0)]),(3,.rwn 142 1 (V.map eVL)),(4,.box 140 [.sl 3]),(5,.row 3 1 (A.map eInt)),(6,.box 28 [.ls 3 (b.cs.map eCrs),.ls 1 (b.st.map eInt),.sl 7]),(7,.row 36 6 ((cnK (V,A) os.length k).map eEv))],8⟩) (fun k=>PA.length - k) 0 (by omega) (zqu (fun q=>q) (by repeat (first|exact trivial|refine ⟨⟨?_,?_,?_⟩,?_⟩|rfl|exact congrArg (fun q=>some (AO.row _ _ q)) rfl)) rfl) fun k hk=>?_
 by_cases hlt:k < PA.length
 ·have hkV:k < V.length:=by omega
  have hkA:k < A.length:=by omega
  have hat:=eVL_at hkV
  have haa:(A.map eInt)[k]?=some (eInt A[k]):=by rw [List.getElem?_map,List.getElem?_eq_getElem hkA];rfl
  have hc:=cnK_s (m:=os.length) hkV hkA
  have hab1:=hab _ (List.getElem_mem hkA)
  have hne1:=hne _ (List.getElem_mem hkV)
  have hev1:=hev _ (List.getElem_mem hkV)
  have hW:=winner_G V[k] zqo zqo (fun v hv=>by have:=hev1 v hv;omega)
  have hcl1:=hcl k
  have hmc:((cnK (V,A) os.length k).map eEv).length=(cnK (V,A) os.length k).length:=List.length_map _
  have hclo:(V.map eVL).set k ((eVL V[k]).set 0 (.ow 144 7 (V[k].map eVt)))=V.map eVL:=by
   have:=eVL_set (V:=V) (i:=k) (l0:=V[k]) V[k]
   rw [this,List.set_getElem_self]
  by_cases hkp:A[k]≤(os.length:Int)+1 - A[k]
  ·rw [if_pos hkp] at hc
   have hmap:(cnK (V,A) os.length k).map eEv++[eEv (winV V[k])]=(cnK (V,A) os.length (k+1)).map eEv:=by rw [hc,List.map_append];rfl
   clear hne hev hab hev1 hck hcl
   repeat (first|refine W.gob rfl ?_|refine WL.nil ?_|refine WL.bt rfl rfl rfl zqo ?_|refine WL.e1 rfl ?_|refine W.condT rfl ?_)
   refine (?_:W _ _ _ _ _)
   dsimp only [St.put,Nat.reduceAdd]
   refine W.drawK zqk zqk ?_
   repeat (first|refine DK.st rfl ?_|refine DK.ixs rfl rfl zqs ?_)
   refine DK.ldr rfl rfl haa rfl rfl ?_
   repeat (first|refine DK.st rfl ?_|refine DK.ar rfl rfl z5i ?_|refine DK.len rfl rfl zql ?_|refine DK.ixs rfl rfl zqs ?_)
   refine DK.ldr rfl rfl haa rfl rfl ?_
   repeat (first|refine DK.bt rfl rfl zqo ?_|refine DK.ar rfl rfl z5i ?_|refine DK.nil ?_)
   repeat refine W.condT rfl ?_
   refine (?_:W _ _ _ _ _)
   dsimp only [St.put,Nat.reduceAdd]
   refine W.tr (Tr.open_ 3 k 0 rfl hat rfl (eVt_own _) rfl) ?_
   dsimp only [St.upd,St.new,Nat.reduceAdd]
   refine W.of_wa zqk ?_
   refine WA.dt [false,false,false,false,false,false,true,true,true,false,true] [4,3] [4,3,6] 10 zqk zqk zqk ⟨rfl,rfl,trivial⟩ ⟨rfl,rfl,rfl,trivial⟩ ?_
   refine DTK.st rfl zqk rfl ?_
   refine DTK.st rfl zqk rfl ?_
   refine DTK.st rfl zqk rfl ?_
   refine DTK.st rfl zqk rfl ?_
   refine DTK.ixs rfl zqk rfl ⟨by omega,by omega⟩ ?_
   refine DTK.ldQ rfl zqk rfl rfl rfl hat (by show 0 < 1;omega) ?_
   refine DTK.ct (truH _) [8] rfl rfl (callF Tryz.func83 rfl rfl) hW rfl rfl rfl ⟨⟨rfl,rfl,rfl⟩,trivial⟩ rfl rfl rfl rfl ⟨rfl,rfl,trivial⟩ (fun _=>⟨rfl,rfl,rfl,trivial⟩) ?_
   refine DTK.bd rfl rfl rfl ⟨rfl,rfl,trivial⟩ (fun _=>⟨rfl,rfl,rfl,trivial⟩) ?_
   refine DTK.ap rfl rfl (by show ((cnK (V,A) os.length k).map eEv).length+1≤1000000000;omega) ⟨rfl,rfl,trivial⟩ (fun _=>⟨rfl,rfl,rfl,trivial⟩) ?_
   refine DTK.st rfl zqk rfl ?_
   refine DTK.sto rfl rfl rfl rfl rfl rfl rfl rfl rfl rfl rfl rfl rfl rfl ⟨rfl,rfl,trivial⟩ (fun h=>by cases h) ?_
   refine DTK.nil ?_
   refine W.tr (Tr.close_ 3 rfl rfl rfl hat (by show 0 < 1;omega) hclo) ?_
   dsimp only [St.upd,St.drop,rem,cond,Nat.beq]
   repeat (first|refine W.gob rfl ?_|refine WL.nil ?_|refine WL.e1 rfl ?_|refine WL.ar rfl rfl z5i ?_)
   dsimp only [St.put,Nat.reduceAdd]
   refine ⟨k+1,by omega,by omega,?_⟩
   exact (zqu (fun q=>bif Nat.beq q 7 then 11 else q) (by repeat (first|exact trivial|refine ⟨⟨?_,?_,?_⟩,?_⟩|rfl|exact congrArg (fun q=>some (AO.row _ _ q)) hmap)) rfl)
  ·rw [if_neg hkp] at hc
   clear hne hev hab hev1 hck hcl
   repeat (first|refine W.gob rfl ?_|refine WL.nil ?_|refine WL.bt rfl rfl rfl zqo ?_|refine WL.e1 rfl ?_|refine W.condT rfl ?_)
   refine (?_:W _ _ _ _ _)
   dsimp only [St.put,Nat.reduceAdd]
   refine W.drawK zqk zqk ?_
   repeat (first|refine DK.st rfl ?_|refine DK.ixs rfl rfl zqs ?_)
   refine DK.ldr rfl rfl haa rfl rfl ?_
   repeat (first|refine DK.st rfl ?_|refine DK.ar rfl rfl z5i ?_|refine DK.len rfl rfl zql ?_|refine DK.ixs rfl rfl zqs ?_)
   refine DK.ldr rfl rfl haa rfl rfl ?_
   repeat (first|refine DK.bf rfl rfl zqo ?_|refine DK.ar rfl rfl z5i ?_|refine DK.nil ?_)
   repeat (first|refine W.gob rfl ?_|refine WL.nil ?_|refine WL.e1 rfl ?_|refine WL.ar rfl rfl z5i ?_|refine W.condF rfl ?_)
   dsimp only [St.put,Nat.reduceAdd]
   refine ⟨k+1,by omega,by omega,?_⟩
   rw [hc]
   exact (zqt id)
 obtain rfl:k=PA.length:=by omega
 have hl1:=hcl PA.length
 have hSt:=settle_G b.cs b.st (cnK (V,A) os.length PA.length) hOb.n1 hOb.n2 zqo (hck _ (Nat.le_refl _))
 obtain ⟨L,hL⟩:∃ z,cnK (V,A) os.length PA.length=z:=⟨_,rfl⟩
 rw [hL] at hSt ⊢
 clear hne hev hab hck hcl
 repeat (first|refine W.gob rfl ?_|refine WL.nil ?_|refine WL.bf rfl rfl rfl zqo ?_|refine WL.e1 rfl ?_|refine W.condF rfl ?_)
 refine (?_:WL _ _ _ _ _ _)
 dsimp only [St.put,Nat.reduceAdd]
 refine WL.cto (truH _) [7] rfl rfl (callF Tryz.func84 rfl rfl) hSt rfl rfl rfl ⟨⟨rfl,rfl,rfl⟩,trivial⟩ rfl rfl rfl rfl ?_
 repeat (first|refine W.gob rfl ?_|refine WL.nil ?_|refine WL.e1 rfl ?_)
 refine (?_:W _ _ _ _ _)
 dsimp only [St.put,Nat.reduceAdd]
 refine W.tr (Tr.freezeW 7 1 rfl (List.all_eq_true.2 fun r hr=>List.all_eq_true.2 (eEvO_shal _ r hr)) (eEvO_rows _)) ?_
 exact W.ret (finN rfl rfl rfl rfl)
end Go.Proofs.YtgelfflighgajaaGreatDoor
