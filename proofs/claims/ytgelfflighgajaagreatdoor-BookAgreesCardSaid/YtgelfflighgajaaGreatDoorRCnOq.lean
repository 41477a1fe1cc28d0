/- The reading of the majority, the reference: Consensus. -/
import Derived.Test.YtgelfflighgajaaGreatDoorRCnPOq
import Derived.Test.YtgelfflighgajaaGreatDoorRClOq
set_option maxHeartbeats 8000000
set_option maxRecDepth 100000
set_option linter.unusedVariables false
set_option linter.unusedSimpArgs false
namespace Go.Proofs.YtgelfflighgajaaGreatDoor
section
open Go.RowKit
theorem z39i {z:Int} (h:I64 z:=by unfold I64;omega):I64 z:=h
theorem rCopyOO_FS (p:Pce) (hO:PcOk p):Cto truB 0 Tryz.prog 17 [ePce p] [] 0 (.ag [.ls 3 (p.cs.map eCrs),.ls 1 (p.st.map eInt),.sl 0])
  [(0,.rwn 36 6 (p.evs.map eEvO)),(1,.box 28 [.ls 3 (p.cs.map eCrs),.ls 1 (p.st.map eInt),.sl 0])] 2:=by
 have hn3:=hO.n3
 refine Cto.intro truS Tryz.func17 rfl Tryz.ntmps17 (Nat.le_of_ble_eq_true rfl) rfl fun w0 F0 fp pg hB=>?_
 dsimp only [number,Nat.reduceAdd]
 repeat refine W.go rfl ?_
 refine (?_:WL _ _ _ _ _ _)
 dsimp only [St.put,Nat.reduceAdd]
 refine WL.vl rfl (WV.call rfl (callF Tryz.func53 rfl rfl) rfl rfl (insCopy_FS p.cs p.st hO.n1 hO.n2)) ?_
 repeat (first|refine W.go rfl ?_|refine WL.ev rfl ?_)
 refine (?_:W _ _ _ _ _)
 dsimp only [St.put,Nat.reduceAdd]
 refine W.tr (Tr.nilBox (k:=2) (j:=2) 36 6 rfl rfl rfl rfl) ?_
 dsimp only [St.put,St.new,St.upd,Nat.reduceAdd]
 refine W.tr (Tr.widen 3 rfl) ?_
 dsimp only [St.upd]
 refine W.loop (fun k:Nat=>k≤p.evs.length) (fun k=>⟨[(1,.pt 0 0 0),(2,.pt 1 0 0),(3,.pt 2 0 0),(4,.sc (.int .i64 k))],[(0,.box 28 [.ls 3 (p.cs.map eCrs),.ls 1 (p.st.map eInt),.ls 6 (p.evs.map eEv)]),(1,.box 28 [.sc (.slice none 0 0),.sc (.slice none 0 0),.sc (.slice none 0 0)]),(2,.box 28 [.ls 3 (p.cs.map eCrs),.ls 1 (p.st.map eInt),.sl 3]),(3,.rwn 36 6 ((p.evs.take k).map eEvO))],4⟩) (fun k=>p.evs.length - k) 0 (by omega) (zqt id) fun k hk=>?_
 by_cases hk2:k < p.evs.length
 ·have h20:=hO.n4 k hk2
  have hml:((p.evs.take k).map eEvO).length=k:=by rw [List.length_map,List.length_take];omega
  have hmm:(p.evs.take k).map eEvO++[eEvO p.evs[k]]=(p.evs.take (k+1)).map eEvO:=by rw [List.take_succ_eq_append_getElem hk2,List.map_append];rfl
  repeat (first|refine W.gob rfl ?_|refine WL.nil ?_|refine WL.bt rfl rfl rfl zqo ?_|refine WL.e1 rfl ?_|refine WL.len rfl rfl zql ?_|refine WL.idx rfl rfl zqo zqm ?_|refine WL.app rfl rfl rfl zqs ?_|refine W.condT rfl ?_)
  refine (?_:WL _ _ _ _ _ _)
  dsimp only [St.put,Nat.reduceAdd]
  refine WL.bdO 5 rfl rfl rfl rfl ?_
  refine WL.tr (Tr.close_ 7 rfl rfl rfl rfl (by show 5 < 6;omega) rfl) ?_
  dsimp only [St.upd,St.drop,rem,cond,Nat.beq]
  refine WL.apM rfl rfl rfl rfl (by show ((p.evs.take k).map eEvO).length+1≤1000000000;omega) ?_
  repeat (first|refine W.go rfl ?_|refine WL.ev rfl ?_|refine WL.ar rfl rfl z39i ?_)
  dsimp only [St.put,Nat.reduceAdd]
  exact ⟨k+1,by omega,by omega,(zqu (fun q=>bif Nat.beq q 3 then 8 else q) (by repeat (first|exact trivial|refine ⟨⟨?_,?_,?_⟩,?_⟩|rfl|exact congrArg (fun q=>some (AO.row _ _ q)) hmm|exact congrArg (fun q=>some (AO.rwn _ _ q)) hmm)) rfl)⟩
 ·obtain rfl:k=p.evs.length:=by omega
  rw [List.take_length]
  repeat (first|refine W.gob rfl ?_|refine WL.nil ?_|refine WL.bf rfl rfl rfl zqo ?_|refine WL.e1 rfl ?_|refine WL.len rfl rfl zql ?_|refine W.condF rfl ?_)
  refine (?_:W _ _ _ _ _)
  dsimp only [St.put,Nat.reduceAdd]
  refine W.tr (σ':=⟨[(2,.pt 1 0 0)],[(0,.rwn 36 6 (p.evs.map eEvO)),(1,.box 28 [.ls 3 (p.cs.map eCrs),.ls 1 (p.st.map eInt),.sl 0])],2⟩) (zqu (fun q=>bif Nat.beq q 0 then 3 else q) (by repeat (first|exact trivial|refine ⟨⟨?_,?_,?_⟩,?_⟩|rfl|exact congrArg (fun q=>some (AO.row _ _ q)) (by first|rfl|(simp;done)|(simp [eInt];done)|(simp [eLk];done)))) rfl) ?_
  exact W.ret (finM rfl rfl rfl rfl rfl)
theorem rcast_G (L:List Vt) (e:Ev) (hl:L.length≤100000) (hc:∀ v∈L,v.1.stops.length≤20∧0≤v.2∧v.2≤100000) (he:e.stops.length≤20) :
  Cto truB 0 Tryz.prog 85 [.sl 0,.ag (eEv e)] [(0,.row 151 7 (L.map eVt))] 1 (.sl 1) [(1,.row 151 7 ((cstV L e).map eVt))] 2:=by
 refine Cto.intro truS Tryz.func85 rfl Tryz.ntmps85 (Nat.le_of_ble_eq_true rfl) rfl fun w0 F0 fp pg hB=>?_
 dsimp only [number,Nat.reduceAdd]
 have hLl:(L.map eVt).length=L.length:=List.length_map _
 repeat refine W.go rfl ?_
 refine (?_:W _ _ _ _ _)
 dsimp only [St.put,Nat.reduceAdd]
 refine W.loop (fun k:Nat=>k≤L.length∧∀ i (hi:i < k) (h:i < L.length),evEq L[i].1 e=false) (fun k=>⟨[(0,.sl 0),(3,.pt 1 0 0),(4,.sc (.slice none 0 0)),(5,.sc (.int .i64 k))],[(0,.row 151 7 (L.map eVt)),(1,.box 36 (eEv e))],2⟩) (fun k=>L.length - k) 0 ⟨by omega,fun i hi=>by omega⟩ (zqt id) fun k hk=>?_
 obtain ⟨hk,hno⟩:=hk
 by_cases hlt:k < L.length
 ·have hrow:(L.map eVt)[k]?=some (eVt L[k]):=by rw [List.getElem?_map,List.getElem?_eq_getElem hlt];rfl
  have hck:=hc _ (List.getElem_mem hlt)
  have hE:=rEqual_FS L[k].1 e hck.1 he
  cases hb:evEq L[k].1 e with
  | true =>
   rw [hb] at hE
   have hcv:=cstV_at hlt hb fun i hi=>hno i hi zqo
   have hput:=vt_put hlt
   rw [hcv,← hput]
   repeat (first|refine W.gob rfl ?_|refine WL.nil ?_|refine WL.bt rfl rfl rfl zqo ?_|refine WL.e1 rfl ?_|refine WL.len rfl rfl zql ?_|refine W.condT rfl ?_)
   refine (?_:W _ _ _ _ _)
   dsimp only [St.put,Nat.reduceAdd]
   refine W.drawK zqk zqk ?_
   repeat (first|refine DK.st rfl ?_|refine DK.ixs rfl rfl zqs ?_)
   refine DK.lda rfl rfl hrow rfl ?_
   repeat refine DK.st rfl ?_
   refine DK.vl rfl (zqc Tryz.func55 hE) ?_
   repeat refine DK.nil ?_
   repeat (first|refine W.gob rfl ?_|refine WL.e1 rfl ?_|refine WL.ixs rfl rfl zqs ?_|refine W.condT rfl ?_)
   refine (?_:WL _ _ _ _ _ _)
   dsimp only [St.put,Nat.reduceAdd]
   refine WL.ldr rfl rfl hrow rfl rfl ?_
   repeat (first|refine WL.e1 rfl ?_|refine WL.ar rfl rfl z39i ?_|refine WL.ixs rfl rfl zqs ?_)
   refine (?_:WL _ _ _ _ _ _)
   dsimp only [St.put,Nat.reduceAdd]
   refine WL.sto rfl rfl rfl rfl hrow (by show 6+1≤7;omega) ?_
   repeat (first|refine W.gob rfl ?_|refine WL.nil ?_|refine WL.e1 rfl ?_)
   refine (?_:W _ _ _ _ _)
   dsimp only [St.put,Nat.reduceAdd]
   refine W.tr (Tr.mv (t:=4) rfl rfl) ?_
   refine W.tr (σ':=⟨[(4,.sl 1)],[(1,.row 151 7 ((L.map eVt).set k (putL 6 [.sc (.int .i64 (L[k].2+1))] (eVt L[k]))))],2⟩) (zqu (fun q=>bif Nat.beq q 1 then 2 else q) (by repeat (first|exact trivial|refine ⟨⟨?_,?_,?_⟩,?_⟩|rfl|exact congrArg (fun q=>some (AO.row _ _ q)) (by first|rfl|(simp;done)|(simp [eInt];done)|(simp [eLk];done)))) rfl) ?_
   exact W.ret (finM rfl rfl rfl rfl rfl)
  | false =>
   rw [hb] at hE
   repeat (first|refine W.gob rfl ?_|refine WL.nil ?_|refine WL.bt rfl rfl rfl zqo ?_|refine WL.e1 rfl ?_|refine WL.len rfl rfl zql ?_|refine W.condT rfl ?_)
   refine (?_:W _ _ _ _ _)
   dsimp only [St.put,Nat.reduceAdd]
   refine W.drawK zqk zqk ?_
   repeat (first|refine DK.st rfl ?_|refine DK.ixs rfl rfl zqs ?_)
   refine DK.lda rfl rfl hrow rfl ?_
   repeat refine DK.st rfl ?_
   refine DK.vl rfl (zqc Tryz.func55 hE) ?_
   repeat refine DK.nil ?_
   repeat (first|refine W.gob rfl ?_|refine WL.nil ?_|refine WL.e1 rfl ?_|refine WL.ar rfl rfl z39i ?_|refine W.condF rfl ?_)
   dsimp only [St.put,Nat.reduceAdd]
   exact ⟨k+1,⟨by omega,fun i hi h=>by
    by_cases e:i=k
    ·subst e;exact hb
    ·exact hno i zqo h⟩,by omega,(zqt id)⟩
 ·obtain rfl:k=L.length:=by omega
  have hcv:=cstV_no fun i hi=>hno i hi hi
  have hmm:(L++[(e,1)]).map eVt=L.map eVt++[eVt (e,1)]:=by rw [List.map_append];rfl
  rw [hcv,hmm]
  repeat (first|refine W.gob rfl ?_|refine WL.nil ?_|refine WL.bf rfl rfl rfl zqo ?_|refine WL.e1 rfl ?_|refine WL.len rfl rfl zql ?_|refine WL.app rfl rfl rfl zqs ?_|refine W.condF rfl ?_)
  refine (?_:W _ _ _ _ _)
  dsimp only [St.put,Nat.reduceAdd]
  refine W.tr (σ':=⟨[(4,.sl 1)],[(1,.row 151 7 (L.map eVt++[eVt (e,1)]))],2⟩) (zqu (fun q=>bif Nat.beq q 1 then 3 else q) (by repeat (first|exact trivial|refine ⟨⟨?_,?_,?_⟩,?_⟩|rfl|exact congrArg (fun q=>some (AO.row _ _ q)) (by first|rfl|(simp;done)|(simp [eInt];done)|(simp [eLk];done)))) rfl) ?_
  exact W.ret (finM rfl rfl rfl rfl rfl)
end
section
open Go.RowKit
def rVL (l:List Vt):List AV:=[.ow 151 7 (l.map eVt)]
theorem rVL_at {V:List (List Vt)} {i:Nat} (h:i<V.length):(V.map rVL)[i]?=some (rVL V[i]):=by rw [List.getElem?_map,List.getElem?_eq_getElem h];rfl
theorem rVL_set {V:List (List Vt)} {i:Nat} (l:List Vt) {l0:List Vt}:(V.map rVL).set i ((rVL l0).set 0 (.ow 151 7 (l.map eVt)))=(V.set i l).map rVL:=by rw [List.map_set];rfl
theorem rnil_rows (n:Nat):(List.replicate n ([]:List Vt)).map rVL=List.replicate n [.ow 151 7 []]:=by rw [List.map_replicate];rfl
theorem rConsensus_FS (b:Pce) (os:List Pce) (hOb:PcOk b) (h60:b.evs.length≤60) (ho:∀ o∈os,PcOk o∧o.evs.length≤60) (hol:os.length≤100) :
  Ctr Tryz.prog 39 [ePce b,.ls 3 (os.map eP3)] (.tu [ePce (cnP b os),.sc (.int .i64 (cnX b os))]):=by
 have hPl:=rPlain_FS b hOb
 have hOl:(os.map eP3).length=os.length:=List.length_map _
 have hOa:∀ k (h:k < os.length),(os.map eP3)[((k:Nat):Int).toNat]?=some (eP3 os[k]):=fun k h=>map_at h
 obtain ⟨OS,hOS⟩:∃ z,os.map eP3=z:=⟨_,rfl⟩
 rw [hOS] at hOl hOa ⊢
 clear hOS
 by_cases h0:pceE b=0
 rotate_left
 ·obtain ⟨e1,e2⟩:=cn_1 (os:=os) h0
  have e3:plP b=noP:=if_neg h0
  rw [e1,e2]
  rw [e3] at hPl
  obtain ⟨E,hE⟩:∃ E,pceE b=E:=⟨_,rfl⟩
  rw [hE] at hPl h0 ⊢
  refine zqe Tryz.func39 Tryz.ntmps39 fun w0 F0=>?_;dsimp only [St.init,number,Nat.reduceAdd]
  repeat refine W.go rfl ?_
  refine (?_:WL _ _ _ _ _ _)
  dsimp only [St.put,Nat.reduceAdd]
  refine WL.vl rfl (zqc Tryz.func30 hPl) ?_
  repeat (first|refine W.gob rfl ?_|refine WL.nil ?_|refine WL.nt rfl rfl rfl zqo ?_|refine WL.e1 rfl ?_|refine W.condT rfl ?_)
  refine (?_:W _ _ _ _ _)
  dsimp only [St.put,Nat.reduceAdd]
  refine W.tr (Tr.nilC 1 0 3 rfl rfl rfl) ?_
  refine W.tr (Tr.nilC 1 1 1 rfl rfl rfl) ?_
  refine W.tr (Tr.nilC 1 2 6 rfl rfl rfl) ?_
  exact W.ret (finN rfl rfl rfl rfl)
 have epl:plP b=⟨b.cs,b.st,plE b⟩:=plP_eq h0
 by_cases h64:64 < os.length
 ·obtain ⟨e1,e2⟩:=cn_2 h0 h64
  rw [e1,e2]
  rw [h0] at hPl
  refine zqe Tryz.func39 Tryz.ntmps39 fun w0 F0=>?_;dsimp only [St.init,number,Nat.reduceAdd]
  repeat refine W.go rfl ?_
  refine (?_:WL _ _ _ _ _ _)
  dsimp only [St.put,Nat.reduceAdd]
  refine WL.vl rfl (zqc Tryz.func30 hPl) ?_
  repeat (first|refine W.gob rfl ?_|refine WL.nil ?_|refine WL.bt rfl rfl rfl zqo ?_|refine WL.nf rfl rfl rfl zqo ?_|refine WL.e1 rfl ?_|refine WL.len rfl rfl zql ?_|refine W.condT rfl ?_|refine W.condF rfl ?_)
  refine (?_:W _ _ _ _ _)
  dsimp only [St.put,Nat.reduceAdd]
  refine W.tr (Tr.nilC 1 0 3 rfl rfl rfl) ?_
  refine W.tr (Tr.nilC 1 1 1 rfl rfl rfl) ?_
  refine W.tr (Tr.nilC 1 2 6 rfl rfl rfl) ?_
  exact W.ret (finN rfl rfl rfl rfl)
 have hla:=plE_length b
 have ha2:=plE_20 hOb
 have hVO:=vtB_ok (os:=os) ha2 zqo ho
 have hres:(∀ i (h:i < os.length),cllX b os[i]=0)→cnX b os=0∧cnP b os=⟨b.cs,b.st,stl (cnK (vtB (plE b) os os.length) os.length (plE b).length)⟩:=fun h=>by
  rw [vtB_all,hla];exact cn_4 h0 h64 h
 have hCL:∀ k (h:k < os.length),pceE os[k]=0→Ctr Tryz.prog 26 [ePce ⟨b.cs,b.st,plE b⟩,ePce ⟨os[k].cs,os[k].st,plE os[k]⟩] (.tu [.ls 2 ((cllL (plP b) (plP os[k])).map ePr),.sc (.int .i64 (cllN (plP b) (plP os[k]))),.sc (.int .i64 (cllX b os[k]))]):=fun k h hx=>by
  obtain ⟨q1,q2⟩:=ho _ (List.getElem_mem h)
  have:=rCollate_FS (plP b) (plP os[k]) (plP_pcOk hOb h0) (plP_pcOk q1 hx) (plP_60 h0 h60) (plP_60 hx q2)
  rw [cllX_pl h0 hx] at this
  rw [← epl,← plP_eq hx]
  exact this
 have hCLL:∀ k (h:k < os.length),cllX b os[k]=0→cllL (plP b) (plP os[k])=prsA (plE b) (plE os[k]):=fun k h hx=>cllL_pl h0 (cllX_own h0 hx) hx
 rw [epl,h0] at hPl
 obtain ⟨PB0,hPB0⟩:∃ z,plP b=z:=⟨_,rfl⟩
 rw [hPB0] at hCL hCLL
 clear hPB0 epl
 obtain ⟨PA,hPA⟩:∃ z,plE b=z:=⟨_,rfl⟩
 rw [hPA] at hPl hla ha2 hVO hres hCL hCLL
 have hPAl:PA.length≤60:=by omega
 have hol2:os.length≤64:=by omega
 clear h64 hol
 refine zqe Tryz.func39 Tryz.ntmps39 fun w0 F0=>?_;dsimp only [St.init,number,Nat.reduceAdd]
 repeat refine W.go rfl ?_
 refine (?_:WL _ _ _ _ _ _)
 dsimp only [St.put,Nat.reduceAdd]
 refine WL.vl rfl (zqc Tryz.func30 hPl) ?_
 repeat (first|refine W.gob rfl ?_|refine WL.nil ?_|refine WL.bf rfl rfl rfl zqo ?_|refine WL.nf rfl rfl rfl zqo ?_|refine WL.e1 rfl ?_|refine WL.len rfl rfl zql ?_|refine W.condF rfl ?_)
 refine (?_:WL _ _ _ _ _ _)
 dsimp only [St.put,Nat.reduceAdd]
 refine WL.mks (x:=⟨152,.slice none 0 0,PA.length,PA.length⟩) rfl rfl rfl (show ((PA.length:Nat):Int).toNat=PA.length by simp) ⟨by show 0≤((PA.length:Nat):Int);omega,by show ((PA.length:Nat):Int)≤1000000;omega⟩ ?_
 refine WL.tr (Tr.nilOw 3 151 7 rfl) ?_
 dsimp only [St.upd]
 rw [← rnil_rows,← V1_0]
 repeat (first|refine W.gob rfl ?_|refine WL.nil ?_|refine WL.e1 rfl ?_|refine WL.len rfl rfl zql ?_)
 refine (?_:WL _ _ _ _ _ _)
 dsimp only [St.put,Nat.reduceAdd]
 refine WL.mks (x:=⟨3,.int .i64 0,PA.length,PA.length⟩) rfl rfl rfl (show ((PA.length:Nat):Int).toNat=PA.length by simp) ⟨by show 0≤((PA.length:Nat):Int);omega,by show ((PA.length:Nat):Int)≤1000000;omega⟩ ?_
 dsimp only
 rw [← zero_rows]
 repeat (first|refine W.gob rfl ?_|refine WL.nil ?_|refine WL.e1 rfl ?_)
 refine (?_:W _ _ _ _ _)
 dsimp only [St.put,Nat.reduceAdd]
 refine W.loop (fun k:Nat=>k≤PA.length) (fun k=>⟨[(1,.ls 3 OS),(4,.pt 1 0 0),(6,.pt 2 0 0),(8,.sl 3),(9,.sl 4),(10,.sc (.int .i64 k))],[(1,.box 28 [.sc (.slice none 0 0),.sc (.slice none 0 0),.sc (.slice none 0 0)]),(2,.box 28 [.ls 3 (b.cs.map eCrs),.ls 1 (b.st.map eInt),.ls 6 (PA.map eEv)]),(3,.rwn 152 1 ((V1 PA k).map rVL)),(4,.row 3 1 ((PA.map fun _=>(0:Int)).map eInt))],5⟩) (fun k=>PA.length - k) 0 (by omega) (zqt id) fun k hk=>?_
 by_cases hlt:k < PA.length
 ·have hVl:=V1_len hk
  have hki:k < (V1 PA k).length:=by omega
  have hat:=rVL_at hki
  have hml:((V1 PA k).map rVL).length=PA.length:=by rw [List.length_map];exact hVl
  have hst:=V1_set hlt hki
  rw [V1_at hlt hki] at hst
  have hclo:((V1 PA k).map rVL).set k ((rVL ((V1 PA k)[k])).set 0 (.ow 151 7 [eVt (PA[k],1)]))=(V1 PA (k+1)).map rVL:=by
   rw [← hst]
   exact rVL_set (V:=V1 PA k) (i:=k) (l0:=(V1 PA k)[k]) [(PA[k],1)]
  repeat (first|refine W.gob rfl ?_|refine WL.nil ?_|refine WL.bt rfl rfl rfl zqo ?_|refine WL.e1 rfl ?_|refine WL.len rfl rfl zql ?_|refine WL.idx rfl rfl zqo zqm ?_|refine WL.ixs rfl rfl zqs ?_|refine W.condT rfl ?_)
  refine (?_:WL _ _ _ _ _ _)
  dsimp only [St.put,Nat.reduceAdd]
  refine WL.stQ rfl rfl rfl rfl hat (by show 0 < 1;omega) ?_
  refine WL.tr (Tr.close_ 3 rfl rfl rfl hat (by show 0 < 1;omega) hclo) ?_
  dsimp only [St.upd,St.drop,rem,cond,Nat.beq]
  repeat (first|refine W.gob rfl ?_|refine WL.nil ?_|refine WL.e1 rfl ?_|refine WL.ar rfl rfl z39i ?_)
  dsimp only [St.put,Nat.reduceAdd]
  exact ⟨k+1,by omega,by omega,(zqt id)⟩
 obtain rfl:k=PA.length:=by omega
 rw [V1_all]
 repeat (first|refine W.gob rfl ?_|refine WL.nil ?_|refine WL.bf rfl rfl rfl zqo ?_|refine WL.e1 rfl ?_|refine WL.len rfl rfl zql ?_|refine W.condF rfl ?_)
 refine (?_:W _ _ _ _ _)
 dsimp only [St.put,Nat.reduceAdd]
 refine W.loop (fun s:Nat×VS=>s.1≤os.length∧s.2=vtB PA os s.1∧∀ i (h:i < os.length),i < s.1→cllX b os[i]=0) (fun s=>⟨[(1,.ls 3 OS),(4,.pt 1 0 0),(6,.pt 2 0 0),(8,.sl 3),(9,.sl 4),(11,.sc (.int .i64 s.1))],[(1,.box 28 [.sc (.slice none 0 0),.sc (.slice none 0 0),.sc (.slice none 0 0)]),(2,.box 28 [.ls 3 (b.cs.map eCrs),.ls 1 (b.st.map eInt),.ls 6 (PA.map eEv)]),(3,.rwn 152 1 (s.2.1.map rVL)),(4,.row 3 1 (s.2.2.map eInt))],5⟩) (fun s=>os.length - s.1) (0,vt0 PA) ⟨by simp,rfl,fun i _ h=>absurd h (Nat.not_lt_zero i)⟩ (zqt id) fun s hs=>?_
 obtain ⟨k,V,A⟩:=s
 obtain ⟨hk,hVA,hOk⟩:=hs
 dsimp only at hk hVA hOk ⊢
 have hvo:=hVO k hk
 rw [← hVA] at hvo
 obtain ⟨l1,l2,hne,hev,hab⟩:=hvo
 dsimp only at l1 l2 hne hev hab
 by_cases hlt:k < os.length
 ·obtain ⟨q1,q2⟩:=ho _ (List.getElem_mem hlt)
  have hPo:=rPlain_FS os[k] q1
  have hOk1:=hOa k hlt
  by_cases hxo:pceE os[k]=0
  rotate_left
  ·have hcx:=(cll_2 h0 hxo).1
   obtain ⟨e1,e2⟩:=cn_3 (b:=b) (os:=os) h0 (by omega) hlt (fun i hi=>hOk i (by omega) hi) (by rw [hcx];exact hxo)
   have e3:plP os[k]=noP:=if_neg hxo
   rw [e1,e2,hcx]
   rw [e3] at hPo
   obtain ⟨X,hX⟩:∃ z,pceE os[k]=z:=⟨_,rfl⟩
   rw [hX] at hxo hPo ⊢
   obtain ⟨O,hO⟩:∃ z,os[k]=z:=⟨_,rfl⟩
   rw [hO] at hPo hOk1
   clear hVO hres hCL hCLL
   repeat (first|refine W.gob rfl ?_|refine WL.nil ?_|refine WL.bt rfl rfl rfl zqo ?_|refine WL.e1 rfl ?_|refine WL.len rfl rfl zql ?_|refine W.condT rfl ?_)
   refine (?_:WL _ _ _ _ _ _)
   dsimp only [St.put,Nat.reduceAdd]
   refine WL.idx rfl rfl zqo hOk1 ?_
   repeat refine WL.e1 rfl ?_
   refine (?_:WL _ _ _ _ _ _)
   dsimp only [St.put,Nat.reduceAdd]
   refine WL.vl rfl (zqc Tryz.func30 hPo) ?_
   repeat (first|refine W.gob rfl ?_|refine WL.nil ?_|refine WL.nt rfl rfl rfl zqo ?_|refine WL.e1 rfl ?_|refine W.condT rfl ?_)
   refine (?_:W _ _ _ _ _)
   dsimp only [St.put,Nat.reduceAdd]
   refine W.tr (Tr.nilC 1 0 3 rfl rfl rfl) ?_
   refine W.tr (Tr.nilC 1 1 1 rfl rfl rfl) ?_
   refine W.tr (Tr.nilC 1 2 6 rfl rfl rfl) ?_
   exact W.ret (finN rfl rfl rfl rfl)
  have hCo:=hCL k hlt hxo
  have ep2:plP os[k]=⟨os[k].cs,os[k].st,plE os[k]⟩:=plP_eq hxo
  by_cases hx:cllX b os[k]=0
  rotate_left
  ·obtain ⟨e1,e2⟩:=cn_3 (b:=b) (os:=os) h0 zqo hlt (fun i hi=>hOk i zqo hi) hx
   rw [e1,e2]
   rw [ep2,hxo] at hPo
   obtain ⟨X,hX⟩:∃ z,cllX b os[k]=z:=⟨_,rfl⟩
   obtain ⟨Y,hY⟩:∃ z,(cllL PB0 (plP os[k])).map ePr=z:=⟨_,rfl⟩
   obtain ⟨Z,hZ⟩:∃ z,cllN PB0 (plP os[k])=z:=⟨_,rfl⟩
   rw [hX] at hx ⊢
   rw [hX,hY,hZ] at hCo
   obtain ⟨O,hO⟩:∃ z,os[k]=z:=⟨_,rfl⟩
   rw [hO] at hPo hOk1 hCo
   obtain ⟨PB,hPB⟩:∃ z,plE O=z:=⟨_,rfl⟩
   rw [hPB] at hPo hCo
   clear hVO hres hCL hCLL hY hZ
   repeat (first|refine W.gob rfl ?_|refine WL.nil ?_|refine WL.bt rfl rfl rfl zqo ?_|refine WL.e1 rfl ?_|refine WL.len rfl rfl zql ?_|refine W.condT rfl ?_)
   refine (?_:WL _ _ _ _ _ _)
   dsimp only [St.put,Nat.reduceAdd]
   refine WL.idx rfl rfl zqo hOk1 ?_
   repeat refine WL.e1 rfl ?_
   refine (?_:WL _ _ _ _ _ _)
   dsimp only [St.put,Nat.reduceAdd]
   refine WL.vl rfl (zqc Tryz.func30 hPo) ?_
   repeat (first|refine W.gob rfl ?_|refine WL.nil ?_|refine WL.nf rfl rfl rfl zqo ?_|refine WL.e1 rfl ?_|refine W.condF rfl ?_)
   refine (?_:WL _ _ _ _ _ _)
   dsimp only [St.put,Nat.reduceAdd]
   refine WL.vl rfl (zqc Tryz.func26 hCo) ?_
   repeat (first|refine W.gob rfl ?_|refine WL.nil ?_|refine WL.nt rfl rfl rfl zqo ?_|refine WL.e1 rfl ?_|refine W.condT rfl ?_)
   refine (?_:W _ _ _ _ _)
   dsimp only [St.put,Nat.reduceAdd]
   refine W.tr (Tr.nilC 1 0 3 rfl rfl rfl) ?_
   refine W.tr (Tr.nilC 1 1 1 rfl rfl rfl) ?_
   refine W.tr (Tr.nilC 1 2 6 rfl rfl rfl) ?_
   exact W.ret (finN rfl rfl rfl rfl)
  have hnext:vtB PA os (k+1)=vtL PA (plE os[k]) (V,A):=by rw [vtB_s hlt,hVA]
  have hOk':∀ i (h:i < os.length),i < k+1→cllX b os[i]=0:=fun i h hi=>by
   by_cases e:i=k
   ·subst e;exact hx
   ·exact hOk i h zqo
  have hform:=prs_form (show Aln PA (plE os[k]) 0 0 (prsA PA (plE os[k])) from prs_aln (a:=PA) (b:=plE os[k]) (PA.length+(plE os[k]).length) 0 0 (Nat.zero_le _) (Nat.zero_le _) zqo)
  have hPl2:(prsA PA (plE os[k])).length≤120:=by
   have:=prs_len' (a:=PA) (b:=plE os[k]) (PA.length+(plE os[k]).length) 0 0
   have e:=plE_length os[k]
   unfold prsA;omega
  have hb2:=plE_20 q1
  have hnx:vtL PA (plE os[k]) (V,A)=(prsA PA (plE os[k])).foldl (vtP (plE os[k])) (V,A):=rfl
  rw [hnx] at hnext
  have hvo2:VtOk PA.length (1+120*k) (V,A):=⟨l1,l2,hne,hev,hab⟩
  have hfold:∀ j,VtOk PA.length (1+120*k+120) (((prsA PA (plE os[k])).take j).foldl (vtP (plE os[k])) (V,A)):=fun j=>by
   have h:=vtOk_F hb2 (P:=(prsA PA (plE os[k])).take j) zqo hvo2
   have hl:((prsA PA (plE os[k])).take j).length≤120:=by rw [List.length_take];omega
   exact vtOk_up h zqo
  rw [hCLL k hlt hx] at hCo
  rw [hx] at hCo
  rw [ep2,hxo] at hPo
  obtain ⟨Z,hZ⟩:∃ z,cllN PB0 (plP os[k])=z:=⟨_,rfl⟩
  rw [hZ] at hCo
  obtain ⟨O,hO⟩:∃ z,os[k]=z:=⟨_,rfl⟩
  rw [hO] at hPo hOk1 hCo hnext hform hPl2 hb2 hfold
  clear hnx hZ ep2
  obtain ⟨PB,hPB⟩:∃ z,plE O=z:=⟨_,rfl⟩
  rw [hPB] at hPo hCo hnext hform hPl2 hb2 hfold
  obtain ⟨PL,hPL⟩:∃ z,prsA PA PB=z:=⟨_,rfl⟩
  rw [hPL] at hCo hnext hform hPl2 hfold
  have hQl:(PL.map ePr).length=PL.length:=List.length_map _
  have hQ:∀ j (h:j < PL.length),(PL.map ePr)[((j:Nat):Int).toNat]?=some (ePr PL[j]):=fun j h=>map_at h
  obtain ⟨QP,hQP⟩:∃ z,PL.map ePr=z:=⟨_,rfl⟩
  rw [hQP] at hCo hQl hQ
  clear hVO hres hCL hCLL hQP
  repeat (first|refine W.gob rfl ?_|refine WL.nil ?_|refine WL.bt rfl rfl rfl zqo ?_|refine WL.e1 rfl ?_|refine WL.len rfl rfl zql ?_|refine W.condT rfl ?_)
  refine (?_:WL _ _ _ _ _ _)
  dsimp only [St.put,Nat.reduceAdd]
  refine WL.idx rfl rfl zqo hOk1 ?_
  repeat refine WL.e1 rfl ?_
  refine (?_:WL _ _ _ _ _ _)
  dsimp only [St.put,Nat.reduceAdd]
  refine WL.vl rfl (zqc Tryz.func30 hPo) ?_
  repeat (first|refine W.gob rfl ?_|refine WL.nil ?_|refine WL.nf rfl rfl rfl zqo ?_|refine WL.e1 rfl ?_|refine W.condF rfl ?_)
  refine (?_:WL _ _ _ _ _ _)
  dsimp only [St.put,Nat.reduceAdd]
  refine WL.vl rfl (zqc Tryz.func26 hCo) ?_
  repeat (first|refine W.gob rfl ?_|refine WL.nil ?_|refine WL.nf rfl rfl rfl zqo ?_|refine WL.e1 rfl ?_|refine W.condF rfl ?_)
  refine (?_:W _ _ _ _ _)
  dsimp only [St.put,Nat.reduceAdd]
  refine W.loop (fun q:Nat×VS=>q.1≤PL.length∧q.2=(PL.take q.1).foldl (vtP PB) (V,A)) (fun q=>⟨[(1,.ls 3 OS),(4,.pt 1 0 0),(6,.pt 2 0 0),(8,.sl 3),(9,.sl 4),(11,.sc (.int .i64 k)),(12,.pt 5 0 0),(14,.ls 2 QP),(16,.sc (.int .i64 q.1))],[(1,.box 28 [.sc (.slice none 0 0),.sc (.slice none 0 0),.sc (.slice none 0 0)]),(2,.box 28 [.ls 3 (b.cs.map eCrs),.ls 1 (b.st.map eInt),.ls 6 (PA.map eEv)]),(3,.rwn 152 1 (q.2.1.map rVL)),(4,.row 3 1 (q.2.2.map eInt)),(5,.box 28 [.ls 3 (O.cs.map eCrs),.ls 1 (O.st.map eInt),.ls 6 (PB.map eEv)])],6⟩) (fun q=>PL.length - q.1) (0,V,A) ⟨by simp,rfl⟩ (zqt id) fun q hq=>?_
  obtain ⟨j,V2,A2⟩:=q
  obtain ⟨hj,hVA2⟩:=hq
  dsimp only at hj hVA2 ⊢
  by_cases hjt:j < PL.length
  ·have hvj:=hfold j
   rw [← hVA2] at hvj
   obtain ⟨m1,m2,mne,mev,mab⟩:=hvj
   dsimp only at m1 m2 mne mev mab
   have hqj:=hQ j hjt
   have hst:(PL.take (j+1)).foldl (vtP PB) (V,A)=vtP PB (V2,A2) PL[j]:=by
    rw [List.take_succ_eq_append_getElem hjt,List.foldl_append,← hVA2];rfl
   rcases hform _ (List.getElem_mem hjt) with ⟨i,z,hi,hz,hp⟩|⟨i,hi,hp⟩|⟨z,hz,hp⟩
   ·have hi1:i < V2.length:=by omega
    rw [hp] at hqj hst
    have hst2:=vtP_both (ys:=PB) (s:=(V2,A2)) hi1 hz
    rw [hst2] at hst
    dsimp only at hst
    have hm:=mne _ (List.getElem_mem hi1)
    have hcast:=rcast_G V2[i] PB[z] (by omega) (fun v hv=>by have:=mev _ (List.getElem_mem hi1) v hv;omega) (hb2 _ (List.getElem_mem hz))
    have hat:=rVL_at hi1
    have hV2l:(V2.map rVL).length=V2.length:=List.length_map _
    have hPBl:(PB.map eEv).length=PB.length:=List.length_map _
    have hPBz:(PB.map eEv)[((z:Nat):Int).toNat]?=some (eEv PB[z]):=map_at hz
    have hclo:=rVL_set (V:=V2) (i:=i) (l0:=V2[i]) (cstV V2[i] PB[z])
    have hqj:QP[((j:Nat):Int).toNat]?=some [.sc (.int .i64 (i:Int)),.sc (.int .i64 (z:Int))]:=hqj
    clear mne mev mab hne hev hab hfold hst2 hVA2
    repeat (first|refine W.gob rfl ?_|refine WL.nil ?_|refine WL.bt rfl rfl rfl zqo ?_|refine WL.e1 rfl ?_|refine WL.len rfl rfl zql ?_|refine W.condT rfl ?_)
    refine (?_:WL _ _ _ _ _ _)
    dsimp only [St.put,Nat.reduceAdd]
    refine WL.idx rfl rfl zqo hqj ?_
    repeat (first|refine W.gob rfl ?_|refine WL.nil ?_|refine WL.bt rfl rfl rfl zqo ?_|refine WL.e1 rfl ?_|refine WL.gyes rfl rfl rfl rfl ?_|refine W.condT rfl ?_)
    refine (?_:W _ _ _ _ _)
    dsimp only [St.put,Nat.reduceAdd]
    refine W.tr (Tr.open_ 3 i 0 rfl hat rfl (eVt_own _) rfl) ?_
    dsimp only [St.upd,St.new,Nat.reduceAdd]
    refine W.of_wa zqk ?_
    refine WA.dt [false,false,false,false,false,false,false,false,false,false,false,false,false,false,true,false,true] [5,6] [5,6,3] 16 zqk zqk zqk ⟨rfl,rfl,trivial⟩ ⟨rfl,rfl,rfl,trivial⟩ ?_
    refine DTK.st rfl zqk rfl ?_
    refine DTK.st rfl zqk rfl ?_
    refine DTK.st rfl zqk rfl ?_
    refine DTK.st rfl zqk rfl ?_
    refine DTK.st rfl zqk rfl ?_
    refine DTK.st rfl zqk rfl ?_
    refine DTK.ixs rfl zqk rfl ⟨by omega,by omega⟩ ?_
    refine DTK.ldQ rfl zqk rfl rfl rfl hat (by show 0 < 1;omega) ?_
    refine DTK.st rfl zqk rfl ?_
    refine DTK.st rfl zqk rfl ?_
    refine DTK.st rfl zqk rfl ?_
    refine DTK.st rfl zqk rfl ?_
    refine DTK.idx rfl zqk rfl zqo hPBz ?_
    refine DTK.st rfl zqk rfl ?_
    refine DTK.ct (truH _) [7] rfl rfl (callF Tryz.func85 rfl rfl) hcast rfl rfl rfl ⟨⟨rfl,rfl,rfl⟩,trivial⟩ rfl rfl rfl rfl ⟨rfl,rfl,trivial⟩ (fun _=>⟨rfl,rfl,rfl,trivial⟩) ?_
    refine DTK.ixs rfl zqk rfl ⟨by omega,by omega⟩ ?_
    refine DTK.stQ rfl rfl rfl rfl rfl rfl rfl (.inr ⟨_,rfl⟩) rfl rfl hat (by show 0 < 1;omega) rfl ⟨rfl,rfl,trivial⟩ (fun h=>by cases h) ?_
    refine DTK.nil ?_
    refine W.tr (Tr.close_ 3 rfl rfl rfl hat (by show 0 < 1;omega) hclo) ?_
    dsimp only [St.upd,St.drop,rem,cond,Nat.beq]
    repeat (first|refine W.gob rfl ?_|refine WL.nil ?_|refine WL.bf rfl rfl rfl zqo ?_|refine WL.e1 rfl ?_|refine WL.ar rfl rfl z39i ?_|refine W.condF rfl ?_)
    dsimp only [St.put,Nat.reduceAdd]
    refine ⟨(j+1,V2.set i (cstV V2[i] PB[z]),A2),⟨by show j+1≤_;omega,hst.symm⟩,by show PL.length - (j+1) < PL.length - j;omega,?_⟩
    exact (zqt id)
   ·have hi1:i < A2.length:=by omega
    rw [hp] at hqj hst
    have hst2:=vtP_left (ys:=PB) (s:=(V2,A2)) hi1
    rw [hst2] at hst
    dsimp only at hst
    have hm:=mab _ (List.getElem_mem hi1)
    have hat:(A2.map eInt)[i]?=some (eInt A2[i]):=by rw [List.getElem?_map,List.getElem?_eq_getElem hi1];rfl
    have hput:=int_put hi1
    have hqj:QP[((j:Nat):Int).toNat]?=some [.sc (.int .i64 (i:Int)),.sc (.int .i64 (-1))]:=hqj
    have hA2l:(A2.map eInt).length=A2.length:=List.length_map _
    clear mne mev mab hne hev hab hfold hst2 hVA2
    repeat (first|refine W.gob rfl ?_|refine WL.nil ?_|refine WL.bt rfl rfl rfl zqo ?_|refine WL.e1 rfl ?_|refine WL.len rfl rfl zql ?_|refine W.condT rfl ?_)
    refine (?_:WL _ _ _ _ _ _)
    dsimp only [St.put,Nat.reduceAdd]
    refine WL.idx rfl rfl zqo hqj ?_
    repeat (first|refine W.gob rfl ?_|refine WL.nil ?_|refine WL.bt rfl rfl rfl zqo ?_|refine WL.bf rfl rfl rfl zqo ?_|refine WL.e1 rfl ?_|refine WL.gyes rfl rfl rfl rfl ?_|refine WL.ixs rfl rfl zqs ?_|refine W.condT rfl ?_|refine W.condF rfl ?_)
    refine (?_:WL _ _ _ _ _ _)
    dsimp only [St.put,Nat.reduceAdd]
    refine WL.ldr rfl rfl hat rfl rfl ?_
    repeat (first|refine WL.ar rfl rfl z39i ?_|refine WL.ixs rfl rfl zqs ?_)
    refine (?_:WL _ _ _ _ _ _)
    dsimp only [St.put,Nat.reduceAdd]
    refine WL.sto rfl rfl rfl rfl hat (by show 0+1≤1;omega) ?_
    repeat (first|refine W.gob rfl ?_|refine WL.nil ?_|refine WL.e1 rfl ?_|refine WL.ar rfl rfl z39i ?_)
    dsimp only [St.put,Nat.reduceAdd]
    refine ⟨(j+1,V2,A2.set i (A2[i]+1)),⟨by show j+1≤_;omega,hst.symm⟩,by show PL.length - (j+1) < PL.length - j;omega,?_⟩
    exact (zqu (fun q=>q) (by repeat (first|exact trivial|refine ⟨⟨?_,?_,?_⟩,?_⟩|rfl|exact congrArg (fun q=>some (AO.row _ _ q)) hput|exact congrArg (fun q=>some (AO.rwn _ _ q)) hput)) rfl)
   ·rw [hp] at hqj hst
    rw [vtP_right] at hst
    have hqj:QP[((j:Nat):Int).toNat]?=some [.sc (.int .i64 (-1)),.sc (.int .i64 (z:Int))]:=hqj
    clear mne mev mab hne hev hab hfold hVA2
    repeat (first|refine W.gob rfl ?_|refine WL.nil ?_|refine WL.bt rfl rfl rfl zqo ?_|refine WL.e1 rfl ?_|refine WL.len rfl rfl zql ?_|refine W.condT rfl ?_)
    refine (?_:WL _ _ _ _ _ _)
    dsimp only [St.put,Nat.reduceAdd]
    refine WL.idx rfl rfl zqo hqj ?_
    repeat (first|refine W.gob rfl ?_|refine WL.nil ?_|refine WL.bf rfl rfl rfl zqo ?_|refine WL.e1 rfl ?_|refine WL.opno rfl rfl rfl rfl rfl rfl rfl ?_|refine WL.ar rfl rfl z39i ?_|refine W.condF rfl ?_)
    dsimp only [St.put,Nat.reduceAdd]
    refine ⟨(j+1,V2,A2),⟨by show j+1≤_;omega,hst.symm⟩,by show PL.length - (j+1) < PL.length - j;omega,?_⟩
    exact (zqt id)
  ·obtain rfl:j=PL.length:=by omega
   rw [List.take_length,← hnext] at hVA2
   repeat (first|refine W.gob rfl ?_|refine WL.nil ?_|refine WL.bf rfl rfl rfl zqo ?_|refine WL.e1 rfl ?_|refine WL.ar rfl rfl z39i ?_|refine WL.len rfl rfl zql ?_|refine W.condF rfl ?_)
   dsimp only [St.put,Nat.reduceAdd]
   refine ⟨(k+1,V2,A2),⟨by show k+1≤_;omega,hVA2,hOk'⟩,by show os.length - (k+1) < os.length - k;omega,?_⟩
   exact (zqt id)
 obtain rfl:k=os.length:=by omega
 obtain ⟨hr1,hr2⟩:=hres fun i h=>hOk i h h
 rw [← hVA] at hr2
 rw [hr1,hr2]
 have hck:∀ k,k≤PA.length→∀ e∈cnK (V,A) os.length k,e.stops.length≤20:=fun k h=>cnK_20 (m:=os.length) (show VtOk PA.length (1+120*os.length) (V,A) from ⟨l1,l2,hne,hev,hab⟩) k h
 have hcl:∀ k,(cnK (V,A) os.length k).length≤k:=fun k=>cnK_len k
 have hml:(V.map rVL).length=V.length:=List.length_map _
 have hal:(A.map eInt).length=A.length:=List.length_map _
 clear hVO hCL hCLL hres hVA
 repeat (first|refine W.gob rfl ?_|refine WL.nil ?_|refine WL.bf rfl rfl rfl zqo ?_|refine WL.e1 rfl ?_|refine WL.len rfl rfl zql ?_|refine W.condF rfl ?_)
 refine (?_:W _ _ _ _ _)
 dsimp only [St.put,Nat.reduceAdd]
 refine W.tr (Tr.nilBox (k:=5) (j:=2) 36 6 rfl rfl rfl rfl) ?_
 dsimp only [St.put,St.new,St.upd,Nat.reduceAdd]
 refine (?_:W _ _ _ _ _)
 refine W.loop (fun k:Nat=>k≤PA.length) (fun k=>⟨[(1,.ls 3 OS),(4,.pt 1 0 0),(6,.pt 2 0 0),(8,.sl 3),(9,.sl 4),(18,.pt 5 0 0),(19,.sc (.int .i64 k))],[(1,.box 28 [.sc (.slice none 0 0),.sc (.slice none 0 0),.sc (.slice none 0 0)]),(2,.box 28 [.ls 3 (b.cs.map eCrs),.ls 1 (b.st.map eInt),.ls 6 (PA.map eEv)]),(3,.rwn 152 1 (V.map rVL)),(4,.row 3 1 (A.map eInt)),(5,.box 28 [.ls 3 (b.cs.map eCrs),.ls 1 (b.st.map eInt),.sl 6]),(6,.row 36 6 ((cnK (V,A) os.length k).map eEv))],7⟩) (fun k=>PA.length - k) 0 (by omega) (zqu (fun q=>q) (by repeat (first|exact trivial|refine ⟨⟨?_,?_,?_⟩,?_⟩|rfl|exact congrArg (fun q=>some (AO.row _ _ q)) rfl|exact congrArg (fun q=>some (AO.rwn _ _ q)) rfl)) rfl) fun k hk=>?_
 by_cases hlt:k < PA.length
 ·have hkV:k < V.length:=by omega
  have hkA:k < A.length:=by omega
  have hat:=rVL_at hkV
  have haa:(A.map eInt)[k]?=some (eInt A[k]):=by rw [List.getElem?_map,List.getElem?_eq_getElem hkA];rfl
  have hc:=cnK_s (m:=os.length) hkV hkA
  have hab1:=hab _ (List.getElem_mem hkA)
  have hne1:=hne _ (List.getElem_mem hkV)
  have hev1:=hev _ (List.getElem_mem hkV)
  have hcl1:=hcl k
  have hmc:((cnK (V,A) os.length k).map eEv).length=(cnK (V,A) os.length k).length:=List.length_map _
  have hclo:(V.map rVL).set k ((rVL V[k]).set 0 (.ow 151 7 (V[k].map eVt)))=V.map rVL:=by
   have:=rVL_set (V:=V) (i:=k) (l0:=V[k]) V[k]
   rw [this,List.set_getElem_self]
  by_cases hkp:A[k]≤(os.length:Int)+1 - A[k]
  ·rw [if_pos hkp] at hc
   have hmap:(cnK (V,A) os.length k).map eEv++[eEv (winV V[k])]=(cnK (V,A) os.length (k+1)).map eEv:=by rw [hc,List.map_append];rfl
   obtain ⟨Wv,hW⟩:∃ z,V[k]=z:=⟨_,rfl⟩
   rw [hW] at hat hne1 hev1 hclo hmap
   have hW0:0 < Wv.length:=hne1.1
   have hWl:(Wv.map eVt).length=Wv.length:=List.length_map _
   obtain ⟨G,hG⟩:∃ G:Nat→Vt,∀ i (h:i < Wv.length),Wv[i]=G i:=⟨fun i=>Wv.getD i (ev0,0),fun i h=>by show _=Wv.getD i (ev0,0);rw [List.getD_eq_getElem?_getD,List.getElem?_eq_getElem h];rfl⟩
   have hWa:∀ i (h:i < Wv.length),(Wv.map eVt)[i]?=some (eVt (G i)):=fun i h=>by rw [List.getElem?_map,List.getElem?_eq_getElem h,← hG i h];rfl
   have hWb:∀ i (h:i < Wv.length),0≤(G i).2∧(G i).2≤1+120*(os.length:Int):=fun i h=>by rw [← hG i h];exact (hev1 _ (List.getElem_mem h)).2
   have hWs:∀ j q,j < Wv.length→q=bsI Wv j→bsI Wv (j+1)=if (G q).2 < (G j).2 then j else q:=fun j q h e=>by
    have hb:=bsI_s hW0 h
    have hq:=bsI_lt hW0 (show j≤Wv.length by omega)
    subst e
    rw [← hG _ h,← hG _ hq];exact hb
   have hwG:winV Wv=(G (bsI Wv Wv.length)).1:=by
    rw [winV_at hW0,hG _ (bsI_lt hW0 (Nat.le_refl _))]
   obtain ⟨w,hw⟩:∃ z,winV Wv=z:=⟨_,rfl⟩
   rw [hw] at hmap hwG
   obtain ⟨R,hR⟩:∃ z,(cnK (V,A) os.length k).map eEv=z:=⟨_,rfl⟩
   rw [hR] at hmap hmc ⊢
   clear hne hev hab hck hcl hc hw hR hW hev1
   repeat (first|refine W.gob rfl ?_|refine WL.nil ?_|refine WL.bt rfl rfl rfl zqo ?_|refine WL.e1 rfl ?_|refine WL.len rfl rfl zql ?_|refine W.condT rfl ?_)
   refine (?_:W _ _ _ _ _)
   dsimp only [St.put,Nat.reduceAdd]
   refine W.drawK zqk zqk ?_
   repeat (first|refine DK.st rfl ?_|refine DK.ixs rfl rfl zqs ?_)
   refine DK.ldr rfl rfl haa rfl rfl ?_
   repeat (first|refine DK.st rfl ?_|refine DK.ar rfl rfl z39i ?_|refine DK.len rfl rfl zql ?_|refine DK.ixs rfl rfl zqs ?_)
   refine DK.ldr rfl rfl haa rfl rfl ?_
   repeat (first|refine DK.bf rfl rfl zqo ?_|refine DK.ar rfl rfl z39i ?_|refine DK.nil ?_)
   repeat (first|refine W.gob rfl ?_|refine WL.e1 rfl ?_|refine WL.ixs rfl rfl zqs ?_|refine W.condF rfl ?_)
   refine (?_:WL _ _ _ _ _ _)
   dsimp only [St.put,Nat.reduceAdd]
   refine WL.tr (Tr.open_ 3 k 0 rfl hat rfl (eVt_own _) rfl) ?_
   dsimp only [St.upd,St.new,Nat.reduceAdd]
   refine WL.ldQ rfl rfl rfl rfl hat (by show 0 < 1;omega) ?_
   repeat refine WL.ixs rfl rfl zqs ?_
   refine (?_:WL _ _ _ _ _ _)
   dsimp only [St.put,Nat.reduceAdd]
   refine WL.lda rfl rfl (hWa 0 hW0) rfl ?_
   repeat (first|refine W.gob rfl ?_|refine WL.nil ?_|refine WL.e1 rfl ?_)
   refine (?_:W _ _ _ _ _)
   dsimp only [St.put,Nat.reduceAdd]
   refine W.loop (fun s:Nat×Nat=>1≤s.1∧s.1≤Wv.length∧s.2=bsI Wv s.1) (fun s=>⟨[(1,.ls 3 OS),(4,.pt 1 0 0),(6,.pt 2 0 0),(8,.sl 3),(9,.sl 4),(18,.pt 5 0 0),(19,.sc (.int .i64 k)),(20,.pt 8 0 0),(21,.sc (.int .i64 s.1))],[(1,.box 28 [.sc (.slice none 0 0),.sc (.slice none 0 0),.sc (.slice none 0 0)]),(2,.box 28 [.ls 3 (b.cs.map eCrs),.ls 1 (b.st.map eInt),.ls 6 (PA.map eEv)]),(3,.rwo 152 1 (V.map rVL) k 0 (.sl 7)),(4,.row 3 1 (A.map eInt)),(5,.box 28 [.ls 3 (b.cs.map eCrs),.ls 1 (b.st.map eInt),.sl 6]),(6,.row 36 6 R),(7,.row 151 7 (Wv.map eVt)),(8,.box 151 (eVt (G s.2)))],9⟩) (fun s=>Wv.length - s.1) (1,0) ⟨Nat.le_refl _,hW0,(bsI_1 Wv).symm⟩ (zqt id) fun s hs=>?_
   obtain ⟨j,q⟩:=s
   obtain ⟨hj1,hjl,hq⟩:=hs
   dsimp only at hj1 hjl hq ⊢
   have hql:q < Wv.length:=by rw [hq];exact bsI_lt hW0 hjl
   by_cases hjt:j < Wv.length
   ·have e:=hWs j q hjt hq
    have aj:=hWa j hjt
    have ck:=hWb j hjt
    have cq:=hWb q hql
    clear hq hwG hWa hWb hWs
    by_cases hgt:(G q).2 < (G j).2
    ·rw [if_pos hgt] at e
     repeat (first|refine W.gob rfl ?_|refine WL.e1 rfl ?_|refine WL.ixs rfl rfl zqs ?_)
     refine (?_:WL _ _ _ _ _ _)
     dsimp only [St.put,Nat.reduceAdd]
     refine WL.ldQ rfl rfl rfl rfl hat (by show 0 < 1;omega) ?_
     repeat (first|refine W.gob rfl ?_|refine WL.nil ?_|refine WL.bt rfl rfl rfl zqo ?_|refine WL.len rfl rfl zql ?_|refine W.condT rfl ?_)
     refine (?_:W _ _ _ _ _)
     dsimp only [St.put,Nat.reduceAdd]
     refine W.drawK zqk zqk ?_
     repeat (first|refine DK.st rfl ?_|refine DK.ixs rfl rfl zqs ?_)
     refine DK.ldQ rfl rfl rfl rfl hat (by show 0 < 1;omega) ?_
     repeat (first|refine DK.st rfl ?_|refine DK.ixs rfl rfl zqs ?_)
     refine DK.ldr rfl rfl aj rfl rfl ?_
     repeat (first|refine DK.bt rfl rfl zqo ?_|refine DK.st rfl ?_|refine DK.nil ?_)
     repeat (first|refine W.gob rfl ?_|refine WL.e1 rfl ?_|refine WL.ixs rfl rfl zqs ?_|refine W.condT rfl ?_)
     refine (?_:WL _ _ _ _ _ _)
     dsimp only [St.put,Nat.reduceAdd]
     refine WL.ldQ rfl rfl rfl rfl hat (by show 0 < 1;omega) ?_
     repeat (first|refine WL.e1 rfl ?_|refine WL.ixs rfl rfl zqs ?_)
     refine (?_:WL _ _ _ _ _ _)
     dsimp only [St.put,Nat.reduceAdd]
     refine WL.lda rfl rfl aj rfl ?_
     repeat (first|refine W.gob rfl ?_|refine WL.nil ?_|refine WL.e1 rfl ?_|refine WL.ar rfl rfl z39i ?_)
     dsimp only [St.put,Nat.reduceAdd]
     refine ⟨(j+1,j),⟨by show 1≤j+1;omega,by show j+1≤_;omega,e.symm⟩,by show Wv.length - (j+1) < Wv.length - j;omega,?_⟩
     exact (zqt id)
    ·rw [if_neg hgt] at e
     repeat (first|refine W.gob rfl ?_|refine WL.e1 rfl ?_|refine WL.ixs rfl rfl zqs ?_)
     refine (?_:WL _ _ _ _ _ _)
     dsimp only [St.put,Nat.reduceAdd]
     refine WL.ldQ rfl rfl rfl rfl hat (by show 0 < 1;omega) ?_
     repeat (first|refine W.gob rfl ?_|refine WL.nil ?_|refine WL.bt rfl rfl rfl zqo ?_|refine WL.len rfl rfl zql ?_|refine W.condT rfl ?_)
     refine (?_:W _ _ _ _ _)
     dsimp only [St.put,Nat.reduceAdd]
     refine W.drawK zqk zqk ?_
     repeat (first|refine DK.st rfl ?_|refine DK.ixs rfl rfl zqs ?_)
     refine DK.ldQ rfl rfl rfl rfl hat (by show 0 < 1;omega) ?_
     repeat (first|refine DK.st rfl ?_|refine DK.ixs rfl rfl zqs ?_)
     refine DK.ldr rfl rfl aj rfl rfl ?_
     repeat (first|refine DK.bf rfl rfl zqo ?_|refine DK.st rfl ?_|refine DK.nil ?_)
     repeat (first|refine W.gob rfl ?_|refine WL.nil ?_|refine WL.e1 rfl ?_|refine WL.ar rfl rfl z39i ?_|refine W.condF rfl ?_)
     dsimp only [St.put,Nat.reduceAdd]
     refine ⟨(j+1,q),⟨by show 1≤j+1;omega,by show j+1≤_;omega,e.symm⟩,by show Wv.length - (j+1) < Wv.length - j;omega,?_⟩
     exact (zqt id)
   ·obtain rfl:j=Wv.length:=by omega
    have hwq:w=(G q).1:=by subst hq;exact hwG
    rw [hwq] at hmap
    clear hq hwG hwq hWa hWb hWs
    repeat (first|refine W.gob rfl ?_|refine WL.e1 rfl ?_|refine WL.ixs rfl rfl zqs ?_)
    refine (?_:WL _ _ _ _ _ _)
    dsimp only [St.put,Nat.reduceAdd]
    refine WL.ldQ rfl rfl rfl rfl hat (by show 0 < 1;omega) ?_
    repeat (first|refine W.gob rfl ?_|refine WL.nil ?_|refine WL.bf rfl rfl rfl zqo ?_|refine WL.e1 rfl ?_|refine WL.ar rfl rfl z39i ?_|refine WL.len rfl rfl zql ?_|refine WL.app rfl rfl rfl zqs ?_|refine W.condF rfl ?_)
    dsimp only [St.put,Nat.reduceAdd]
    refine ⟨k+1,by omega,by omega,?_⟩
    refine Tr.trans (Tr.close_ 3 rfl rfl rfl hat (by show 0 < 1;omega) hclo) ?_
    exact (zqu (fun q=>bif Nat.beq q 6 then 10 else q) (by repeat (first|exact trivial|refine ⟨⟨?_,?_,?_⟩,?_⟩|rfl|exact congrArg (fun q=>some (AO.row _ _ q)) hmap|exact congrArg (fun q=>some (AO.rwn _ _ q)) hmap)) rfl)
  ·rw [if_neg hkp] at hc
   clear hne hev hab hev1 hck hcl
   repeat (first|refine W.gob rfl ?_|refine WL.nil ?_|refine WL.bt rfl rfl rfl zqo ?_|refine WL.e1 rfl ?_|refine WL.len rfl rfl zql ?_|refine W.condT rfl ?_)
   refine (?_:W _ _ _ _ _)
   dsimp only [St.put,Nat.reduceAdd]
   refine W.drawK zqk zqk ?_
   repeat (first|refine DK.st rfl ?_|refine DK.ixs rfl rfl zqs ?_)
   refine DK.ldr rfl rfl haa rfl rfl ?_
   repeat (first|refine DK.st rfl ?_|refine DK.ar rfl rfl z39i ?_|refine DK.len rfl rfl zql ?_|refine DK.ixs rfl rfl zqs ?_)
   refine DK.ldr rfl rfl haa rfl rfl ?_
   repeat (first|refine DK.bt rfl rfl zqo ?_|refine DK.ar rfl rfl z39i ?_|refine DK.nil ?_)
   repeat (first|refine W.gob rfl ?_|refine WL.nil ?_|refine WL.e1 rfl ?_|refine WL.ar rfl rfl z39i ?_|refine W.condT rfl ?_)
   dsimp only [St.put,Nat.reduceAdd]
   refine ⟨k+1,by omega,by omega,?_⟩
   rw [hc]
   exact (zqt id)
 obtain rfl:k=PA.length:=by omega
 have hl1:=hcl PA.length
 have hk20:=hck _ (Nat.le_refl _)
 obtain ⟨L,hL⟩:∃ z,cnK (V,A) os.length PA.length=z:=⟨_,rfl⟩
 rw [hL] at hl1 hk20 ⊢
 have hLO:PcOk ⟨b.cs,b.st,L⟩:=⟨hOb.n1,hOb.n2,by show L.length≤420;omega,fun k h=>hk20 _ (List.getElem_mem h)⟩
 have hCp:=rCopyOO_FS ⟨b.cs,b.st,L⟩ hLO
 clear hne hev hab hck hcl
 repeat (first|refine W.gob rfl ?_|refine WL.nil ?_|refine WL.bf rfl rfl rfl zqo ?_|refine WL.e1 rfl ?_|refine WL.len rfl rfl zql ?_|refine W.condF rfl ?_)
 refine (?_:WL _ _ _ _ _ _)
 dsimp only [St.put,Nat.reduceAdd]
 refine WL.tr (Tr.freeze 6 rfl) ?_
 dsimp only [St.freeze]
 refine (?_:WL _ _ _ _ _ _)
 refine WL.cto (truH _) [] rfl rfl (callF Tryz.func17 rfl rfl) hCp rfl rfl rfl trivial rfl rfl rfl rfl ?_
 repeat (first|refine W.gob rfl ?_|refine WL.nil ?_|refine WL.e1 rfl ?_|refine WL.len rfl rfl zql ?_)
 refine (?_:W _ _ _ _ _)
 dsimp only [St.put,Nat.reduceAdd]
 have htl:=tie0_len L
 have ht20:=tie0_20 hk20
 have hst:stl L=stlE (tie0 L):=rfl
 rw [hst]
 have hLl:(L.map eEvO).length=L.length:=List.length_map _
 refine W.meet ⟨[(4,.pt 1 0 0),(18,.pt 5 0 0)],[(1,.box 28 [.sc (.slice none 0 0),.sc (.slice none 0 0),.sc (.slice none 0 0)]),(5,.box 28 [.ls 3 (b.cs.map eCrs),.ls 1 (b.st.map eInt),.sl 7]),(7,.rwn 36 6 ((tie0 L).map eEvO))],9⟩ ?_ ?_
 ·(refine W.cond rfl (fun hif=>?_) (fun hif=>?_)<;>(try simp only [decide_eq_true_eq,decide_eq_false_iff_not,Int.not_lt,Int.not_le,Bool.not_eq_true',Bool.not_eq_false'] at hif))
  ·obtain ⟨x,r,hxr⟩:∃ x r,L=x::r:=by
    cases hLc:L with
    | nil=>rw [hLc] at hif;exact absurd hif (by decide)
    | cons x r=>exact ⟨x,r,rfl⟩
   have hx:(L.map eEvO)[0]?=some (eEvO x):=by rw [hxr];rfl
   have hxs:(L.map eEvO).set 0 (putL 4 [.sc (.bool false)] (eEvO x))=(tie0 L).map eEvO:=by rw [hxr];rfl
   obtain ⟨XR,hXR⟩:∃ z,L.map eEvO=z:=⟨_,rfl⟩
   rw [hXR] at hx hxs hLl ⊢
   clear hXR
   repeat (first|refine W.gob rfl ?_|refine WL.e1 rfl ?_|refine WL.ixs rfl rfl zqs ?_)
   refine (?_:WL _ _ _ _ _ _)
   dsimp only [St.put,Nat.reduceAdd]
   refine WL.stW rfl rfl rfl rfl hx (by show 4+1≤6;omega) rfl ?_
   repeat refine WL.nil ?_
   refine (?_:Tr _ _ _)
   exact (zqu (fun q=>q) (by repeat (first|exact trivial|refine ⟨⟨?_,?_,?_⟩,?_⟩|rfl|exact congrArg (fun q=>some (AO.row _ _ q)) hxs|exact congrArg (fun q=>some (AO.rwn _ _ q)) hxs)) rfl)
  ·have hL0:L=[]:=List.eq_nil_of_length_eq_zero zqo
   have hxs:L.map eEvO=(tie0 L).map eEvO:=by rw [hL0];rfl
   repeat refine W.gob rfl ?_
   refine (?_:Tr _ _ _)
   exact (zqu (fun q=>q) (by repeat (first|exact trivial|refine ⟨⟨?_,?_,?_⟩,?_⟩|rfl|exact congrArg (fun q=>some (AO.row _ _ q)) hxs|exact congrArg (fun q=>some (AO.rwn _ _ q)) hxs)) rfl)
 obtain ⟨E,hE⟩:∃ z,tie0 L=z:=⟨_,rfl⟩
 rw [hE] at htl ht20 ⊢
 clear hst hLl hCp hL hk20 hLO
 have hEl:E.length≤400:=by omega
 have hmE:(E.map eEvO).length=E.length:=List.length_map _
 repeat (first|refine W.gob rfl ?_|refine WL.nil ?_|refine WL.e1 rfl ?_)
 refine (?_:W _ _ _ _ _)
 rw [show E.map eEvO=(stlN E 0 0).map eEvO by rw [stlN_0]]
 refine W.loop (fun n:Nat=>n≤E.length) (fun n=>⟨[(4,.pt 1 0 0),(18,.pt 5 0 0),(22,.sc (.int .i64 n))],[(1,.box 28 [.sc (.slice none 0 0),.sc (.slice none 0 0),.sc (.slice none 0 0)]),(5,.box 28 [.ls 3 (b.cs.map eCrs),.ls 1 (b.st.map eInt),.sl 7]),(7,.rwn 36 6 ((stlN E n 0).map eEvO))],9⟩) (fun n=>E.length - n) 0 (by omega) (zqt id) fun n hn=>?_
 have hnl:((stlN E n 0).map eEvO).length=E.length:=by rw [List.length_map,stlN_len]
 have hnl2:=stlN_len E n 0
 have hsE:=stlE_len E
 by_cases hlt:n < E.length
 rotate_left
 ·obtain rfl:n=E.length:=by omega
  rw [stlN_all]
  repeat (first|refine W.gob rfl ?_|refine WL.nil ?_|refine WL.bf rfl rfl rfl zqo ?_|refine WL.e1 rfl ?_|refine WL.len rfl rfl zql ?_|refine W.condF rfl ?_)
  refine (?_:W _ _ _ _ _)
  dsimp only [St.put,Nat.reduceAdd]
  refine W.tr (Tr.freezeW 7 1 rfl (List.all_eq_true.2 fun r hr=>List.all_eq_true.2 (eEvO_shal _ r hr)) (eEvO_rows _)) ?_
  exact W.ret (finN rfl rfl rfl rfl)
 have hsn:(stlN E n 0)[n]?=some E[n]:=by rw [stlN_at hlt];simp
 have hat:((stlN E n 0).map eEvO)[n]?=some (eEvO E[n]):=by rw [List.getElem?_map,hsn];rfl
 have hn20:=ht20 _ (List.getElem_mem hlt)
 have hS20:∀ j k (h:k < (stlN E n j).length),((stlN E n j)[k]'h).stops.length≤20:=fun j k h=>by
  have hk:k < E.length:=by rw [stlN_len] at h;exact h
  have:=stlN_stops (evs:=E) (n:=n) (k:=j) hk
  have h5:=ht20 _ (List.getElem_mem hk)
  omega
 repeat (first|refine W.gob rfl ?_|refine WL.nil ?_|refine WL.bt rfl rfl rfl zqo ?_|refine WL.e1 rfl ?_|refine WL.len rfl rfl zql ?_|refine W.condT rfl ?_)
 refine (?_:W _ _ _ _ _)
 dsimp only [St.put,Nat.reduceAdd]
 refine W.tr (Tr.open_ 7 n 5 rfl hat rfl (eStp_own _) rfl) ?_
 dsimp only [St.upd,St.new,Nat.reduceAdd]
 refine (?_:W _ _ _ _ _)
 refine W.loop (fun j:Nat=>j≤E[n].stops.length) (fun j=>⟨[(4,.pt 1 0 0),(18,.pt 5 0 0),(22,.sc (.int .i64 n)),(23,.sc (.int .i64 j))],[(1,.box 28 [.sc (.slice none 0 0),.sc (.slice none 0 0),.sc (.slice none 0 0)]),(5,.box 28 [.ls 3 (b.cs.map eCrs),.ls 1 (b.st.map eInt),.sl 7]),(7,.rwo 36 6 ((stlN E n 0).map eEvO) n 5 (.sl 9)),(9,.row 100 5 ((stpK E n j E[n].stops).map eStp))],10⟩) (fun j=>E[n].stops.length - j) 0 (by omega) (zqu (fun q=>q) (by repeat (first|exact trivial|refine ⟨⟨?_,?_,?_⟩,?_⟩|rfl|exact congrArg (fun q=>some (AO.row _ _ q)) (by rw [stpK_0])|exact congrArg (fun q=>some (AO.rwn _ _ q)) (by rw [stpK_0]))) rfl) fun j hj=>?_
 have hjl:((stpK E n j E[n].stops).map eStp).length=E[n].stops.length:=by rw [List.length_map,stpK_len]
 have hjl2:=stpK_len E n j E[n].stops
 by_cases hjt:j < E[n].stops.length
 ·have hrow:=stpK_at (evs:=E) (n:=n) hjt
  have hLC:=rLong_FS ⟨b.cs,b.st,stlN E n j⟩ ⟨hOb.n1,hOb.n2,by show (stlN E n j).length≤420;rw [stlN_len];omega,hS20 j⟩ n E[n].stops[j].1
  have hLC:Ctr Tryz.prog 86 [.ag [.ls 3 (b.cs.map eCrs),.ls 1 (b.st.map eInt),.ls 6 ((stlN E n j).map eEv)],.sc (.int .i64 n),.sc (.int .i64 E[n].stops[j].1)] (.sc (.int .i64 (longestN E n E[n].stops[j].1))):=by
   have h:=hLC
   rw [show longestN (Pce.mk b.cs b.st (stlN E n j)).evs n E[n].stops[j].1=longestN E n E[n].stops[j].1 from stlN_long _ _ _ _ _] at h
   exact h
  have hle:(((stlN E n 0).map eEvO).map fun r=>r.map (AV.fz 1)).set n (((eEvO E[n]).map (AV.fz 1)).set 5 (.ls 5 ((stpK E n j E[n].stops).map eStp)))=(stlN E n j).map eEv:=by
   rw [eEvO_rows,eEvO_fz]
   exact stlN_setE hlt
  have hmin:(if (longestN E n E[n].stops[j].1:Int) < E[n].stops[j].2.2.2.2 then (longestN E n E[n].stops[j].1:Int) else E[n].stops[j].2.2.2.2)=min E[n].stops[j].2.2.2.2 (longestN E n E[n].stops[j].1:Int):=by
   rw [Int.min_def];split<;>split<;>omega
  have hset:=stpK_set (evs:=E) (n:=n) hjt rfl
  have hfin:=hset
  repeat (first|refine W.gob rfl ?_|refine WL.e1 rfl ?_|refine WL.ixs rfl rfl zqs ?_)
  refine (?_:WL _ _ _ _ _ _)
  dsimp only [St.put,Nat.reduceAdd]
  refine WL.ldQ rfl rfl rfl rfl hat (by show 5 < 6;omega) ?_
  repeat (first|refine W.gob rfl ?_|refine WL.nil ?_|refine WL.bt rfl rfl rfl zqo ?_|refine WL.e1 rfl ?_|refine WL.len rfl rfl zql ?_|refine WL.ixs rfl rfl zqs ?_|refine W.condT rfl ?_)
  refine (?_:WL _ _ _ _ _ _)
  dsimp only [St.put,Nat.reduceAdd]
  refine WL.ldQ rfl rfl rfl rfl hat (by show 5 < 6;omega) ?_
  repeat (first|refine WL.nil ?_|refine WL.e1 rfl ?_|refine WL.ixs rfl rfl zqs ?_)
  refine (?_:W _ _ _ _ _)
  dsimp only [St.put,Nat.reduceAdd]
  refine W.of_wa zqk ?_
  refine WA.dt [false,false,false,false,false,false,false,false,false,false,false,false,false,false,false,true] [5] [5,7,9] 15 zqk zqk zqk ⟨rfl,trivial⟩ ⟨rfl,rfl,rfl,trivial⟩ ?_
  refine DTK.st rfl zqk rfl ?_
  refine DTK.st rfl zqk rfl ?_
  refine DTK.vl rfl zqk (WV.nch rfl rfl) ?_
  refine DTK.st rfl zqk rfl ?_
  refine DTK.ldr rfl zqk rfl hrow rfl rfl ?_
  refine DTK.st rfl zqk rfl ?_
  refine DTK.st rfl zqk rfl ?_
  refine DTK.st rfl zqk rfl ?_
  refine DTK.vl rfl zqk (WV.nch rfl rfl) ?_
  refine DTK.st rfl zqk rfl ?_
  refine DTK.ldr rfl zqk rfl hrow rfl rfl ?_
  refine DTK.vl rfl zqk (WV.lendX (truH _) rfl (callF Tryz.func86 rfl rfl) rfl (.cons (Lent.ag (.cons (Lent.pu rfl) (.cons (Lent.pu rfl) (.cons (Lent.rwo 1 rfl (Lent.row rfl) (eEvO_shal _) hat (by show 5 < 6;omega) hle) .nil)))) (.cons (Lent.pu rfl) (.cons (Lent.pu rfl) .nil))) truST hLC.g) ?_
  refine DTK.vl rfl zqk (mmV_as rfl hmin) ?_
  refine DTK.vl rfl zqk (WV.nch rfl rfl) ?_
  refine DTK.st rfl zqk rfl ?_
  refine DTK.sto rfl rfl rfl rfl rfl rfl rfl rfl rfl rfl rfl rfl (put_row hrow (by show 4+1≤5;omega) rfl) rfl ⟨rfl,trivial⟩ (fun h=>by cases h) ?_
  refine DTK.nil ?_
  repeat (first|refine W.gob rfl ?_|refine WL.nil ?_|refine WL.e1 rfl ?_|refine WL.ar rfl rfl z39i ?_)
  dsimp only [St.put,Nat.reduceAdd]
  refine ⟨j+1,by omega,by omega,?_⟩
  exact (zqu (fun q=>q) (by repeat (first|exact trivial|refine ⟨⟨?_,?_,?_⟩,?_⟩|rfl|exact congrArg (fun q=>some (AO.row _ _ q)) hfin|exact congrArg (fun q=>some (AO.rwn _ _ q)) hfin)) rfl)
 obtain rfl:j=E[n].stops.length:=by omega
 have hcl:((stlN E n 0).map eEvO).set n ((eEvO E[n]).set 5 (.ow 100 5 ((stpK E n E[n].stops.length E[n].stops).map eStp)))=(stlN E (n+1) 0).map eEvO :=
  (stlN_set (k:=E[n].stops.length) hlt).trans (by rw [stlN_next hlt rfl])
 repeat (first|refine W.gob rfl ?_|refine WL.e1 rfl ?_|refine WL.ixs rfl rfl zqs ?_)
 refine (?_:WL _ _ _ _ _ _)
 dsimp only [St.put,Nat.reduceAdd]
 refine WL.ldQ rfl rfl rfl rfl hat (by show 5 < 6;omega) ?_
 repeat (first|refine W.gob rfl ?_|refine WL.nil ?_|refine WL.bf rfl rfl rfl zqo ?_|refine WL.e1 rfl ?_|refine WL.ar rfl rfl z39i ?_|refine WL.len rfl rfl zql ?_|refine W.condF rfl ?_)
 dsimp only [St.put,Nat.reduceAdd]
 refine ⟨n+1,by omega,by omega,?_⟩
 refine Tr.trans (Tr.close_ 7 rfl rfl rfl hat (by show 5 < 6;omega) hcl) ?_
 exact (zqt id)
end
end Go.Proofs.YtgelfflighgajaaGreatDoor
