/- Collate of the reference, and the law BookCollates. -/
import Derived.Test.YtgelfflighgajaaGreatDoorClOq
import Derived.Test.YtgelfflighgajaaGreatDoorRCoOq
import Derived.Test.YtgelfflighgajaaGreatDoorRPnOq
import Derived.Test.YtgelfflighgajaaGreatDoorLngOq
set_option maxHeartbeats 8000000
set_option maxRecDepth 100000
set_option linter.unusedVariables false
set_option linter.unusedSimpArgs false
namespace Go.Proofs.YtgelfflighgajaaGreatDoor
open Go.RowKit
theorem z38i {z:Int} (h:I64 z:=by unfold I64;omega):I64 z:=h
theorem rCollate_FS (a b:Pce) (hOa:PcOk a) (hOb:PcOk b) (h60a:a.evs.length≤60) (h60b:b.evs.length≤60):Ctr Tryz.prog 26 [ePce a,ePce b] (.tu [.ls 2 ((cllL a b).map ePr),.sc (.int .i64 (cllN a b)),.sc (.int .i64 (cllX a b))]):=by
 have hPa:=rPlain_FS a hOa
 have hPb:=rPlain_FS b hOb
 have hS:=rSameI_FS a.cs a.st b.cs b.st hOa.n1 hOa.n2 hOb.n1 hOb.n2
 by_cases hpa:pceE a=0
 rotate_left
 ·obtain ⟨e1,_,_,e2,e3⟩:=cll_1 (b:=b) hpa
  rw [e1,e2,e3]
  obtain ⟨E,hE⟩:∃ E,pceE a=E:=⟨_,rfl⟩
  rw [hE] at hPa hpa ⊢
  obtain ⟨Z,hZ⟩:∃ Z,plP a=Z:=⟨_,rfl⟩
  rw [hZ] at hPa
  refine zqe Tryz.func26 Tryz.ntmps26 fun w0 F0=>?_;dsimp only [St.init,number,Nat.reduceAdd]
  repeat refine W.go rfl ?_
  refine (?_:WL _ _ _ _ _ _)
  refine WL.vl rfl (zqc Tryz.func30 hPa) ?_
  repeat (first|refine W.gob rfl ?_|refine WL.nil ?_|refine WL.nt rfl rfl rfl zqo ?_|refine WL.e1 rfl ?_|refine W.condT rfl ?_)
  refine (?_:W _ _ _ _ _)
  refine W.tr (Tr.nilR (t:=4) 2 rfl) ?_
  exact W.ret (finN rfl rfl rfl rfl)
 have ea:plP a=⟨a.cs,a.st,plE a⟩:=if_pos hpa
 rw [ea,hpa] at hPa
 by_cases hpb:pceE b=0
 rotate_left
 ·obtain ⟨e1,_,_,e2,e3⟩:=cll_2 hpa hpb
  rw [e1,e2,e3]
  obtain ⟨E,hE⟩:∃ E,pceE b=E:=⟨_,rfl⟩
  rw [hE] at hPb hpb ⊢
  obtain ⟨Z,hZ⟩:∃ Z,plP b=Z:=⟨_,rfl⟩
  rw [hZ] at hPb
  refine zqe Tryz.func26 Tryz.ntmps26 fun w0 F0=>?_;dsimp only [St.init,number,Nat.reduceAdd]
  repeat refine W.go rfl ?_
  refine (?_:WL _ _ _ _ _ _)
  refine WL.vl rfl (zqc Tryz.func30 hPa) ?_
  repeat (first|refine W.gob rfl ?_|refine WL.nil ?_|refine WL.nf rfl rfl rfl zqo ?_|refine WL.e1 rfl ?_|refine W.condF rfl ?_)
  refine (?_:WL _ _ _ _ _ _)
  refine WL.vl rfl (zqc Tryz.func30 hPb) ?_
  repeat (first|refine W.gob rfl ?_|refine WL.nil ?_|refine WL.nt rfl rfl rfl zqo ?_|refine WL.e1 rfl ?_|refine W.condT rfl ?_)
  refine (?_:W _ _ _ _ _)
  refine W.tr (Tr.nilR (t:=4) 2 rfl) ?_
  exact W.ret (finN rfl rfl rfl rfl)
 have eb:plP b=⟨b.cs,b.st,plE b⟩:=if_pos hpb
 rw [eb,hpb] at hPb
 cases hs:sameI a.cs a.st b.cs b.st with
 | false =>
  obtain ⟨e1,_,_,e2,e3⟩:=cll_3 hpa hpb hs
  rw [e1,e2,e3]
  rw [hs] at hS
  refine zqe Tryz.func26 Tryz.ntmps26 fun w0 F0=>?_;dsimp only [St.init,number,Nat.reduceAdd]
  repeat refine W.go rfl ?_
  refine (?_:WL _ _ _ _ _ _)
  refine WL.vl rfl (zqc Tryz.func30 hPa) ?_
  repeat (first|refine W.gob rfl ?_|refine WL.nil ?_|refine WL.nf rfl rfl rfl zqo ?_|refine WL.e1 rfl ?_|refine W.condF rfl ?_)
  refine (?_:WL _ _ _ _ _ _)
  refine WL.vl rfl (zqc Tryz.func30 hPb) ?_
  repeat (first|refine W.gob rfl ?_|refine WL.nil ?_|refine WL.nf rfl rfl rfl zqo ?_|refine WL.e1 rfl ?_|refine W.condF rfl ?_)
  refine (?_:WL _ _ _ _ _ _)
  refine WL.vl rfl (zqc Tryz.func29 hS) ?_
  repeat (first|refine W.gob rfl ?_|refine WL.nil ?_|refine WL.e1 rfl ?_|refine W.condT rfl ?_)
  refine (?_:W _ _ _ _ _)
  refine W.tr (Tr.nilR (t:=4) 2 rfl) ?_
  exact W.ret (finN rfl rfl rfl rfl)
 | true =>
 obtain ⟨e1,_,_,e2,e3⟩:=cll_4 hpa hpb hs
 rw [e1,e2,e3]
 rw [hs] at hS
 have hla:=plE_length a
 have hlb:=plE_length b
 have ha2:=plE_20 hOa
 have hb2:=plE_20 hOb
 have hO1:PcOk ⟨a.cs,a.st,plE a⟩:=⟨hOa.n1,hOa.n2,by show (plE a).length≤420;omega,fun k hk=>ha2 _ (List.getElem_mem hk)⟩
 have hO2:PcOk ⟨b.cs,b.st,plE b⟩:=⟨hOb.n1,hOb.n2,by show (plE b).length≤420;omega,fun k hk=>hb2 _ (List.getElem_mem hk)⟩
 have hCo:=costs_FS ⟨a.cs,a.st,plE a⟩ ⟨b.cs,b.st,plE b⟩ hO1 hO2 (by show (plE a).length≤60;omega) (by show (plE b).length≤60;omega)
 obtain ⟨PA,hPA⟩:∃ z,plE a=z:=⟨_,rfl⟩
 obtain ⟨PB,hPB⟩:∃ z,plE b=z:=⟨_,rfl⟩
 rw [hPA] at hPa hla ha2 hCo ⊢
 rw [hPB] at hPb hlb hb2 hCo ⊢
 clear hO1 hO2
 have hCo:Ctr Tryz.prog 64 [ePce ⟨a.cs,a.st,PA⟩,ePce ⟨b.cs,b.st,PB⟩] (.ls 1 (tabA PA PB)):=hCo
 have hbd:=csA_bd ha2 hb2
 have hnn:=csA_nn PA PB
 have hRh:∀ q (h:q≤PA.length),(tabA PA PB)[q]?=some (rowC PA PB q):=fun q h=>rws_hi h (by omega)
 have hRl:(tabA PA PB).length=PA.length+1:=rws_len PA PB (-1)
 obtain ⟨RW,hRW⟩:∃ z,tabA PA PB=z:=⟨_,rfl⟩
 rw [hRW] at hRh hRl hCo
 have hI:∀ i,i≤PA.length→(RW)[((i:Nat):Int).toNat]?=some (rowC PA PB i):=fun i h=>by rw [Int.toNat_natCast];exact hRh i h
 have hI1:∀ i,i+1≤PA.length→(RW)[((i:Int)+1).toNat]?=some (rowC PA PB (i+1)):=fun i h=>by rw [show ((i:Int)+1).toNat=i+1 by omega];exact hRh _ h
 have hJ:∀ i k,k≤PB.length→((rowA PA PB i).map eInt)[((k:Nat):Int).toNat]?=some (eInt (csA PA PB i k)):=fun i k h=>by rw [Int.toNat_natCast];exact rowA_map h
 have hJ1:∀ i k,k+1≤PB.length→((rowA PA PB i).map eInt)[((k:Int)+1).toNat]?=some (eInt (csA PA PB i (k+1))):=fun i k h=>by rw [show ((k:Int)+1).toNat=k+1 by omega];exact rowA_map h
 refine zqe Tryz.func26 Tryz.ntmps26 fun w0 F0=>?_;dsimp only [St.init,number,Nat.reduceAdd]
 repeat refine W.go rfl ?_
 refine (?_:WL _ _ _ _ _ _)
 refine WL.vl rfl (zqc Tryz.func30 hPa) ?_
 repeat (first|refine W.gob rfl ?_|refine WL.nil ?_|refine WL.nf rfl rfl rfl zqo ?_|refine WL.e1 rfl ?_|refine W.condF rfl ?_)
 refine (?_:WL _ _ _ _ _ _)
 refine WL.vl rfl (zqc Tryz.func30 hPb) ?_
 repeat (first|refine W.gob rfl ?_|refine WL.nil ?_|refine WL.nf rfl rfl rfl zqo ?_|refine WL.e1 rfl ?_|refine W.condF rfl ?_)
 refine (?_:WL _ _ _ _ _ _)
 refine WL.vl rfl (zqc Tryz.func29 hS) ?_
 repeat (first|refine W.gob rfl ?_|refine WL.nil ?_|refine WL.e1 rfl ?_|refine W.condF rfl ?_)
 refine (?_:WL _ _ _ _ _ _)
 refine WL.vl rfl (zqc Tryz.func64 hCo) ?_
 repeat (first|refine W.gob rfl ?_|refine WL.nil ?_|refine WL.e1 rfl ?_)
 refine (?_:W _ _ _ _ _)
 first|refine W.tr (Tr.nil (t:=11) 123 2 rfl rfl) ?_|refine WL.tr (Tr.nil (t:=11) 123 2 rfl rfl) ?_
 dsimp only [St.put,St.new,St.upd,Nat.reduceAdd]
 refine (?_:W _ _ _ _ _)
 refine W.loop (fun s:Nat×Nat×List (Int×Int)=>s.1≤PA.length∧s.2.1≤PB.length∧s.2.2.length≤s.1+s.2.1∧s.2.2++prs PA PB (PA.length - s.1+(PB.length - s.2.1)) s.1 s.2.1=prsA PA PB)
  (fun s=>⟨[(7,.pt 0 0 0),(9,.pt 1 0 0),(10,.ls 1 RW),(11,.sl 2),(12,.sc (.int .i64 s.1)),(13,.sc (.int .i64 s.2.1))],[(0,.box 28 [.ls 3 (a.cs.map eCrs),.ls 1 (a.st.map eInt),.ls 6 (PA.map eEv)]),(1,.box 28 [.ls 3 (b.cs.map eCrs),.ls 1 (b.st.map eInt),.ls 6 (PB.map eEv)]),(2,.row 123 2 (s.2.2.map ePr))],3⟩) (fun s=>(PA.length - s.1)+(PB.length - s.2.1)) (0,0,[]) ⟨by simp,by simp,by simp,rfl⟩ (zqu (fun q=>bif Nat.beq q 0 then 2 else bif Nat.beq q 1 then 3 else bif Nat.beq q 2 then 4 else q) (by repeat (first|exact trivial|refine ⟨⟨?_,?_,?_⟩,?_⟩|rfl|exact congrArg (fun q=>some (AO.row _ _ q)) rfl)) rfl) fun s hs=>?_
 obtain ⟨i,k,L⟩:=s
 obtain ⟨hi,hk,hLl,hL⟩:=hs
 dsimp only at hi hk hL hLl ⊢
 have hPAl:PA.length≤60:=by omega
 have hPBl:PB.length≤60:=by omega
 clear hla hlb
 by_cases hend:i=PA.length∧k=PB.length
 ·obtain ⟨rfl,rfl⟩:=hend
  rw [prs_end,List.append_nil] at hL
  rw [hL]
  have h0:=hI 0 zqo
  have h1:=hJ 0 0 zqo
  repeat (first|refine W.gob rfl ?_|refine WL.nil ?_|refine WL.bf rfl rfl rfl zqo ?_|refine WL.e1 rfl ?_|refine WL.gyes rfl rfl rfl rfl ?_|refine WL.len rfl rfl zql ?_|refine W.condF rfl ?_)
  refine (?_:W _ _ _ _ _)
  refine W.drawK zqk zqk ?_
  repeat refine DK.st rfl ?_
  refine DK.idx rfl rfl zqo h0 ?_
  repeat refine DK.st rfl ?_
  refine DK.idx rfl rfl zqo h1 ?_
  repeat (first|refine DK.st rfl ?_|refine DK.nil ?_)
  refine W.tr (Tr.freeze 2 rfl) ?_
  exact W.ret (finN rfl rfl rfl rfl)
 by_cases hia:i < PA.length
 ·have hal:=ha2 _ (List.getElem_mem hia)
  have halE:alnE PA[i]=1+(PA[i].stops.length:Int):=rfl
  have q0:=hI i hi
  have q1:=hI1 i zqo
  have p0:=hJ i k hk
  have p2:=hJ (i+1) k hk
  have b0:=hbd i k
  have n0:=hnn i k
  have b2:=hbd (i+1) k
  have n2:=hnn (i+1) k
  have ealA:=alA_at hia
  rw [halE] at ealA
  by_cases hkb:k < PB.length
  ·have hbl:=hb2 _ (List.getElem_mem hkb)
   have hD:=rDist_FS PA[i] PB[k] hal hbl
   have hDb:=dstE_bd PA[i] PB[k]
   have p1:=hJ1 (i+1) k zqo
   have b1:=hbd (i+1) (k+1)
   have n1:=hnn (i+1) (k+1)
   have edsA:=dsA_at hia hkb
   have hf:PA.length - i+(PB.length - k)=(PA.length - (i+1)+(PB.length - (k+1))+1)+1:=by omega
   have hf1:PA.length - i+(PB.length - k)=(PA.length - (i+1)+(PB.length - k))+1:=by omega
   have hf2:PA.length - i+(PB.length - k)=(PA.length - i+(PB.length - (k+1)))+1:=by omega
   by_cases he1:csA PA PB i k=dsA PA PB i k+csA PA PB (i+1) (k+1)
   ·have hfe:prs PA PB (PA.length - (i+1)+(PB.length - (k+1))+1) (i+1) (k+1)=prs PA PB (PA.length - (i+1)+(PB.length - (k+1))) (i+1) (k+1):=prs_fuel zqo zqo zqo
    rw [hf,prs_b hia hkb he1,hfe] at hL
    rw [edsA] at he1
    obtain ⟨c0,hc0⟩:∃ z,csA PA PB i k=z:=⟨_,rfl⟩
    obtain ⟨c1,hc1⟩:∃ z,csA PA PB (i+1) (k+1)=z:=⟨_,rfl⟩
    obtain ⟨dd,hdd⟩:∃ z,dstE PA[i] PB[k]=z:=⟨_,rfl⟩
    rw [hc0] at he1 p0 b0 n0
    rw [hc1] at he1 p1 b1 n1
    rw [hdd] at he1 hD hDb
    clear hf hf1 hf2 b2 n2 halE
    repeat (first|refine W.gob rfl ?_|refine WL.nil ?_|refine WL.bt rfl rfl rfl zqo ?_|refine WL.e1 rfl ?_|refine WL.opno rfl rfl rfl rfl rfl rfl rfl ?_|refine WL.len rfl rfl zql ?_|refine W.condT rfl ?_)
    refine (?_:W _ _ _ _ _)
    refine W.drawK zqk zqk ?_
    repeat (first|refine DK.bt rfl rfl (by omega) ?_|refine DK.tt rfl (by first|(simp;done)|fail) ?_|refine DK.st rfl ?_|refine DK.len rfl rfl zql ?_)
    refine DK.idx rfl rfl zqo q0 ?_
    repeat refine DK.st rfl ?_
    refine DK.idx rfl rfl zqo p0 ?_
    repeat (first|refine DK.st rfl ?_|refine DK.idx rfl rfl zqo zqm ?_)
    refine DK.vl rfl (zqc Tryz.func65 hD) ?_
    repeat (first|refine DK.st rfl ?_|refine DK.ar rfl rfl z38i ?_)
    refine DK.idx rfl rfl zqo q1 ?_
    repeat (first|refine DK.st rfl ?_|refine DK.ar rfl rfl z38i ?_)
    refine DK.idx rfl rfl zqo p1 ?_
    repeat (first|refine DK.bt rfl rfl (by omega) ?_|refine DK.tt rfl (by first|(simp;done)|fail) ?_|refine DK.st rfl ?_|refine DK.ar rfl rfl z38i ?_|refine DK.nil ?_)
    repeat (first|refine W.gob rfl ?_|refine WL.nil ?_|refine WL.e1 rfl ?_|refine WL.ar rfl rfl z38i ?_|refine WL.app rfl rfl rfl zqs ?_|refine W.condT rfl ?_)
    refine ⟨(i+1,k+1,L++[((i:Int),(k:Int))]),⟨by show i+1≤_;omega,by show k+1≤_;omega,by simp;omega,by rw [List.append_assoc];exact hL⟩,by show PA.length - (i+1)+(PB.length - (k+1)) < PA.length - i+(PB.length - k);omega,?_⟩
    exact (zqu (fun q=>bif Nat.beq q 2 then 4 else q) (by repeat (first|exact trivial|refine ⟨⟨?_,?_,?_⟩,?_⟩|rfl|exact congrArg (fun q=>some (AO.row _ _ q)) (by rw [List.map_append];rfl))) rfl)
   ·by_cases he2:csA PA PB i k=alA PA i+csA PA PB (i+1) k
    ·rw [hf1,prs_l hia (fun h=>he1 h.2) he2] at hL
     rw [edsA] at he1
     rw [ealA] at he2
     obtain ⟨c0,hc0⟩:∃ z,csA PA PB i k=z:=⟨_,rfl⟩
     obtain ⟨c1,hc1⟩:∃ z,csA PA PB (i+1) (k+1)=z:=⟨_,rfl⟩
     obtain ⟨c2,hc2⟩:∃ z,csA PA PB (i+1) k=z:=⟨_,rfl⟩
     obtain ⟨dd,hdd⟩:∃ z,dstE PA[i] PB[k]=z:=⟨_,rfl⟩
     rw [hc0] at he1 he2 p0 b0 n0
     rw [hc1] at he1 p1 b1 n1
     rw [hc2] at he2 p2 b2 n2
     rw [hdd] at he1 hD hDb
     clear hf hf1 hf2 halE
     repeat (first|refine W.gob rfl ?_|refine WL.nil ?_|refine WL.bt rfl rfl rfl zqo ?_|refine WL.e1 rfl ?_|refine WL.opno rfl rfl rfl rfl rfl rfl rfl ?_|refine WL.len rfl rfl zql ?_|refine W.condT rfl ?_)
     refine (?_:W _ _ _ _ _)
     refine W.drawK zqk zqk ?_
     repeat (first|refine DK.bt rfl rfl (by omega) ?_|refine DK.tt rfl (by first|(simp;done)|fail) ?_|refine DK.st rfl ?_|refine DK.len rfl rfl zql ?_)
     refine DK.idx rfl rfl zqo q0 ?_
     repeat refine DK.st rfl ?_
     refine DK.idx rfl rfl zqo p0 ?_
     repeat (first|refine DK.st rfl ?_|refine DK.idx rfl rfl zqo zqm ?_)
     refine DK.vl rfl (zqc Tryz.func65 hD) ?_
     repeat (first|refine DK.st rfl ?_|refine DK.ar rfl rfl z38i ?_)
     refine DK.idx rfl rfl zqo q1 ?_
     repeat (first|refine DK.st rfl ?_|refine DK.ar rfl rfl z38i ?_)
     refine DK.idx rfl rfl zqo p1 ?_
     repeat (first|refine DK.bf rfl rfl (by omega) ?_|refine DK.ff rfl (by first|(simp;done)|fail) ?_|refine DK.st rfl ?_|refine DK.ar rfl rfl z38i ?_|refine DK.nil ?_)
     repeat (first|refine W.gob rfl ?_|refine W.condF rfl ?_)
     refine (?_:W _ _ _ _ _)
     refine W.drawK zqk zqk ?_
     repeat (first|refine DK.bt rfl rfl (by omega) ?_|refine DK.tt rfl (by first|(simp;done)|fail) ?_|refine DK.st rfl ?_|refine DK.len rfl rfl zql ?_)
     refine DK.idx rfl rfl zqo q0 ?_
     repeat refine DK.st rfl ?_
     refine DK.idx rfl rfl zqo p0 ?_
     repeat (first|refine DK.st rfl ?_|refine DK.ar rfl rfl z38i ?_|refine DK.len rfl rfl zql ?_|refine DK.idx rfl rfl zqo zqm ?_)
     refine DK.idx rfl rfl zqo q1 ?_
     repeat refine DK.st rfl ?_
     refine DK.idx rfl rfl zqo p2 ?_
     repeat (first|refine DK.bt rfl rfl (by omega) ?_|refine DK.tt rfl (by first|(simp;done)|fail) ?_|refine DK.st rfl ?_|refine DK.ar rfl rfl z38i ?_|refine DK.nil ?_)
     repeat (first|refine W.gob rfl ?_|refine WL.nil ?_|refine WL.e1 rfl ?_|refine WL.ar rfl rfl z38i ?_|refine WL.app rfl rfl rfl zqs ?_|refine W.condT rfl ?_)
     refine ⟨(i+1,k,L++[((i:Int),-1)]),⟨by show i+1≤_;omega,hk,by simp;omega,by rw [List.append_assoc];exact hL⟩,by show PA.length - (i+1)+(PB.length - k) < PA.length - i+(PB.length - k);omega,?_⟩
     exact (zqu (fun q=>bif Nat.beq q 2 then 4 else q) (by repeat (first|exact trivial|refine ⟨⟨?_,?_,?_⟩,?_⟩|rfl|exact congrArg (fun q=>some (AO.row _ _ q)) (by rw [List.map_append];rfl))) rfl)
    ·rw [hf2,prs_r hkb (fun h=>he1 h.2) (fun h=>he2 h.2)] at hL
     rw [edsA] at he1
     rw [ealA] at he2
     obtain ⟨c0,hc0⟩:∃ z,csA PA PB i k=z:=⟨_,rfl⟩
     obtain ⟨c1,hc1⟩:∃ z,csA PA PB (i+1) (k+1)=z:=⟨_,rfl⟩
     obtain ⟨c2,hc2⟩:∃ z,csA PA PB (i+1) k=z:=⟨_,rfl⟩
     obtain ⟨dd,hdd⟩:∃ z,dstE PA[i] PB[k]=z:=⟨_,rfl⟩
     rw [hc0] at he1 he2 p0 b0 n0
     rw [hc1] at he1 p1 b1 n1
     rw [hc2] at he2 p2 b2 n2
     rw [hdd] at he1 hD hDb
     clear hf hf1 hf2 halE
     repeat (first|refine W.gob rfl ?_|refine WL.nil ?_|refine WL.bt rfl rfl rfl zqo ?_|refine WL.e1 rfl ?_|refine WL.opno rfl rfl rfl rfl rfl rfl rfl ?_|refine WL.len rfl rfl zql ?_|refine W.condT rfl ?_)
     refine (?_:W _ _ _ _ _)
     refine W.drawK zqk zqk ?_
     repeat (first|refine DK.bt rfl rfl (by omega) ?_|refine DK.tt rfl (by first|(simp;done)|fail) ?_|refine DK.st rfl ?_|refine DK.len rfl rfl zql ?_)
     refine DK.idx rfl rfl zqo q0 ?_
     repeat refine DK.st rfl ?_
     refine DK.idx rfl rfl zqo p0 ?_
     repeat (first|refine DK.st rfl ?_|refine DK.idx rfl rfl zqo zqm ?_)
     refine DK.vl rfl (zqc Tryz.func65 hD) ?_
     repeat (first|refine DK.st rfl ?_|refine DK.ar rfl rfl z38i ?_)
     refine DK.idx rfl rfl zqo q1 ?_
     repeat (first|refine DK.st rfl ?_|refine DK.ar rfl rfl z38i ?_)
     refine DK.idx rfl rfl zqo p1 ?_
     repeat (first|refine DK.bf rfl rfl (by omega) ?_|refine DK.ff rfl (by first|(simp;done)|fail) ?_|refine DK.st rfl ?_|refine DK.ar rfl rfl z38i ?_|refine DK.nil ?_)
     repeat (first|refine W.gob rfl ?_|refine W.condF rfl ?_)
     refine (?_:W _ _ _ _ _)
     refine W.drawK zqk zqk ?_
     repeat (first|refine DK.bt rfl rfl (by omega) ?_|refine DK.tt rfl (by first|(simp;done)|fail) ?_|refine DK.st rfl ?_|refine DK.len rfl rfl zql ?_)
     refine DK.idx rfl rfl zqo q0 ?_
     repeat refine DK.st rfl ?_
     refine DK.idx rfl rfl zqo p0 ?_
     repeat (first|refine DK.st rfl ?_|refine DK.ar rfl rfl z38i ?_|refine DK.len rfl rfl zql ?_|refine DK.idx rfl rfl zqo zqm ?_)
     refine DK.idx rfl rfl zqo q1 ?_
     repeat refine DK.st rfl ?_
     refine DK.idx rfl rfl zqo p2 ?_
     repeat (first|refine DK.bf rfl rfl (by omega) ?_|refine DK.ff rfl (by first|(simp;done)|fail) ?_|refine DK.st rfl ?_|refine DK.ar rfl rfl z38i ?_|refine DK.nil ?_)
     repeat (first|refine W.gob rfl ?_|refine WL.nil ?_|refine WL.e1 rfl ?_|refine WL.ar rfl rfl z38i ?_|refine WL.app rfl rfl rfl zqs ?_|refine W.condF rfl ?_)
     refine ⟨(i,k+1,L++[(-1,(k:Int))]),⟨hi,by show k+1≤_;omega,by simp;omega,by rw [List.append_assoc];exact hL⟩,by show PA.length - i+(PB.length - (k+1)) < PA.length - i+(PB.length - k);omega,?_⟩
     exact (zqu (fun q=>bif Nat.beq q 2 then 4 else q) (by repeat (first|exact trivial|refine ⟨⟨?_,?_,?_⟩,?_⟩|rfl|exact congrArg (fun q=>some (AO.row _ _ q)) (by rw [List.map_append];rfl))) rfl)
  ·have hkb2:k=PB.length:=by omega
   subst hkb2
   have hf1:PA.length - i+(PB.length - PB.length)=(PA.length - (i+1)+(PB.length - PB.length))+1:=by omega
   have he2:csA PA PB i PB.length=alA PA i+csA PA PB (i+1) PB.length:=by rw [alA_at hia];exact csA_l hia
   rw [hf1,prs_l hia (fun h=>Nat.lt_irrefl _ h.1) he2] at hL
   rw [ealA] at he2
   obtain ⟨c0,hc0⟩:∃ z,csA PA PB i PB.length=z:=⟨_,rfl⟩
   obtain ⟨c2,hc2⟩:∃ z,csA PA PB (i+1) PB.length=z:=⟨_,rfl⟩
   rw [hc0] at he2 p0 b0 n0
   rw [hc2] at he2 p2 b2 n2
   clear hf1 halE
   repeat (first|refine W.gob rfl ?_|refine WL.nil ?_|refine WL.bt rfl rfl rfl zqo ?_|refine WL.e1 rfl ?_|refine WL.opno rfl rfl rfl rfl rfl rfl rfl ?_|refine WL.len rfl rfl zql ?_|refine W.condT rfl ?_)
   refine (?_:W _ _ _ _ _)
   refine W.drawK zqk zqk ?_
   repeat (first|refine DK.bt rfl rfl (by omega) ?_|refine DK.bf rfl rfl (by omega) ?_|refine DK.tt rfl (by first|(simp;done)|fail) ?_|refine DK.ff rfl (by first|(simp;done)|fail) ?_|refine DK.st rfl ?_|refine DK.len rfl rfl zql ?_|refine DK.nil ?_)
   repeat (first|refine W.gob rfl ?_|refine W.condF rfl ?_)
   refine (?_:W _ _ _ _ _)
   refine W.drawK zqk zqk ?_
   repeat (first|refine DK.bt rfl rfl (by omega) ?_|refine DK.tt rfl (by first|(simp;done)|fail) ?_|refine DK.st rfl ?_|refine DK.len rfl rfl zql ?_)
   refine DK.idx rfl rfl zqo q0 ?_
   repeat refine DK.st rfl ?_
   refine DK.idx rfl rfl zqo p0 ?_
   repeat (first|refine DK.st rfl ?_|refine DK.ar rfl rfl z38i ?_|refine DK.len rfl rfl zql ?_|refine DK.idx rfl rfl zqo zqm ?_)
   refine DK.idx rfl rfl zqo q1 ?_
   repeat refine DK.st rfl ?_
   refine DK.idx rfl rfl zqo p2 ?_
   repeat (first|refine DK.bt rfl rfl (by omega) ?_|refine DK.tt rfl (by first|(simp;done)|fail) ?_|refine DK.st rfl ?_|refine DK.ar rfl rfl z38i ?_|refine DK.nil ?_)
   repeat (first|refine W.gob rfl ?_|refine WL.nil ?_|refine WL.e1 rfl ?_|refine WL.ar rfl rfl z38i ?_|refine WL.app rfl rfl rfl zqs ?_|refine W.condT rfl ?_)
   refine ⟨(i+1,PB.length,L++[((i:Int),-1)]),⟨by show i+1≤_;omega,hk,by simp;omega,by rw [List.append_assoc];exact hL⟩,by show PA.length - (i+1)+(PB.length - PB.length) < PA.length - i+(PB.length - PB.length);omega,?_⟩
   exact (zqu (fun q=>bif Nat.beq q 2 then 4 else q) (by repeat (first|exact trivial|refine ⟨⟨?_,?_,?_⟩,?_⟩|rfl|exact congrArg (fun q=>some (AO.row _ _ q)) (by rw [List.map_append];rfl))) rfl)
 ·have hie:i=PA.length:=by omega
  subst hie
  have hkb:k < PB.length:=by omega
  have hf2:PA.length - PA.length+(PB.length - k)=(PA.length - PA.length+(PB.length - (k+1)))+1:=by omega
  rw [hf2,prs_r hkb (fun h=>Nat.lt_irrefl _ h.1) (fun h=>Nat.lt_irrefl _ h.1)] at hL
  clear hf2
  repeat (first|refine W.gob rfl ?_|refine WL.nil ?_|refine WL.bt rfl rfl rfl zqo ?_|refine WL.bf rfl rfl rfl zqo ?_|refine WL.e1 rfl ?_|refine WL.gyes rfl rfl rfl rfl ?_|refine WL.len rfl rfl zql ?_|refine W.condT rfl ?_)
  refine (?_:W _ _ _ _ _)
  refine W.drawK zqk zqk ?_
  repeat (first|refine DK.bf rfl rfl (by omega) ?_|refine DK.ff rfl (by first|(simp;done)|fail) ?_|refine DK.st rfl ?_|refine DK.len rfl rfl zql ?_|refine DK.nil ?_)
  repeat (first|refine W.gob rfl ?_|refine W.condF rfl ?_)
  refine (?_:W _ _ _ _ _)
  refine W.drawK zqk zqk ?_
  repeat (first|refine DK.bf rfl rfl (by omega) ?_|refine DK.ff rfl (by first|(simp;done)|fail) ?_|refine DK.st rfl ?_|refine DK.len rfl rfl zql ?_|refine DK.nil ?_)
  repeat (first|refine W.gob rfl ?_|refine WL.nil ?_|refine WL.e1 rfl ?_|refine WL.ar rfl rfl z38i ?_|refine WL.app rfl rfl rfl zqs ?_|refine W.condF rfl ?_)
  refine ⟨(PA.length,k+1,L++[(-1,(k:Int))]),⟨hi,by show k+1≤_;omega,by simp;omega,by rw [List.append_assoc];exact hL⟩,by show PA.length - PA.length+(PB.length - (k+1)) < PA.length - PA.length+(PB.length - k);omega,?_⟩
  exact (zqu (fun q=>bif Nat.beq q 2 then 4 else q) (by repeat (first|exact trivial|refine ⟨⟨?_,?_,?_⟩,?_⟩|rfl|exact congrArg (fun q=>some (AO.row _ _ q)) (by rw [List.map_append];rfl))) rfl)
end Go.Proofs.YtgelfflighgajaaGreatDoor
