/- book.Incipit: the program. -/
import Derived.Test.YtgelfflighgajaaGreatDoorNteOq
import Derived.Test.YtgelfflighgajaaGreatDoorMlPOq
set_option maxHeartbeats 8000000
set_option maxRecDepth 100000
set_option linter.unusedVariables false
set_option linter.unusedSimpArgs false
namespace Go.Proofs.YtgelfflighgajaaGreatDoor
section
open Go.RowKit
theorem z21i {z:Int} (h:I64 z:=by unfold I64;omega):I64 z:=h
def notesP(p:Pce):List Nt:=if pceE p=0 then notesR p p.evs.length else []
theorem notesR_len {p:Pce} (hO:PcOk p)(h0:pceE p=0):(notesR p p.evs.length).length≤8400:=by
 have:=(nts_ok hO h0 _ (Nat.le_refl _)).2
 rw [nts_notes h0]at this
 have:=hO.n3
 omega
theorem pNotes_FS (p:Pce) (hO:PcOk p):Ctr Tryz.prog 166 [ePce p] (.tu [.ls 5 ((notesP p).map eNt),.sc (.int .i64 (pceE p))]):=by
 have hL:=listen_FS p hO
 by_cases h0:pceE p=0
 ·have hN:=notes_FS p hO h0
  have e1:notesP p=notesR p p.evs.length:=if_pos h0
  rw [nts_notes h0] at hN
  rw [eSnd_ok h0] at hN hL
  rw [e1,h0]
  rw [h0] at hL
  refine zqe Tryz.func166 Tryz.ntmps166 fun w0 F0=>?_;dsimp only [St.init,number,Nat.reduceAdd]
  repeat refine W.go rfl ?_
  refine (?_:WL _ _ _ _ _ _)
  refine WL.vl rfl (zqc Tryz.func208 hL) ?_
  repeat (first|refine W.go rfl ?_|refine WL.ev rfl ?_|refine W.condF rfl ?_)
  refine (?_:WL _ _ _ _ _ _)
  refine WL.vl rfl (zqc Tryz.func209 hN) ?_
  repeat (first|refine W.go rfl ?_|refine WL.ev rfl ?_)
  refine (?_:W _ _ _ _ _)
  exact W.ret (finN rfl rfl rfl rfl)
 ·have e1:notesP p=[]:=if_neg h0
  rw [e1]
  obtain ⟨E,hE⟩:∃ E,pceE p=E:=⟨_,rfl⟩
  rw [hE] at hL h0 ⊢
  refine zqe Tryz.func166 Tryz.ntmps166 fun w0 F0=>?_;dsimp only [St.init,number,Nat.reduceAdd]
  repeat refine W.go rfl ?_
  refine (?_:WL _ _ _ _ _ _)
  refine WL.vl rfl (zqc Tryz.func208 hL) ?_
  repeat (first|refine W.gob rfl ?_|refine WL.nil ?_|refine WL.nt rfl rfl rfl zqo ?_|refine WL.e1 rfl ?_|refine W.condT rfl ?_)
  refine (?_:W _ _ _ _ _)
  refine W.tr (Tr.nilR (t:=2) 5 rfl) ?_
  exact W.ret (finN rfl rfl rfl rfl)
theorem mel1_FS (a b:Int):Ctr Tryz.prog 164 [.sc (.int .i64 a),.sc (.int .i64 b)] (.sc (.int .i64 (if a < b then b else a))):=by
 refine zqe Tryz.func164 Tryz.ntmps164 fun w0 F0=>?_;dsimp only [St.init,number,Nat.reduceAdd]
 repeat refine W.go rfl ?_
 refine (?_:WL _ _ _ _ _ _)
 refine WL.mm rfl rfl (show (if b > a then b else a)=if a < b then b else a from rfl) ?_
 repeat refine WL.ev rfl ?_
 refine (?_:W _ _ _ _ _)
 exact W.ret zqr
theorem notesR_ev {p:Pce}:∀ m,m≤p.evs.length→∀ n∈notesR p m,∃ i:Nat,n.1=i∧i<p.evs.length:=by
 intro m
 induction m with
 | zero=>intro _ n hn;cases hn
 | succ m ih =>
  intro hm n hn
  have e1:notesR p (m+1)=notesR p m++p.evs[m].stops.map (noteR p m):=by
   show (match p.evs[m]? with|some e=>_|none=>_)=_
   rw [List.getElem?_eq_getElem (show m<p.evs.length by omega)]
  rw [e1] at hn
  rcases List.mem_append.1 hn with hn|hn
  ·exact ih zqo n hn
  ·obtain⟨x,_,rfl⟩:=List.mem_map.1 hn
   exact⟨m,rfl,by omega⟩
theorem eInt_set (l:List Int)(k:Nat)(v:Int):(l.map eInt).set k (putL 0 [.sc (.int .i64 v)] (eInt (l.getD k 0)))=(l.set k v).map eInt:=by
 rw [List.map_set];rfl
theorem fill_succ {n k:Nat} (h:k<n):(List.replicate k (-1:Int)++List.replicate (n-k) 0).set k (-1)=List.replicate (k+1) (-1)++List.replicate (n-(k+1)) 0:=by
 rw [List.set_append_right _ _ (by simp),List.length_replicate,Nat.sub_self,show n-k=(n-(k+1))+1 by omega,List.replicate_succ,List.set_cons_zero,List.replicate_succ',List.append_assoc];rfl
theorem fill_at {n k:Nat} (h:k<n):((List.replicate k (-1:Int)++List.replicate (n-k) 0).map eInt)[((k:Nat):Int).toNat]?=some (eInt ((List.replicate k (-1:Int)++List.replicate (n-k) 0).getD k 0)):=by
 have hl:k<(List.replicate k (-1:Int)++List.replicate (n-k) 0).length:=by simp;omega
 rw [Int.toNat_natCast,List.getElem?_map,List.getD_eq_getElem?_getD,List.getElem?_eq_getElem hl];rfl
theorem extremes_FS (p:Pce) (hO:PcOk p) (h0:pceE p=0):Cto truB 0 Tryz.prog 163 [ePce p,.sc (.func (.func 164) #[] #[])] [] 0 (.tu [.sl 0,.sc (.int .i64 0)]) [(0,.row 3 1 ((melR p).map eInt))] 1:=by
 have hN:=pNotes_FS p hO
 have hn:=hO.n3
 have e1:notesP p=notesR p p.evs.length:=if_pos h0
 have hnl:=notesR_len hO h0
 have hev:=notesR_ev (p:=p) p.evs.length (Nat.le_refl _)
 rw [h0,e1] at hN
 rw [← mel_all]
 obtain ⟨L,hL⟩:∃ L,notesR p p.evs.length=L:=⟨_,rfl⟩
 rw [hL] at hN hnl hev ⊢
 refine Cto.intro truS Tryz.func163 rfl Tryz.ntmps163 (Nat.le_of_ble_eq_true rfl) rfl fun w0 F0 fp pg hB=>?_
 dsimp only [number,Nat.reduceAdd]
 repeat refine W.go rfl ?_
 refine (?_:WL _ _ _ _ _ _)
 refine WL.vl rfl (zqc Tryz.func166 hN) ?_
 repeat (first|refine W.go rfl ?_|refine WL.ev rfl ?_|refine WL.len rfl rfl zql ?_|refine W.condF rfl ?_)
 refine (?_:WL _ _ _ _ _ _)
 refine WL.mks (x:=⟨3,.int .i64 0,p.evs.length,p.evs.length⟩) rfl rfl rfl (show ((p.evs.length:Nat):Int).toNat=p.evs.length by simp) ⟨by simp,by simp;omega⟩ ?_
 repeat (first|refine W.go rfl ?_|refine WL.ev rfl ?_|refine WL.len rfl rfl zql ?_)
 refine (?_:W _ _ _ _ _)
 refine W.loop (fun k:Nat=>k≤p.evs.length) (fun k=>⟨[(2,.pt 0 0 0),(1,.sc (.func (.func 164) #[] #[])),(6,.ls 5 (L.map eNt)),(8,.sl 1),(25,.sc (.int .i64 p.evs.length)),(26,.sc (.int .i64 k))],[(0,.box 28 (ePce p).cells),(1,.row 3 1 ((List.replicate k (-1:Int)++List.replicate (p.evs.length - k) 0).map eInt))],2⟩) (fun k=>p.evs.length - k) 0 (by omega) (zqu (fun q=>q) (by repeat (first|exact trivial|refine ⟨⟨?_,?_,?_⟩,?_⟩|rfl|exact congrArg (fun q=>some (AO.row _ _ q)) (by simp [eInt]))) rfl) fun k hk=>?_
 by_cases hlt:k < p.evs.length
 ·have hlen:(List.replicate k (-1:Int)++List.replicate (p.evs.length - k) 0).length=p.evs.length:=by simp;omega
  have hat:=fill_at hlt
  have hset:=eInt_set (List.replicate k (-1:Int)++List.replicate (p.evs.length - k) 0) k (-1)
  rw [fill_succ hlt] at hset
  obtain ⟨R,hR⟩:∃ R,List.replicate k (-1:Int)++List.replicate (p.evs.length - k) 0=R:=⟨_,rfl⟩
  rw [hR] at hlen hat hset ⊢
  repeat (first|refine W.gob rfl ?_|refine WL.nil ?_|refine WL.bt rfl rfl rfl zqo ?_|refine WL.e1 rfl ?_|refine WL.ixs rfl rfl zqs ?_|refine W.condT rfl ?_)
  refine (?_:WL _ _ _ _ _ _)
  refine WL.sto rfl rfl rfl rfl hat (by show 0+1≤1;omega) ?_
  repeat (first|refine W.go rfl ?_|refine WL.nil ?_|refine WL.ev rfl ?_|refine WL.ar rfl rfl z21i ?_)
  exact ⟨k+1,by omega,by omega,(zqu (fun q=>q) (by repeat (first|exact trivial|refine ⟨⟨?_,?_,?_⟩,?_⟩|rfl|exact congrArg (fun q=>some (AO.row _ _ q)) hset)) rfl)⟩
 ·obtain rfl:k=p.evs.length:=by omega
  rw [Nat.sub_self,List.replicate_zero,List.append_nil]
  repeat (first|refine W.gob rfl ?_|refine WL.nil ?_|refine WL.bf rfl rfl rfl zqo ?_|refine WL.e1 rfl ?_|refine WL.len rfl rfl zql ?_|refine W.condF rfl ?_)
  refine (?_:W _ _ _ _ _)
  refine W.loop (fun k:Nat=>k≤L.length) (fun k=>⟨[(1,.sc (.func (.func 164) #[] #[])),(8,.sl 1),(33,.ls 5 (L.map eNt)),(34,.sc (.int .i64 L.length)),(35,.sc (.int .i64 k))],[(1,.row 3 1 (((L.take k).foldl melS (List.replicate p.evs.length (-1))).map eInt))],2⟩) (fun k=>L.length - k) 0 zqo (zqt id) fun k hk=>?_
  have hRl:=melS_length (L.take k) (List.replicate p.evs.length (-1))
  rw [List.length_replicate] at hRl
  by_cases hlt:k < L.length
  rotate_left
  ·obtain rfl:k=L.length:=by omega
   rw [List.take_length]
   repeat (first|refine W.gob rfl ?_|refine WL.nil ?_|refine WL.bf rfl rfl rfl zqo ?_|refine WL.e1 rfl ?_|refine W.condF rfl ?_)
   refine (?_:W _ _ _ _ _)
   refine W.tr (σ':=⟨[(4,.sl 0),(5,.sc (.int .i64 0))],[(0,.row 3 1 ((L.foldl melS (List.replicate p.evs.length (-1))).map eInt))],1⟩) (zqu (fun q=>bif Nat.beq q 0 then 1 else q) (by repeat (first|exact trivial|refine ⟨⟨?_,?_,?_⟩,?_⟩|rfl|exact congrArg (fun q=>some (AO.row _ _ q)) (by first|rfl|(simp;done)|(simp [eInt];done)|(simp [eLk];done)))) rfl) ?_
   exact W.ret (finM rfl rfl rfl rfl rfl)
  have htk:(L.take (k+1)).foldl melS (List.replicate p.evs.length (-1))=melS ((L.take k).foldl melS (List.replicate p.evs.length (-1))) L[k]:=by
   rw [List.take_succ_eq_append_getElem hlt,List.foldl_append];rfl
  obtain ⟨R,hR⟩:∃ R,(L.take k).foldl melS (List.replicate p.evs.length (-1))=R:=⟨_,rfl⟩
  rw [hR] at hRl htk ⊢
  obtain ⟨i,hi,hi2⟩:=hev L[k] (List.getElem_mem hlt)
  repeat (first|refine W.gob rfl ?_|refine WL.nil ?_|refine WL.bt rfl rfl rfl zqo ?_|refine WL.e1 rfl ?_|refine WL.idx rfl rfl zqo zqm ?_|refine WL.ixs rfl rfl zqs ?_|refine W.condT rfl ?_)
  refine (?_:WL _ _ _ _ _ _)
  obtain ⟨n,hn2⟩:∃ n,L[k]=n:=⟨_,rfl⟩
  rw [hn2] at hi htk ⊢
  have hil:n.1.toNat < R.length:=by omega
  obtain ⟨o,ho⟩:∃ o,R.getD n.1.toNat 0=o:=⟨_,rfl⟩
  have hRi:(R.map eInt)[n.1.toNat]?=some (eInt o):=by
   rw [← ho,List.getElem?_map,List.getD_eq_getElem?_getD,List.getElem?_eq_getElem hil];rfl
  refine WL.ldr rfl rfl hRi rfl rfl ?_
  obtain ⟨R1,hR1⟩:∃ R1,(if o < 0 then R.set n.1.toNat n.2.2.1 else R)=R1:=⟨_,rfl⟩
  obtain ⟨o1,ho1⟩:∃ o1,(if o < 0 then n.2.2.1 else o)=o1:=⟨_,rfl⟩
  have hR1l:R1.length=R.length:=by rw [← hR1];split<;>simp
  have hR1o:R1.getD n.1.toNat 0=o1:=by
   rw [← hR1,← ho1]
   split
   ·rw [List.getD_eq_getElem?_getD,List.getElem?_set_self hil];rfl
   ·exact ho
  have hR1i:(R1.map eInt)[n.1.toNat]?=some (eInt o1):=by
   rw [← hR1o,List.getElem?_map,List.getD_eq_getElem?_getD,List.getElem?_eq_getElem (by omega)];rfl
  have hfin:R1.set n.1.toNat (if o1 < n.2.2.1 then n.2.2.1 else o1)=melS R n:=by
   unfold melS upP
   rw [ho,← hR1,← ho1]
   by_cases h:o < 0
   ·simp only [if_pos h,List.set_set]
    rw [if_pos (Or.inl h)];simp
   ·rw [if_neg h,if_neg h]
    by_cases h2:o < n.2.2.1
    ·rw [if_pos h2,if_pos (.inr h2)]
    ·rw [if_neg h2,if_neg (by omega)]
  have hset2:=eInt_set R1 n.1.toNat (if o1 < n.2.2.1 then n.2.2.1 else o1)
  rw [hfin,hR1o] at hset2
  repeat refine WL.ev rfl ?_
  refine (?_:W _ _ _ _ _)
  refine W.meet ⟨[(1,.sc (.func (.func 164) #[] #[])),(8,.sl 1),(11,.pt 2 0 0),(33,.ls 5 (L.map eNt)),(34,.sc (.int .i64 L.length)),(35,.sc (.int .i64 k))],[(1,.row 3 1 (R1.map eInt)),(2,.box 233 (eNt n))],3⟩ ?_ ?_
  ·(refine W.cond rfl (fun hif=>?_) (fun hif=>?_)<;>(try simp only [decide_eq_true_eq,decide_eq_false_iff_not,Int.not_lt,Int.not_le,Bool.not_eq_true',Bool.not_eq_false'] at hif))
   ·have hset1:=eInt_set R n.1.toNat n.2.2.1
    rw [ho] at hset1
    have e:R1=R.set n.1.toNat n.2.2.1:=by rw [← hR1,if_pos hif]
    rw [e]
    repeat (first|refine W.gob rfl ?_|refine WL.e1 rfl ?_|refine WL.ixs rfl rfl zqs ?_)
    refine (?_:WL _ _ _ _ _ _)
    refine WL.sto rfl rfl rfl rfl hRi (by show 0+1≤1;omega) ?_
    repeat refine WL.nil ?_
    refine (?_:Tr _ _ _)
    exact (zqu (fun q=>q) (by repeat (first|exact trivial|refine ⟨⟨?_,?_,?_⟩,?_⟩|rfl|exact congrArg (fun q=>some (AO.row _ _ q)) hset1)) rfl)
   ·have e:R1=R:=by rw [← hR1,if_neg (by omega)]
    rw [e]
    repeat refine W.go rfl ?_
    refine (?_:Tr _ _ _)
    exact (zqt id)
  refine W.dkT 13 zqk zqk zqk zqk ?_
  repeat (first|refine DK.st rfl ?_|refine DK.ixs rfl rfl zqs ?_)
  refine DK.ldr rfl rfl hR1i rfl rfl ?_
  repeat refine DK.st rfl ?_
  refine DK.vl rfl (WV.callV (truH _) rfl (callF Tryz.func164 rfl rfl) rfl rfl rfl rfl rfl (mel1_FS o1 n.2.2.1).g) ?_
  repeat (first|refine DK.ixs rfl rfl zqs ?_|refine DK.nil ?_)
  refine ⟨rfl,?_⟩
  refine WL.sto rfl rfl rfl rfl hR1i (by show 0+1≤1;omega) ?_
  repeat (first|refine W.go rfl ?_|refine WL.nil ?_|refine WL.ev rfl ?_|refine WL.ar rfl rfl z21i ?_)
  refine ⟨k+1,by omega,by omega,?_⟩
  rw [htk]
  exact (zqu (fun q=>q) (by repeat (first|exact trivial|refine ⟨⟨?_,?_,?_⟩,?_⟩|rfl|exact congrArg (fun q=>some (AO.row _ _ q)) hset2)) rfl)
theorem extremes_bad (p:Pce) (hO:PcOk p) (h0:pceE p≠0):Ctr Tryz.prog 163 [ePce p,.sc (.func (.func 164) #[] #[])] (.tu [.ls 1 [],.sc (.int .i64 (pceE p))]):=by
 have hN:=pNotes_FS p hO
 have e1:notesP p=[]:=if_neg h0
 rw [e1] at hN
 obtain ⟨E,hE⟩:∃ E,pceE p=E:=⟨_,rfl⟩
 rw [hE] at hN h0 ⊢
 refine zqe Tryz.func163 Tryz.ntmps163 fun w0 F0=>?_;dsimp only [St.init,number,Nat.reduceAdd]
 repeat refine W.go rfl ?_
 refine (?_:WL _ _ _ _ _ _)
 refine WL.vl rfl (zqc Tryz.func166 hN) ?_
 repeat (first|refine W.gob rfl ?_|refine WL.nil ?_|refine WL.nt rfl rfl rfl zqo ?_|refine WL.e1 rfl ?_|refine W.condT rfl ?_)
 refine (?_:W _ _ _ _ _)
 refine W.tr (Tr.nilR (t:=4) 1 rfl) ?_
 exact W.ret (finN rfl rfl rfl rfl)
theorem melody_bad (p:Pce) (hO:PcOk p) (h0:pceE p≠0):Ctr Tryz.prog 107 [ePce p] (.tu [.ls 1 [],.sc (.int .i64 (pceE p))]):=by
 refine zqe Tryz.func107 Tryz.ntmps107 fun w0 F0=>?_;dsimp only [St.init,number,Nat.reduceAdd]
 repeat refine W.go rfl ?_
 refine (?_:WL _ _ _ _ _ _)
 refine WL.vl rfl (WV.call rfl (callF Tryz.func163 rfl rfl) rfl rfl (extremes_bad p hO h0)) ?_
 repeat refine WL.ev rfl ?_
 refine (?_:W _ _ _ _ _)
 exact W.ret (finN rfl rfl rfl rfl)
theorem melody_FS (p:Pce) (hO:PcOk p) (h0:pceE p=0):Cto truB 0 Tryz.prog 107 [ePce p] [] 0 (.tu [.sl 0,.sc (.int .i64 0)]) [(0,.row 3 1 ((melR p).map eInt))] 1:=by
 refine Cto.intro truS Tryz.func107 rfl Tryz.ntmps107 (Nat.le_of_ble_eq_true rfl) rfl fun w0 F0 fp pg hB=>?_
 dsimp only [number,Nat.reduceAdd]
 repeat refine W.go rfl ?_
 refine (?_:WL _ _ _ _ _ _)
 refine WL.cto (truH _) [] rfl rfl (callF Tryz.func163 rfl rfl) (extremes_FS p hO h0) rfl rfl rfl trivial rfl rfl rfl rfl ?_
 repeat refine WL.ev rfl ?_
 refine (?_:W _ _ _ _ _)
 refine W.tr (σ':=⟨[(2,.sl 0),(3,.sc (.int .i64 0))],[(0,.row 3 1 ((melR p).map eInt))],1⟩) (zqu (fun q=>bif Nat.beq q 0 then 1 else q) (by repeat (first|exact trivial|refine ⟨⟨?_,?_,?_⟩,?_⟩|rfl|exact congrArg (fun q=>some (AO.row _ _ q)) (by first|rfl|(simp;done)|(simp [eInt];done)|(simp [eLk];done)))) rfl) ?_
 exact W.ret (finM rfl rfl rfl rfl rfl)
end
section
open Go.RowKit
theorem inc1_FS (a:Int):Ctr Tryz.prog 109 [.sc (.int .i64 a)] (.sc (.bool (decide (a < 0)))):=by
 refine zqe Tryz.func109 Tryz.ntmps109 fun w0 F0=>?_;dsimp only [St.init,number,Nat.reduceAdd]
 repeat refine W.go rfl ?_
 refine (?_:W _ _ _ _ _)
 exact W.ret zqr
abbrev kpB (x:Int):Bool:=!decide (x<0)
def idxN(l:List Int):Nat:=(l.takeWhile kpB).length
theorem tw_mem {p:Int→Bool}:∀ {l:List Int} {x:Int},x∈l.takeWhile p→p x=true
 | [],x,h=>by cases h
 | y::r,x,h=>by
  rw [List.takeWhile_cons]at h
  split at h
  ·rename_i hy
   rcases List.mem_cons.1 h with rfl|h
   ·exact hy
   ·exact tw_mem h
  ·cases h
theorem idxN_le(l:List Int):idxN l≤l.length:=(List.takeWhile_sublist _).length_le
theorem takeWhile_at {l:List Int} {k:Nat} (hk:k<idxN l)(h:k<l.length):¬ l[k]<0:=by
 have h1:(l.takeWhile kpB)[k]'hk∈l.takeWhile kpB:=List.getElem_mem _
 have h2:=tw_mem h1
 have h3:(l.takeWhile kpB)[k]'hk=l[k]:=(List.takeWhile_prefix kpB).getElem _
 rw [h3]at h2
 simpa using h2
theorem idxN_neg {l:List Int} (h:idxN l<l.length):l[idxN l]<0:=by
 have h1:(l.drop (idxN l))=l.dropWhile kpB:=by
  have e:=List.takeWhile_append_dropWhile (p:=kpB) (l:=l)
  have:=List.drop_left (l₁:=l.takeWhile kpB) (l₂:=l.dropWhile kpB)
  rw [e]at this
  exact this
 have h2:l.drop (idxN l)=l[idxN l]::l.drop (idxN l+1):=List.drop_eq_getElem_cons h
 rw [h1]at h2
 have h3:=List.head?_dropWhile_not kpB l
 rw [h2]at h3
 simpa [kpB,List.getElem?_eq_getElem h]using h3
theorem idxN_all {l:List Int} (h:idxN l=l.length):l.filter kpB=l:=by
 rw [List.filter_eq_self]
 intro x hx
 obtain ⟨k,hk,rfl⟩:=List.getElem_of_mem hx
 have:=takeWhile_at (l:=l) (k:=k) zqo hk
 simp [kpB];omega
theorem take_idxN (l:List Int):l.take (idxN l)=(l.take (idxN l+1)).filter kpB:=by
 have hp:l.take (idxN l)=l.takeWhile kpB:=by
  have:=List.prefix_iff_eq_take.1 (List.takeWhile_prefix kpB (l:=l))
  exact this.symm
 by_cases h:idxN l<l.length
 ·rw [List.take_succ_eq_append_getElem h,List.filter_append]
  have h1:=idxN_neg h
  rw [List.filter_cons_of_neg (by simp [kpB,h1]),List.filter_nil,List.append_nil,hp]
  rw [List.filter_eq_self.2]
  intro x hx
  exact tw_mem hx
 ·have h2:=idxN_le l
  rw [List.take_of_length_le (by omega),List.take_of_length_le (by omega),idxN_all (by omega)]
theorem idxF_FS (l:List Int) (hl:l.length≤100000):Cto truB 0 Tryz.prog 165 [.sl 0,.sc (.func (.func 109) #[] #[])] [(0,.row 3 1 (l.map eInt))] 1
  (.sc (.int .i64 (if idxN l < l.length then (idxN l:Int) else -1))) [(0,.row 3 1 (l.map eInt))] 1:=by
 refine Cto.intro truS Tryz.func165 rfl Tryz.ntmps165 (Nat.le_of_ble_eq_true rfl) rfl fun w0 F0 fp pg hB=>?_
 dsimp only [number,Nat.reduceAdd]
 repeat (first|refine W.go rfl ?_|refine WL.ev rfl ?_|refine WL.len rfl rfl zql ?_)
 refine (?_:W _ _ _ _ _)
 refine W.loop (fun k:Nat=>k≤l.length∧k≤idxN l) (fun k=>⟨[(0,.sl 0),(1,.sc (.func (.func 109) #[] #[])),(7,.sc (.int .i64 l.length)),(8,.sc (.int .i64 k))],[(0,.row 3 1 (l.map eInt))],1⟩) (fun k=>l.length - k) 0 ⟨by omega,by omega⟩ (zqt id) fun k hk=>?_
 obtain ⟨hk1,hk2⟩:=hk
 have hle:=idxN_le l
 by_cases hlt:k < l.length
 ·have hat:(l.map eInt)[((k:Nat):Int).toNat]?=some (eInt l[k]):=map_at hlt
  repeat (first|refine W.gob rfl ?_|refine WL.nil ?_|refine WL.bt rfl rfl rfl zqo ?_|refine WL.e1 rfl ?_|refine WL.ixs rfl rfl zqs ?_|refine W.condT rfl ?_)
  refine (?_:WL _ _ _ _ _ _)
  refine WL.ldr rfl rfl hat rfl rfl ?_
  refine (?_:WL _ _ _ _ _ _)
  refine WL.vl rfl (WV.callV (truH _) rfl (callF Tryz.func109 rfl rfl) rfl rfl rfl rfl rfl (inc1_FS l[k]).g) ?_
  repeat refine WL.nil ?_
  refine (?_:W _ _ _ _ _)
  (refine W.cond rfl (fun hif=>?_) (fun hif=>?_)<;>(try simp only [decide_eq_true_eq,decide_eq_false_iff_not,Int.not_lt,Int.not_le,Bool.not_eq_true',Bool.not_eq_false'] at hif))
  ·have e:idxN l=k:=by
    rcases Nat.lt_or_ge k (idxN l) with h|h
    ·exact absurd hif (takeWhile_at h hlt)
    ·omega
   rw [if_pos (by omega),e]
   repeat refine W.go rfl ?_
   refine (?_:W _ _ _ _ _)
   exact W.ret (finM rfl rfl rfl rfl rfl)
  ·have e:k < idxN l:=by
    rcases Nat.lt_or_ge k (idxN l) with h|h
    ·exact h
    ·have e:idxN l=k:=by omega
     have:=idxN_neg (l:=l) zqo
     simp only [e] at this
     omega
   repeat (first|refine W.go rfl ?_|refine WL.ev rfl ?_|refine WL.ar rfl rfl z21i ?_)
   exact ⟨k+1,⟨by omega,by omega⟩,by omega,(zqt id)⟩
 ·rw [if_neg (by omega)]
  repeat (first|refine W.gob rfl ?_|refine WL.nil ?_|refine WL.bf rfl rfl rfl zqo ?_|refine WL.e1 rfl ?_|refine W.condF rfl ?_)
  refine (?_:W _ _ _ _ _)
  exact W.ret (finM rfl rfl rfl rfl rfl)
structure DelI(l R:List Int)(i j:Nat):Prop where
 len:R.length=l.length
 ij:i<j∧j≤l.length
 kept:R.take i=(l.take j).filter kpB
 rest:∀ k(h:k<l.length),j≤k→R[k]?=some l[k]
theorem DelI.start {l:List Int} (h:idxN l<l.length):DelI l l (idxN l) (idxN l+1) :=
 ⟨rfl,⟨by omega,by omega⟩,take_idxN l,fun k hk _=>List.getElem?_eq_getElem hk⟩
theorem DelI.skip {l R:List Int} {i j:Nat} (h:DelI l R i j)(hj:j<l.length)(hn:l[j]<0):DelI l R i (j+1):=by
 refine⟨h.len,⟨by have:=h.ij;omega,by omega⟩,?_,fun k hk h2=>h.rest k hk zqo⟩
 rw [h.kept,List.take_succ_eq_append_getElem hj,List.filter_append,List.filter_cons_of_neg (by simp [kpB,hn])]
 simp
theorem DelI.keep {l R:List Int} {i j:Nat} (h:DelI l R i j) (hj:j<l.length) (hn:¬ l[j]<0):DelI l (R.set i l[j]) (i+1) (j+1):=by
 have hij:=h.ij
 have hlen:=h.len
 refine ⟨by simpa using h.len,⟨by omega,by omega⟩,?_,fun k hk h2=>?_⟩
 ·have hi:i<(R.set i l[j]).length:=by simp;omega
  rw [List.take_succ_eq_append_getElem hi,List.take_set_of_le (Nat.le_refl _),h.kept,List.take_succ_eq_append_getElem hj,List.filter_append,List.filter_cons_of_pos (by simp [kpB];omega)]
  simp
 ·rw [List.getElem?_set_ne (by omega)]
  exact h.rest k hk zqo
theorem del_FS (l:List Int) (hl:l.length≤100000):Cto truB 0 Tryz.prog 108 [.sl 0,.sc (.func (.func 109) #[] #[])] [(0,.row 3 1 (l.map eInt))] 1
  (.sl 1) [(1,.row 3 1 ((l.filter kpB).map eInt))] 2:=by
 have hI:=idxF_FS l hl
 refine Cto.intro truS Tryz.func108 rfl Tryz.ntmps108 (Nat.le_of_ble_eq_true rfl) rfl fun w0 F0 fp pg hB=>?_
 dsimp only [number,Nat.reduceAdd]
 by_cases h:idxN l < l.length
 rotate_left
 ·rw [if_neg h] at hI
  have e:l.filter kpB=l:=idxN_all (by have:=idxN_le l;omega)
  rw [e]
  repeat refine W.go rfl ?_
  refine (?_:WL _ _ _ _ _ _)
  refine WL.cto (truH _) [0] rfl rfl (callF Tryz.func165 rfl rfl) hI rfl rfl rfl ⟨⟨rfl,rfl,rfl⟩,trivial⟩ rfl rfl rfl rfl ?_
  repeat (first|refine W.go rfl ?_|refine WL.ev rfl ?_|refine W.condT rfl ?_)
  refine (?_:W _ _ _ _ _)
  refine W.tr (Tr.mv (t:=4) rfl rfl) ?_
  refine W.tr (σ':=⟨[(4,.sl 1)],[(1,.row 3 1 (l.map eInt))],2⟩) (zqt id) ?_
  exact W.ret (finM rfl rfl rfl rfl rfl)
 ·rw [if_pos h] at hI
  have h0:=DelI.start h
  repeat refine W.go rfl ?_
  refine (?_:WL _ _ _ _ _ _)
  refine WL.cto (truH _) [0] rfl rfl (callF Tryz.func165 rfl rfl) hI rfl rfl rfl ⟨⟨rfl,rfl,rfl⟩,trivial⟩ rfl rfl rfl rfl ?_
  repeat (first|refine W.gob rfl ?_|refine WL.nil ?_|refine WL.bf rfl rfl rfl zqo ?_|refine WL.e1 rfl ?_|refine WL.ar rfl rfl z21i ?_|refine W.condF rfl ?_)
  refine (?_:W _ _ _ _ _)
  refine W.loop (fun s:List Int×Nat×Nat=>DelI l s.1 s.2.1 s.2.2) (fun s=>⟨[(0,.sl 0),(1,.sc (.func (.func 109) #[] #[])),(5,.sc (.int .i64 s.2.1)),(6,.sc (.int .i64 s.2.2))],[(0,.row 3 1 (s.1.map eInt))],1⟩) (fun s=>l.length - s.2.2) (l,idxN l,idxN l+1) h0 (zqt id) fun s hs=>?_
  obtain ⟨R,i,j⟩:=s
  have hlen:=hs.len
  have hij:=hs.ij
  dsimp only at hs hlen hij ⊢
  by_cases hlt:j < l.length
  ·have hRj:=hs.rest j hlt (Nat.le_refl _)
   have hat:(R.map eInt)[((j:Nat):Int).toNat]?=some (eInt l[j]):=by rw [Int.toNat_natCast,List.getElem?_map,hRj];rfl
   have hRl:(R.map eInt).length=l.length:=by rw [List.length_map];exact hlen
   repeat (first|refine W.gob rfl ?_|refine WL.nil ?_|refine WL.bt rfl rfl rfl zqo ?_|refine WL.e1 rfl ?_|refine WL.len rfl rfl zql ?_|refine WL.ixs rfl rfl zqs ?_|refine W.condT rfl ?_)
   refine (?_:WL _ _ _ _ _ _)
   refine WL.ldr rfl rfl hat rfl rfl ?_
   repeat (first|refine W.gob rfl ?_|refine WL.nil ?_|refine WL.e1 rfl ?_)
   refine (?_:WL _ _ _ _ _ _)
   refine WL.vl rfl (WV.callV (truH _) rfl (callF Tryz.func109 rfl rfl) rfl rfl rfl rfl rfl (inc1_FS l[j]).g) ?_
   repeat (first|refine WL.nil ?_|refine WL.e1 rfl ?_)
   refine (?_:W _ _ _ _ _)
   (refine W.cond rfl (fun hif=>?_) (fun hif=>?_)<;>(try simp only [decide_eq_true_eq,decide_eq_false_iff_not,Int.not_lt,Int.not_le,Bool.not_eq_true',Bool.not_eq_false'] at hif))
   ·have hil:i < R.length:=by omega
    have hati:(R.map eInt)[((i:Nat):Int).toNat]?=some (eInt (R.getD i 0)):=by
     rw [Int.toNat_natCast,List.getElem?_map,List.getD_eq_getElem?_getD,List.getElem?_eq_getElem hil];rfl
    have hset:=eInt_set R i l[j]
    repeat (first|refine W.gob rfl ?_|refine WL.e1 rfl ?_|refine WL.ixs rfl rfl zqs ?_)
    refine (?_:WL _ _ _ _ _ _)
    refine WL.sto rfl rfl rfl rfl hati (by show 0+1≤1;omega) ?_
    repeat (first|refine W.go rfl ?_|refine WL.nil ?_|refine WL.ev rfl ?_|refine WL.ar rfl rfl z21i ?_)
    exact ⟨(R.set i l[j],i+1,j+1),hs.keep hlt (by omega),by dsimp only;omega,(zqu (fun q=>q) (by repeat (first|exact trivial|refine ⟨⟨?_,?_,?_⟩,?_⟩|rfl|exact congrArg (fun q=>some (AO.row _ _ q)) hset)) rfl)⟩
   ·repeat (first|refine W.go rfl ?_|refine WL.ev rfl ?_|refine WL.ar rfl rfl z21i ?_)
    exact ⟨(R,i,j+1),hs.skip hlt (by omega),by dsimp only;omega,(zqt id)⟩
  ·have hj:j=l.length:=by omega
   have hk:=hs.kept
   rw [hj,List.take_length] at hk
   have hRl:(R.map eInt).length=R.length:=List.length_map _
   have hfin:((R.map eInt).take ((i:Nat):Int).toNat++List.replicate ((R.map eInt).length - ((i:Nat):Int).toNat) [AV.sc (.int .i64 0)]).take ((i:Nat):Int).toNat=(l.filter kpB).map eInt:=by
    rw [Int.toNat_natCast,List.take_append_of_le_length (by simp;omega),List.take_take,Nat.min_self,← List.map_take,hk]
   repeat (first|refine W.gob rfl ?_|refine WL.nil ?_|refine WL.bf rfl rfl rfl zqo ?_|refine WL.e1 rfl ?_|refine WL.len rfl rfl zql ?_|refine W.condF rfl ?_)
   refine (?_:WL _ _ _ _ _ _)
   refine WL.clr rfl rfl rfl rfl rfl rfl rfl rfl ⟨by omega,by rw [hRl];omega⟩ ?_
   repeat (first|refine W.gob rfl ?_|refine WL.nil ?_|refine WL.e1 rfl ?_)
   refine (?_:WL _ _ _ _ _ _)
   refine WL.pre rfl rfl rfl ⟨by omega,by simp;omega⟩ ?_
   repeat (first|refine WL.nil ?_|refine WL.e1 rfl ?_)
   refine (?_:W _ _ _ _ _)
   refine W.tr (σ':=⟨[(4,.sl 1)],[(1,.row 3 1 ((l.filter kpB).map eInt))],2⟩) (zqu (fun q=>q) (by repeat (first|exact trivial|refine ⟨⟨?_,?_,?_⟩,?_⟩|rfl|exact congrArg (fun q=>some (AO.row _ _ q)) hfin)) rfl) ?_
   exact W.ret (finM rfl rfl rfl rfl rfl)
end
section
open Go.RowKit
theorem chkInc_FS (n:Int):Ctr Tryz.prog 93 [.sc (.int .i64 n)] (.sc (.int .i64 (if n < 1∨16 < n then 1 else 0))):=by
 by_cases h:n < 1∨16 < n
 ·rw [if_pos h]
  have h2:n < 1∨(¬ n < 1∧16 < n):=by omega
  rcases h2 with h2|h2
  all_goals
   refine zqe Tryz.func93 Tryz.ntmps93 fun w0 F0=>?_;dsimp only [St.init,number,Nat.reduceAdd]
   repeat (first|refine W.gob rfl ?_|refine WL.nil ?_|refine WL.bt rfl rfl rfl zqo ?_|refine WL.bf rfl rfl rfl zqo ?_|refine WL.e1 rfl ?_|refine WL.gyes rfl rfl rfl rfl ?_|refine WL.opno rfl rfl rfl rfl rfl rfl rfl ?_|refine W.condT rfl ?_)
   refine (?_:W _ _ _ _ _)
   exact W.ret zqr
 ·rw [if_neg h]
  refine zqe Tryz.func93 Tryz.ntmps93 fun w0 F0=>?_;dsimp only [St.init,number,Nat.reduceAdd]
  repeat (first|refine W.gob rfl ?_|refine WL.nil ?_|refine WL.bf rfl rfl rfl zqo ?_|refine WL.e1 rfl ?_|refine WL.gyes rfl rfl rfl rfl ?_|refine W.condF rfl ?_)
  refine (?_:W _ _ _ _ _)
  exact W.ret zqr
def incE(p:Pce)(n:Int):Int:=if pceE p=0 then(if n<1∨16<n then 1 else 0)else pceE p
def incL(p:Pce)(n:Int):List Int:=if incE p n=0 then incR p n else []
theorem pit_bd {p:Pce} (h0:pceE p=0) {k:Nat} {x:Stp} (hx:StpOk p k x):0≤pitN p.cs p.st x.1 x.2.1∧pitN p.cs p.st x.1 x.2.1≤254:=by
 obtain⟨hI,_,_⟩:=pceE_zero h0
 obtain⟨l1,l2,l3,l4,l5⟩:=insE_len hI
 have hc:=hx.crs
 have hk:(x.1-1).toNat<p.cs.length:=by omega
 have hp:=crsE_p l5 _ hk
 have hfr:=crsE_fr l5 _ hk
 have ef:fretsOf p.cs x.1=p.cs[(x.1-1).toNat].2.1:=by
  have:=fretsOf_at hk
  rw [← this];congr 1;omega
 have hf:=hx.fret
 rw [ef] at hf
 unfold pitN
 rw [List.getD_eq_getElem?_getD,List.getElem?_eq_getElem hk]
 simp only [Option.getD_some]
 split
 ·have hs:(x.2.1-1).toNat<p.st.length:=by omega
  have:=stepsBad_bd (Int.le_refl 0) l4 _ hs
  rw [List.getD_eq_getElem?_getD,List.getElem?_eq_getElem hs]
  simp only [Option.getD_some]
  omega
 ·omega
theorem maxP_bd {p:Pce} (h0:pceE p=0) {k:Nat}:∀ (l:List Stp)(n:Int),(∀ x∈l,StpOk p k x)→-1≤n∧n≤254→-1≤maxP p l n∧maxP p l n≤254
 | [],n,_,h=>h
 | x::r,n,hl,h=>by
  have:=pit_bd h0 (hl x (by simp))
  refine maxP_bd h0 r _ (fun y hy=>hl y (by simp [hy])) ?_
  show -1≤upP n (pitN p.cs p.st x.1 x.2.1)∧upP n (pitN p.cs p.st x.1 x.2.1)≤254
  unfold upP
  split<;>omega
theorem mel_bd {p:Pce} (h0:pceE p=0):∀ x∈melR p,-1≤x∧x≤254:=by
 intro x hx
 obtain ⟨e,he,rfl⟩:=List.mem_map.1 hx
 obtain ⟨k,hk,rfl⟩:=List.getElem_of_mem he
 exact maxP_bd h0 _ _ (evOk_of h0 hk).stops ⟨by decide,by decide⟩
theorem pIncipit_FS (p:Pce) (hO:PcOk p) (n:Int):Ctr Tryz.prog 48 [ePce p,.sc (.int .i64 n)] (.tu [.ls 1 ((incL p n).map eInt),.sc (.int .i64 (incE p n))]):=by
 have hn3:=hO.n3
 by_cases h0:pceE p=0
 rotate_left
 ·have e1:incE p n=pceE p:=if_neg h0
  have e2:incL p n=[]:=if_neg (by rw [e1];exact h0)
  have hM:=melody_bad p hO h0
  rw [e2,e1]
  obtain ⟨E,hE⟩:∃ E,pceE p=E:=⟨_,rfl⟩
  rw [hE] at hM h0 ⊢
  refine zqe Tryz.func48 Tryz.ntmps48 fun w0 F0=>?_;dsimp only [St.init,number,Nat.reduceAdd]
  repeat refine W.go rfl ?_
  refine (?_:WL _ _ _ _ _ _)
  refine WL.vl rfl (zqc Tryz.func107 hM) ?_
  repeat (first|refine W.gob rfl ?_|refine WL.nil ?_|refine WL.nt rfl rfl rfl zqo ?_|refine WL.e1 rfl ?_|refine W.condT rfl ?_)
  refine (?_:W _ _ _ _ _)
  refine W.tr (Tr.nilR (t:=4) 1 rfl) ?_
  exact W.ret (finN rfl rfl rfl rfl)
 have e1:incE p n=if n < 1∨16 < n then 1 else 0:=if_pos h0
 have hC:=chkInc_FS n
 have hM:=melody_FS p hO h0
 have hml:(melR p).length≤420:=by unfold melR;simp;omega
 by_cases hn:n < 1∨16 < n
 ·rw [if_pos hn] at hC e1
  have e2:incL p n=[]:=if_neg (by rw [e1];decide)
  rw [e2,e1]
  refine zqe Tryz.func48 Tryz.ntmps48 fun w0 F0=>?_;dsimp only [St.init,number,Nat.reduceAdd]
  repeat refine W.go rfl ?_
  refine (?_:WL _ _ _ _ _ _)
  refine WL.cto (truH _) [] rfl rfl (callF Tryz.func107 rfl rfl) hM rfl rfl rfl trivial rfl rfl rfl rfl ?_
  repeat (first|refine W.gob rfl ?_|refine WL.nil ?_|refine WL.nf rfl rfl rfl zqo ?_|refine WL.e1 rfl ?_|refine W.condF rfl ?_)
  refine (?_:WL _ _ _ _ _ _)
  refine WL.vl rfl (zqc Tryz.func93 hC) ?_
  repeat (first|refine W.gob rfl ?_|refine WL.nil ?_|refine WL.nt rfl rfl rfl zqo ?_|refine WL.e1 rfl ?_|refine W.condT rfl ?_)
  refine (?_:W _ _ _ _ _)
  refine W.tr (Tr.nilR (t:=4) 1 rfl) ?_
  exact W.ret (finN rfl rfl rfl rfl)
 rw [if_neg hn] at hC e1
 have e2:incL p n=(difs (sungR p)).take n.toNat:=if_pos e1
 have hD:=del_FS (melR p) zqo
 have hs:(melR p).filter kpB=sungR p:=rfl
 rw [hs] at hD
 have hbd:∀ x∈sungR p,-1≤x∧x≤254:=fun x hx=>mel_bd h0 x (List.mem_filter.1 hx).1
 have hsl:(sungR p).length≤420:=by have:=List.length_filter_le kpB (melR p);rw [hs] at this;omega
 rw [e2,e1]
 obtain ⟨L,hL⟩:∃ L,sungR p=L:=⟨_,rfl⟩
 rw [hL] at hD hbd hsl ⊢
 refine zqe Tryz.func48 Tryz.ntmps48 fun w0 F0=>?_;dsimp only [St.init,number,Nat.reduceAdd]
 repeat refine W.go rfl ?_
 refine (?_:WL _ _ _ _ _ _)
 refine WL.cto (truH _) [] rfl rfl (callF Tryz.func107 rfl rfl) hM rfl rfl rfl trivial rfl rfl rfl rfl ?_
 repeat (first|refine W.gob rfl ?_|refine WL.nil ?_|refine WL.nf rfl rfl rfl zqo ?_|refine WL.e1 rfl ?_|refine W.condF rfl ?_)
 refine (?_:WL _ _ _ _ _ _)
 refine WL.vl rfl (zqc Tryz.func93 hC) ?_
 repeat (first|refine W.gob rfl ?_|refine WL.nil ?_|refine WL.nf rfl rfl rfl zqo ?_|refine WL.e1 rfl ?_|refine W.condF rfl ?_)
 refine (?_:WL _ _ _ _ _ _)
 refine WL.cto (truH _) [1] rfl rfl (callF Tryz.func108 rfl rfl) hD rfl rfl rfl ⟨⟨rfl,rfl,rfl⟩,trivial⟩ rfl rfl rfl rfl ?_
 repeat (first|refine W.go rfl ?_|refine WL.ev rfl ?_)
 refine (?_:W _ _ _ _ _)
 refine W.tr (Tr.freeze 2 rfl) ?_
 refine W.tr (Tr.nil (t:=9) 3 1 rfl rfl) ?_
 dsimp only [St.put,St.new,St.upd,Nat.reduceAdd]
 refine W.loop (fun k:Nat=>k≤n.toNat∧k≤L.length) (fun k=>⟨[(1,.sc (.int .i64 n)),(6,.ls 1 (L.map eInt)),(9,.sl 0),(10,.sc (.int .i64 ((k+1:Nat):Int)))],[(0,.row 3 1 (((difs L).take k).map eInt))],1⟩) (fun k=>L.length - k) 0 ⟨by omega,by omega⟩ (zqu (fun q=>bif Nat.beq q 0 then 3 else q) (by repeat (first|exact trivial|refine ⟨⟨?_,?_,?_⟩,?_⟩|rfl|exact congrArg (fun q=>some (AO.row _ _ q)) (by first|rfl|(simp;done)|(simp [eInt];done)|(simp [eLk];done)))) rfl) fun k hk=>?_
 obtain ⟨hk1,hk2⟩:=hk
 have hdl:=difs_length L
 by_cases hlt:k+1 < L.length∧k+1≤n.toNat
 ·obtain ⟨hlt,hlt2⟩:=hlt
  have ez:(((k+1:Nat):Int) - 1).toNat=k:=by omega
  have b1:=hbd L[k+1] (List.getElem_mem _)
  have b2:=hbd (L[k]'(by omega)) (List.getElem_mem _)
  have hcat:=difs_take (l:=L) (i:=k) hlt
  repeat (first|refine W.gob rfl ?_|refine WL.nil ?_|refine WL.bt rfl rfl rfl zqo ?_|refine WL.e1 rfl ?_|refine WL.gyes rfl rfl rfl rfl ?_|refine WL.len rfl rfl zql ?_|refine W.condT rfl ?_)
  refine (?_:W _ _ _ _ _)
  refine W.dm [] zqk zqk zqk (by repeat constructor) ?_
  repeat (first|refine DMK.st rfl rfl ?_|refine DMK.ar rfl rfl z21i ?_|refine DMK.idx rfl rfl zqo zqm ?_)
  have eL:∀ h,L[(((k+1:Nat):Int) - 1).toNat]'h=L[k]'(by omega):=fun h=>by simp only [ez]
  simp only [eL]
  repeat (first|refine DMK.ar rfl rfl z21i ?_|refine DMK.s1 rfl zqk rfl ?_|refine DMK.bd rfl rfl rfl (by repeat constructor) ?_|refine DMK.ap rfl rfl zqs (by repeat constructor) ?_|refine DMK.nil ?_)
  repeat (first|refine W.go rfl ?_|refine WL.ev rfl ?_|refine WL.ar rfl rfl z21i ?_)
  refine ⟨k+1,⟨by omega,by omega⟩,by omega,?_⟩
  rw [hcat]
  exact (zqu (fun q=>bif Nat.beq q 0 then 2 else q) (by repeat (first|exact trivial|refine ⟨⟨?_,?_,?_⟩,?_⟩|rfl|exact congrArg (fun q=>some (AO.row _ _ q)) (by rw [List.map_append];rfl))) rfl)
 ·have hres:(difs L).take n.toNat=(difs L).take k:=by
   by_cases h:k+1≤n.toNat
   ·rw [List.take_of_length_le (by omega),List.take_of_length_le (by omega)]
   ·rw [show n.toNat=k by omega]
  rw [hres]
  have hc:¬ k+1 < L.length∨(k+1 < L.length∧¬ k+1≤n.toNat):=by omega
  rcases hc with hc|⟨hc,hc2⟩
  all_goals
   repeat (first|refine W.gob rfl ?_|refine WL.nil ?_|refine WL.bt rfl rfl rfl zqo ?_|refine WL.bf rfl rfl rfl zqo ?_|refine WL.e1 rfl ?_|refine WL.gyes rfl rfl rfl rfl ?_|refine WL.opno rfl rfl rfl rfl rfl rfl rfl ?_|refine WL.len rfl rfl zql ?_|refine W.condF rfl ?_)
   refine (?_:W _ _ _ _ _)
   refine W.tr (Tr.freeze 0 rfl) ?_
   exact W.ret (finN rfl rfl rfl rfl)
end
end Go.Proofs.YtgelfflighgajaaGreatDoor
