/- The index of a book: plain; the program. -/
import Derived.Test.YtgelfflighgajaaGreatDoorSo5Sq
import Derived.Test.YtgelfflighgajaaGreatDoorCcQSq
set_option maxHeartbeats 8000000
set_option maxRecDepth 100000
set_option linter.unusedVariables false
set_option linter.unusedSimpArgs false
namespace Go.Proofs.YtgelfflighgajaaGreatDoor
open Go.RowKit
def ixE(b:List En)(n:Int):Int:=if bkE b≠0 then bkE b else if n<1∨16<n then 1 else 0
def rwE(i:Nat)(p:Pce)(n:Int):Rw:=⟨i,(incL p n).take 16,by rw [List.length_take];omega⟩
def rwK(b:List En)(n:Int)(k:Nat):List Rw:=(b.take k).mapIdx fun i e=>rwE i e.p n
def ixL (b:List En) (n:Int):List Rw:=if ixE b n=0 then srt cmR (fun r:Rw=>r.1) (rwK b n b.length)else []
theorem incL_16 {p:Pce} {n:Int} (h:¬ (n < 1∨16 < n)):(incL p n).take 16=incL p n:=by
 refine List.take_of_length_le ?_
 unfold incL
 split
 ·unfold incR
  rw [List.length_take];omega
 ·simp
theorem rwK_len {b:List En} {n:Int} {k:Nat} (h:k≤b.length):(rwK b n k).length=k:=by unfold rwK;rw [List.length_mapIdx,List.length_take];omega
theorem rwK_s {b:List En} {n:Int} {k:Nat} (h:k<b.length):rwK b n (k+1)=rwK b n k++[rwE k b[k].p n]:=by
 unfold rwK
 rw [List.take_succ_eq_append_getElem h,List.mapIdx_append]
 congr 1
 simp [List.length_take]
 congr 1
 omega
theorem rwK_at {b:List En} {n:Int} {k i:Nat} (h:i<(rwK b n k).length):((rwK b n k)[i]).1=(i:Int):=by
 simp only [rwK,List.getElem_mapIdx];rfl
theorem rwK_asc (b:List En) (n:Int) (k:Nat):Asc (fun r:Rw=>r.1) (rwK b n k):=by
 rw [Asc,List.pairwise_iff_getElem]
 intro i j hi hj hij
 rw [rwK_at hi,rwK_at hj];omega
theorem ix_1 {b:List En} {n:Int} (h:bkE b≠0):ixE b n=bkE b∧ixL b n=[]:=by
 have e:ixE b n=bkE b:=if_pos h
 exact⟨e,if_neg (by rw [e];exact h)⟩
theorem ix_2 {b:List En} {n:Int} (h:bkE b=0)(h2:n<1∨16<n):ixE b n=1∧ixL b n=[]:=by
 have e:ixE b n=1:=by unfold ixE;rw [if_neg (fun x=>x h),if_pos h2]
 exact⟨e,if_neg (by rw [e];decide)⟩
theorem ix_3 {b:List En} {n:Int} (h:bkE b=0) (h2:¬ (n<1∨16<n)):ixE b n=0∧ixL b n=srt cmR (fun r:Rw=>r.1) (rwK b n b.length):=by
 have e:ixE b n=0:=by unfold ixE;rw [if_neg (fun x=>x h),if_neg h2]
 exact ⟨e,if_pos e⟩
theorem ix1_FS (a b:Rw):Ctr Tryz.prog 94 [.ag (eRw a),.ag (eRw b)] (.sc (.int .i64 (cmR a b))):=by
 have hF:=cmpQ_FS a.2 b.2 a.3 b.3
 refine Ctr.intro Tryz.func94 rfl Tryz.ntmps94 (Nat.le_of_ble_eq_true rfl) (bd_all rfl) fun w0 F0=>?_;dsimp only [St.init,number,Nat.reduceAdd]
 repeat refine W.go rfl ?_
 refine (?_:WL _ _ _ _ _ _)
 refine WL.vl rfl (WV.call rfl (callF Tryz.func95 rfl rfl) rfl rfl hF) ?_
 repeat refine WL.ev rfl ?_
 refine (?_:W _ _ _ _ _)
 exact W.ret (fin1 rfl rfl rfl rfl)
theorem srtr_G {f:FuncId} {cm:Rw→Rw→Int} {en:Rw→Int} (hcm:CmOk cm) (hcf:∀ vs w,(callFunc f vs).run Tryz.prog w=.ok (.enter f vs) w) (hC:∀ a b,Ctr Tryz.prog f [.ag (eRw a),.ag (eRw b)] (.sc (.int .i64 (cm a b)))) (l:List Rw) (hn:l.length≤100) (hl:Asc en l) :
  Cto truB 0 Tryz.prog 96 [.ag [.sc (.func (.func f) #[] #[])],.sl 0] [(0,.row 83 2 (l.map eRw))] 1 (.tu []) [(0,.row 83 2 ((srt cm en l).map eRw))] 1:=by
 refine Cto.intro truS Tryz.func96 rfl Tryz.ntmps96 (Nat.le_of_ble_eq_true rfl) rfl fun w0 F0 fp pg hB=>?_
 dsimp only [number,Nat.reduceAdd]
 have hi:=sortS_G hcm hcf hC l hn hl
 repeat (first|refine W.gob rfl ?_|refine WL.nil ?_|refine WL.e1 rfl ?_)
 refine (?_:WL _ _ _ _ _ _)
 refine WL.cto (truH _) [0] rfl rfl (callF Tryz.func155 rfl rfl) hi rfl rfl rfl ⟨⟨rfl,rfl,rfl⟩,trivial⟩ rfl rfl rfl rfl ?_
 repeat refine WL.nil ?_
 refine finTr (σ':=⟨[],[(0,.row 83 2 ((srt cm en l).map eRw))],1⟩) (zqt id) ?_
 exact finMu rfl rfl rfl rfl rfl
theorem pIndexO_FS (b:List En) (hB:BkOk b) (n:Int) (h0:bkE b=0) (hn:¬ (n < 1∨16 < n)):Cto truB 0 Tryz.prog 42 [eBk b,.sc (.int .i64 n)] [] 0 (.tu [.sl 0,.sc (.int .i64 0)]) [(0,.row 83 2 ((srt cmR (fun r:Rw=>r.1) (rwK b n b.length)).map eRw))] 1:=by
 have hBn:=hB.n
 have hC:=pBkCheck_FS b hB
 have hI:=chkInc_FS n
 have hBp:=hB.p
 have hEn:=(bkE_zero h0).2
 rw [if_neg hn] at hI
 rw [h0] at hC
 have hBl:(b.map eEn).length=b.length:=List.length_map _
 have hBa:∀ k (h:k < b.length),(b.map eEn)[((k:Nat):Int).toNat]?=some (eEn b[k]):=fun k h=>map_at h
 obtain ⟨BB,hBB⟩:∃ z,b.map eEn=z:=⟨_,rfl⟩
 have hC:Ctr Tryz.prog 56 [.ag [.ls 5 (b.map eEn)]] (.sc (.int .i64 0)):=hC
 show Cto truB 0 Tryz.prog 42 [.ag [.ls 5 (b.map eEn)],.sc (.int .i64 n)] [] 0 _ _ 1
 rw [hBB] at hBl hBa hC ⊢
 refine Cto.intro truS Tryz.func42 rfl Tryz.ntmps42 (Nat.le_of_ble_eq_true rfl) rfl fun w0 F0 fp pg hB'=>?_
 dsimp only [number,Nat.reduceAdd]
 repeat refine W.go rfl ?_
 refine (?_:WL _ _ _ _ _ _)
 refine WL.vl rfl (WV.call rfl (callF Tryz.func56 rfl rfl) rfl rfl hC) ?_
 repeat (first|refine W.gob rfl ?_|refine WL.nil ?_|refine WL.nf rfl rfl rfl (by omega) ?_|refine WL.e1 rfl ?_|refine W.condF rfl ?_)
 refine (?_:WL _ _ _ _ _ _)
 refine WL.vl rfl (WV.call rfl (callF Tryz.func93 rfl rfl) rfl rfl hI) ?_
 repeat (first|refine W.gob rfl ?_|refine WL.nil ?_|refine WL.nf rfl rfl rfl (by omega) ?_|refine WL.e1 rfl ?_|refine WL.len rfl rfl zql ?_|refine W.condF rfl ?_)
 refine (?_:W _ _ _ _ _)
 first|refine W.tr (Tr.nil (t:=8) 83 2 rfl rfl) ?_|refine WL.tr (Tr.nil (t:=8) 83 2 rfl rfl) ?_
 dsimp only [St.put,St.new,St.upd,Nat.reduceAdd]
 refine (?_:W _ _ _ _ _)
 refine W.loop (fun k:Nat=>k≤b.length) (fun k=>⟨[(1,.sc (.int .i64 n)),(2,.pt 0 0 0),(4,.sc (.slice none 0 0)),(8,.sl 1),(24,.ls 5 BB),(25,.sc (.int .i64 BB.length)),(26,.sc (.int .i64 k))],[(0,.box 48 [.ls 5 BB]),(1,.row 83 2 ((rwK b n k).map eRw))],2⟩) (fun k=>b.length - k) 0 (by omega) (zqu (fun q=>q) (by repeat (first|exact trivial|refine ⟨⟨?_,?_,?_⟩,?_⟩|rfl|exact congrArg (fun q=>some (AO.row _ _ q)) rfl)) rfl) fun k hk=>?_
 have hkl:=rwK_len (b:=b) (n:=n) hk
 have hkm:((rwK b n k).map eRw).length=(rwK b n k).length:=List.length_map _
 by_cases hlt:k < b.length
 ·have ha:=hBa k hlt
  obtain ⟨_,hp,_⟩:=enE_zero (hEn k hlt)
  have hF:=pIncipit_FS b[k].p (hBp k hlt) n
  have hE0:incE b[k].p n=0:=by unfold incE;rw [if_pos hp,if_neg hn]
  have hmap:(rwK b n k).map eRw++[[.sc (.int .i64 (k:Int)),.ls 1 ((incL b[k].p n).map eInt)]]=(rwK b n (k+1)).map eRw:=by
   have hr:eRw (rwE k b[k].p n)=[.sc (.int .i64 (k:Int)),.ls 1 ((incL b[k].p n).map eInt)]:=by
    show ([AV.sc (.int .i64 (k:Int)),AV.ls 1 (((incL b[k].p n).take 16).map eInt)]:List AV)=_
    rw [incL_16 hn]
   rw [rwK_s hlt,List.map_append,← hr];rfl
  rw [hE0] at hF
  obtain ⟨x,hx⟩:∃ z,b[k]=z:=⟨_,rfl⟩
  rw [hx] at ha hF hmap
  obtain ⟨IL,hIL⟩:∃ z,incL x.p n=z:=⟨_,rfl⟩
  rw [hIL] at hF hmap
  clear hBa hIL hBp hEn
  repeat (first|refine W.gob rfl ?_|refine WL.nil ?_|refine WL.bt rfl rfl rfl (by omega) ?_|refine WL.e1 rfl ?_|refine W.condT rfl ?_)
  refine (?_:WL _ _ _ _ _ _)
  refine WL.idx rfl rfl (by omega) ha ?_
  repeat (first|refine W.gob rfl ?_|refine WL.nil ?_|refine WL.e1 rfl ?_)
  refine (?_:WL _ _ _ _ _ _)
  refine WL.vl rfl (WV.call rfl (callF Tryz.func48 rfl rfl) rfl rfl hF) ?_
  repeat (first|refine W.gob rfl ?_|refine WL.nil ?_|refine WL.nf rfl rfl rfl (by omega) ?_|refine WL.e1 rfl ?_|refine WL.ar rfl rfl (by unfold I64;omega) ?_|refine WL.app rfl rfl rfl (by first|omega|(simp;done)|(simp;omega)) ?_|refine W.condF rfl ?_)
  refine ⟨k+1,by omega,by omega,?_⟩
  exact (zqu (fun q=>bif Nat.beq q 1 then 4 else q) (by repeat (first|exact trivial|refine ⟨⟨?_,?_,?_⟩,?_⟩|rfl|exact congrArg (fun q=>some (AO.row _ _ q)) hmap)) rfl)
 obtain rfl:k=b.length:=by omega
 have hs:=srtr_G cmR_ok (callF Tryz.func94 rfl rfl) ix1_FS (rwK b n b.length) (by omega) (rwK_asc b n b.length)
 clear hBa hBp hEn
 repeat (first|refine W.gob rfl ?_|refine WL.nil ?_|refine WL.bf rfl rfl rfl (by omega) ?_|refine WL.e1 rfl ?_|refine W.condF rfl ?_)
 refine (?_:WL _ _ _ _ _ _)
 refine WL.cto (truH _) [1] rfl rfl (callF Tryz.func96 rfl rfl) hs rfl rfl rfl ⟨⟨rfl,rfl,rfl⟩,trivial⟩ rfl rfl rfl rfl ?_
 repeat (first|refine W.gob rfl ?_|refine WL.nil ?_|refine WL.e1 rfl ?_)
 refine (?_:W _ _ _ _ _)
 refine W.tr (σ':=⟨[(4,.sl 0),(5,.sc (.int .i64 0))],[(0,.row 83 2 ((srt cmR (fun r:Rw=>r.1) (rwK b n b.length)).map eRw))],1⟩) (zqu (fun q=>bif Nat.beq q 0 then 1 else q) (by repeat (first|exact trivial|refine ⟨⟨?_,?_,?_⟩,?_⟩|rfl|exact congrArg (fun q=>some (AO.row _ _ q)) (by first|rfl|(simp;done)|(simp [eInt];done)|(simp [eLk];done)))) rfl) ?_
 exact W.ret (finM rfl rfl rfl rfl rfl)
theorem pIndex_no (b:List En) (hB:BkOk b) (n:Int) (h:ixE b n≠0):Ctr Tryz.prog 42 [eBk b,.sc (.int .i64 n)] (.tu [.ls 2 [],.sc (.int .i64 (ixE b n))]):=by
 have hC:=pBkCheck_FS b hB
 have hI:=chkInc_FS n
 by_cases h0:bkE b=0
 rotate_left
 ·rw [(ix_1 h0).1]
  obtain ⟨E,hE⟩:∃ E,bkE b=E:=⟨_,rfl⟩
  rw [hE] at h0 hC ⊢
  refine Ctr.intro Tryz.func42 rfl Tryz.ntmps42 (Nat.le_of_ble_eq_true rfl) (bd_all rfl) fun w0 F0=>?_;dsimp only [St.init,number,Nat.reduceAdd]
  repeat refine W.go rfl ?_
  refine (?_:WL _ _ _ _ _ _)
  refine WL.vl rfl (WV.call rfl (callF Tryz.func56 rfl rfl) rfl rfl hC) ?_
  repeat (first|refine W.gob rfl ?_|refine WL.nil ?_|refine WL.nt rfl rfl rfl (by omega) ?_|refine WL.e1 rfl ?_|refine W.condT rfl ?_)
  refine (?_:W _ _ _ _ _)
  refine W.tr (Tr.nilR (t:=4) 2 rfl) ?_
  exact W.ret (finN rfl rfl rfl rfl)
 ·have hn:n < 1∨16 < n:=Classical.byContradiction fun hn=>h (ix_3 h0 hn).1
  rw [(ix_2 h0 hn).1]
  rw [h0] at hC
  rw [if_pos hn] at hI
  refine Ctr.intro Tryz.func42 rfl Tryz.ntmps42 (Nat.le_of_ble_eq_true rfl) (bd_all rfl) fun w0 F0=>?_;dsimp only [St.init,number,Nat.reduceAdd]
  repeat refine W.go rfl ?_
  refine (?_:WL _ _ _ _ _ _)
  refine WL.vl rfl (WV.call rfl (callF Tryz.func56 rfl rfl) rfl rfl hC) ?_
  repeat (first|refine W.gob rfl ?_|refine WL.nil ?_|refine WL.nf rfl rfl rfl (by omega) ?_|refine WL.e1 rfl ?_|refine W.condF rfl ?_)
  refine (?_:WL _ _ _ _ _ _)
  refine WL.vl rfl (WV.call rfl (callF Tryz.func93 rfl rfl) rfl rfl hI) ?_
  repeat (first|refine W.gob rfl ?_|refine WL.nil ?_|refine WL.nt rfl rfl rfl (by omega) ?_|refine WL.e1 rfl ?_|refine W.condT rfl ?_)
  refine (?_:W _ _ _ _ _)
  refine W.tr (Tr.nilR (t:=4) 2 rfl) ?_
  exact W.ret (finN rfl rfl rfl rfl)
end Go.Proofs.YtgelfflighgajaaGreatDoor
