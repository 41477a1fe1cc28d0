/- The library's sort (slices.SortFunc) over stops that stand in order already: it leaves them. -/
import Derived.Test.YtaeelcfjkhfpkaaGreatYZNq
set_option maxHeartbeats 8000000
set_option maxRecDepth 100000
set_option linter.unusedVariables false
set_option linter.unusedSimpArgs false
namespace Go.Proofs.YtaeelcfjkhfpkaaGreat
open Go.RowKit
theorem z55i {z:Int} (h:I64 z:=by unfold I64;omega):I64 z:=h
def cmI(a b:Int):Int:=if a<b then -1 else if b<a then 1 else 0
theorem yNan_FS (a:Int):Ctr Tryz.prog 147 [.sc (.int .i64 a)] (.sc (.bool false)):=by
 refine zqe Tryz.func147 Tryz.ntmps147 fun w0 F0=>?_;dsimp only [St.init,number,Nat.reduceAdd]
 repeat refine W.go rfl ?_
 refine (?_:W _ _ _ _ _)
 refine W.ret (fin1 rfl rfl (sc_bool ?_) rfl)
 simp
theorem yCmp_FS (a b:Int):Ctr Tryz.prog 136 [.sc (.int .i64 a),.sc (.int .i64 b)] (.sc (.int .i64 (cmI a b))):=by
 have h1:=yNan_FS a
 have h2:=yNan_FS b
 by_cases hlt:a < b
 ·rw [show cmI a b=-1 from if_pos hlt]
  refine zqe Tryz.func136 Tryz.ntmps136 fun w0 F0=>?_;dsimp only [St.init,number,Nat.reduceAdd]
  repeat refine W.go rfl ?_
  refine (?_:WL _ _ _ _ _ _)
  refine WL.vl rfl (zqc Tryz.func147 h1) ?_
  repeat (first|refine W.gob rfl ?_|refine WL.nil ?_|refine WL.e1 rfl ?_)
  refine (?_:WL _ _ _ _ _ _)
  refine WL.vl rfl (zqc Tryz.func147 h2) ?_
  repeat (first|refine W.gob rfl ?_|refine WL.nil ?_|refine WL.bt rfl rfl rfl zqo ?_|refine WL.e1 rfl ?_|refine W.condT rfl ?_|refine W.condF rfl ?_)
  refine (?_:W _ _ _ _ _)
  exact W.ret zqr
 ·by_cases hgt:b < a
  ·rw [show cmI a b=1 by unfold cmI;rw [if_neg hlt,if_pos hgt]]
   refine zqe Tryz.func136 Tryz.ntmps136 fun w0 F0=>?_;dsimp only [St.init,number,Nat.reduceAdd]
   repeat refine W.go rfl ?_
   refine (?_:WL _ _ _ _ _ _)
   refine WL.vl rfl (zqc Tryz.func147 h1) ?_
   repeat (first|refine W.gob rfl ?_|refine WL.nil ?_|refine WL.e1 rfl ?_)
   refine (?_:WL _ _ _ _ _ _)
   refine WL.vl rfl (zqc Tryz.func147 h2) ?_
   repeat (first|refine W.gob rfl ?_|refine WL.nil ?_|refine WL.bt rfl rfl rfl zqo ?_|refine WL.bf rfl rfl rfl zqo ?_|refine WL.e1 rfl ?_|refine W.condT rfl ?_|refine W.condF rfl ?_)
   refine (?_:W _ _ _ _ _)
   exact W.ret zqr
  ·rw [show cmI a b=0 by unfold cmI;rw [if_neg hlt,if_neg hgt]]
   refine zqe Tryz.func136 Tryz.ntmps136 fun w0 F0=>?_;dsimp only [St.init,number,Nat.reduceAdd]
   repeat refine W.go rfl ?_
   refine (?_:WL _ _ _ _ _ _)
   refine WL.vl rfl (zqc Tryz.func147 h1) ?_
   repeat (first|refine W.gob rfl ?_|refine WL.nil ?_|refine WL.e1 rfl ?_)
   refine (?_:WL _ _ _ _ _ _)
   refine WL.vl rfl (zqc Tryz.func147 h2) ?_
   repeat (first|refine W.gob rfl ?_|refine WL.nil ?_|refine WL.bf rfl rfl rfl zqo ?_|refine WL.e1 rfl ?_|refine W.condF rfl ?_)
   refine (?_:W _ _ _ _ _)
   exact W.ret zqr
theorem one1_FS (x y:Stp):Ctr Tryz.prog 135 [.ag (eStp x),.ag (eStp y)] (.sc (.int .i64 (cmI x.1 y.1))):=by
 refine zqe Tryz.func135 Tryz.ntmps135 fun w0 F0=>?_;dsimp only [St.init,number,Nat.reduceAdd]
 repeat refine W.go rfl ?_
 refine (?_:WL _ _ _ _ _ _)
 refine WL.vl rfl (WV.call rfl (callF Tryz.func136 rfl rfl) rfl rfl (yCmp_FS x.1 y.1)) ?_
 repeat refine WL.ev rfl ?_
 refine (?_:W _ _ _ _ _)
 exact W.ret zqr
theorem one1_asc {l:List Stp} (ha:l.Pairwise fun x y=>x.1<y.1) {i j:Nat} (h:i<j)(hj:j<l.length):Ctr Tryz.prog 135 [.ag (eStp l[j]),.ag (eStp (l[i]'(by omega)))] (.sc (.int .i64 1)):=by
 have hlt:=List.pairwise_iff_getElem.1 ha i j (by omega) hj h
 have:=one1_FS l[j] (l[i]' zqo)
 rw [show cmI l[j].1 (l[i]'(by omega)).1=1 by unfold cmI;rw [if_neg (by omega),if_pos hlt]] at this
 exact this
theorem stp_at {l:List Stp} {z:Int} {k:Nat} (hz:z.toNat=k)(h:k<l.length):(l.map eStp)[z.toNat]?=some (eStp l[k]):=by
 rw [hz,List.getElem?_map,List.getElem?_eq_getElem h];rfl
theorem yIns_G (l:List Stp) (ha:l.Pairwise fun x y=>x.1 < y.1) (hl:l.length≤100) :
  Cto truB 0 Tryz.prog 150 [.sl 0,.sc (.int .i64 0),.sc (.int .i64 l.length),.sc (.func (.func 135) #[] #[])] [(0,.row 48 5 (l.map eStp))] 1 (.tu []) [(0,.row 48 5 (l.map eStp))] 1:=by
 have hRl:(l.map eStp).length=l.length:=List.length_map _
 refine Cto.intro truS Tryz.func150 rfl Tryz.ntmps150 (Nat.le_of_ble_eq_true rfl) rfl fun w0 F0 fp pg hB=>?_
 dsimp only [number,Nat.reduceAdd]
 repeat (first|refine W.go rfl ?_|refine WL.ev rfl ?_|refine WL.ar rfl rfl z55i ?_)
 refine (?_:W _ _ _ _ _)
 refine W.loop (fun k:Nat=>1≤k) (fun k=>⟨[(0,.sl 0),(1,.sc (.int .i64 0)),(2,.sc (.int .i64 l.length)),(3,.sc (.func (.func 135) #[] #[])),(8,.sc (.int .i64 k))],[(0,.row 48 5 (l.map eStp))],1⟩) (fun k=>l.length - k) 1 zqo (zqt id) fun k hk=>?_
 by_cases hlt:k < l.length
 ·have hC:=one1_asc ha (show k - 1 < k by omega) hlt
  have r1:=stp_at (l:=l) (z:=(k:Int)) (k:=k) zqo hlt
  have r0:=stp_at (l:=l) (z:=(k:Int) - 1) (k:=k - 1) zqo zqo
  obtain ⟨R,hR⟩:∃ z,l.map eStp=z:=⟨_,rfl⟩
  rw [hR] at hRl r1 r0 ⊢
  repeat (first|refine W.gob rfl ?_|refine WL.nil ?_|refine WL.bt rfl rfl rfl zqo ?_|refine WL.e1 rfl ?_|refine W.condT rfl ?_)
  refine (?_:W _ _ _ _ _)
  refine W.loop (fun u:Unit=>True) (fun _=>⟨[(0,.sl 0),(1,.sc (.int .i64 0)),(2,.sc (.int .i64 l.length)),(3,.sc (.func (.func 135) #[] #[])),(8,.sc (.int .i64 k)),(9,.sc (.int .i64 k))],[(0,.row 48 5 R)],1⟩) (fun _=>0) () trivial (zqt id) fun u hu=>?_
  repeat refine W.gob rfl ?_
  refine (?_:W _ _ _ _ _)
  refine W.drawK zqk zqk ?_
  repeat (first|refine DK.bt rfl rfl (by omega) ?_|refine DK.tt rfl (by first|(simp;done)|fail) ?_|refine DK.st rfl ?_|refine DK.ixs rfl rfl zqs ?_)
  refine DK.lda rfl rfl r1 rfl ?_
  repeat (first|refine DK.st rfl ?_|refine DK.ar rfl rfl z55i ?_|refine DK.ixs rfl rfl zqs ?_)
  refine DK.lda rfl rfl r0 rfl ?_
  refine DK.vl rfl (WV.callV (truH _) rfl (callF Tryz.func135 rfl rfl) rfl rfl rfl rfl rfl hC.g) ?_
  repeat (first|refine DK.bf rfl rfl (by omega) ?_|refine DK.ff rfl (by first|(simp;done)|fail) ?_|refine DK.nil ?_)
  repeat (first|refine W.gob rfl ?_|refine WL.nil ?_|refine WL.e1 rfl ?_|refine WL.ar rfl rfl z55i ?_|refine W.condF rfl ?_)
  exact ⟨k+1,by omega,by omega,(zqt id)⟩
 ·repeat (first|refine W.gob rfl ?_|refine WL.nil ?_|refine WL.bf rfl rfl rfl zqo ?_|refine WL.e1 rfl ?_|refine W.condF rfl ?_)
  exact finMuL rfl rfl rfl rfl rfl
theorem yPart_G (l:List Stp) (ha:l.Pairwise fun x y=>x.1 < y.1) (hl:l.length≤100) (h1:1≤l.length) :
  Cto truB 0 Tryz.prog 155 [.sl 0,.sc (.int .i64 0),.sc (.int .i64 l.length),.sc (.func (.func 135) #[] #[])] [(0,.row 48 5 (l.map eStp))] 1 (.sc (.bool true)) [(0,.row 48 5 (l.map eStp))] 1:=by
 have hRl:(l.map eStp).length=l.length:=List.length_map _
 refine Cto.intro truS Tryz.func155 rfl Tryz.ntmps155 (Nat.le_of_ble_eq_true rfl) rfl fun w0 F0 fp pg hB=>?_
 dsimp only [number,Nat.reduceAdd]
 repeat (first|refine W.go rfl ?_|refine WL.ev rfl ?_|refine WL.ar rfl rfl z55i ?_)
 refine (?_:W _ _ _ _ _)
 refine W.loop (fun u:Unit=>True) (fun _=>⟨[(0,.sl 0),(1,.sc (.int .i64 0)),(2,.sc (.int .i64 l.length)),(3,.sc (.func (.func 135) #[] #[])),(9,.sc (.int .i64 1)),(10,.sc (.int .i64 0))],[(0,.row 48 5 (l.map eStp))],1⟩) (fun _=>0) () trivial (zqt id) fun u hu=>?_
 repeat (first|refine W.gob rfl ?_|refine WL.nil ?_|refine WL.bt rfl rfl rfl zqo ?_|refine WL.e1 rfl ?_|refine W.condT rfl ?_)
 refine (?_:W _ _ _ _ _)
 refine W.loop (fun k:Nat=>1≤k∧k≤l.length) (fun k=>⟨[(0,.sl 0),(1,.sc (.int .i64 0)),(2,.sc (.int .i64 l.length)),(3,.sc (.func (.func 135) #[] #[])),(9,.sc (.int .i64 k)),(10,.sc (.int .i64 0))],[(0,.row 48 5 (l.map eStp))],1⟩) (fun k=>l.length - k) 1 zqo (zqt id) fun k hk=>?_
 by_cases hlt:k < l.length
 ·have hC:=one1_asc ha (show k - 1 < k by omega) hlt
  have r1:=stp_at (l:=l) (z:=(k:Int)) (k:=k) zqo hlt
  have r0:=stp_at (l:=l) (z:=(k:Int) - 1) (k:=k - 1) zqo zqo
  obtain ⟨R,hR⟩:∃ z,l.map eStp=z:=⟨_,rfl⟩
  rw [hR] at hRl r1 r0 ⊢
  repeat refine W.gob rfl ?_
  refine (?_:W _ _ _ _ _)
  refine W.drawK zqk zqk ?_
  repeat (first|refine DK.bt rfl rfl (by omega) ?_|refine DK.tt rfl (by first|(simp;done)|fail) ?_|refine DK.st rfl ?_|refine DK.ixs rfl rfl zqs ?_)
  refine DK.lda rfl rfl r1 rfl ?_
  repeat (first|refine DK.st rfl ?_|refine DK.ar rfl rfl z55i ?_|refine DK.ixs rfl rfl zqs ?_)
  refine DK.lda rfl rfl r0 rfl ?_
  refine DK.vl rfl (WV.callV (truH _) rfl (callF Tryz.func135 rfl rfl) rfl rfl rfl rfl rfl hC.g) ?_
  repeat (first|refine DK.bf rfl rfl (by omega) ?_|refine DK.tt rfl (by first|(simp;done)|fail) ?_|refine DK.nil ?_)
  repeat (first|refine W.gob rfl ?_|refine WL.nil ?_|refine WL.e1 rfl ?_|refine WL.ar rfl rfl z55i ?_|refine W.condT rfl ?_)
  exact ⟨k+1,by omega,by omega,(zqt id)⟩
 ·obtain rfl:k=l.length:=by omega
  repeat refine W.gob rfl ?_
  refine (?_:W _ _ _ _ _)
  refine W.drawK zqk zqk ?_
  repeat (first|refine DK.bf rfl rfl (by omega) ?_|refine DK.ff rfl (by first|(simp;done)|fail) ?_|refine DK.st rfl ?_|refine DK.nil ?_)
  repeat (first|refine W.gob rfl ?_|refine WL.nil ?_|refine WL.bt rfl rfl rfl zqo ?_|refine WL.e1 rfl ?_|refine W.condT rfl ?_|refine W.condF rfl ?_)
  refine (?_:W _ _ _ _ _)
  refine W.tr (σ':=⟨[(8,.sc (.bool true))],[(0,.row 48 5 (l.map eStp))],1⟩) (zqt id) ?_
  exact W.ret (finM rfl rfl rfl rfl rfl)
theorem yOrd_G (l:List Stp) (ha:l.Pairwise fun x y=>x.1 < y.1) (i j:Nat) (h:i < j) (hj:j < l.length) (hl:l.length≤100) :
  Cto truB 0 Tryz.prog 165 [.sl 0,.sc (.int .i64 i),.sc (.int .i64 j),.pt 1 0 0,.sc (.func (.func 135) #[] #[])] [(0,.row 48 5 (l.map eStp)),(1,.box 3 [.sc (.int .i64 0)])] 2
   (.tu [.sc (.int .i64 i),.sc (.int .i64 j)]) [(0,.row 48 5 (l.map eStp)),(1,.box 3 [.sc (.int .i64 0)])] 2:=by
 have hRl:(l.map eStp).length=l.length:=List.length_map _
 have hC:=one1_asc ha h hj
 have r1:=stp_at (l:=l) (z:=(j:Int)) (k:=j) zqo hj
 have r0:=stp_at (l:=l) (z:=(i:Int)) (k:=i) zqo zqo
 obtain ⟨R,hR⟩:∃ z,l.map eStp=z:=⟨_,rfl⟩
 rw [hR] at hRl r1 r0 ⊢
 refine Cto.intro truS Tryz.func165 rfl Tryz.ntmps165 (Nat.le_of_ble_eq_true rfl) rfl fun w0 F0 fp pg hB=>?_
 dsimp only [number,Nat.reduceAdd]
 repeat refine W.go rfl ?_
 refine (?_:W _ _ _ _ _)
 refine W.drawK zqk zqk ?_
 repeat (first|refine DK.st rfl ?_|refine DK.ixs rfl rfl zqs ?_)
 refine DK.lda rfl rfl r1 rfl ?_
 repeat (first|refine DK.st rfl ?_|refine DK.ixs rfl rfl zqs ?_)
 refine DK.lda rfl rfl r0 rfl ?_
 refine DK.vl rfl (WV.callV (truH _) rfl (callF Tryz.func135 rfl rfl) rfl rfl rfl rfl rfl hC.g) ?_
 repeat (first|refine DK.bf rfl rfl zqo ?_|refine DK.nil ?_)
 repeat (first|refine W.gob rfl ?_|refine WL.nil ?_|refine WL.e1 rfl ?_|refine W.condF rfl ?_)
 refine (?_:W _ _ _ _ _)
 exact W.ret (finM rfl rfl rfl rfl rfl)
theorem yMed_G (l:List Stp) (ha:l.Pairwise fun x y=>x.1 < y.1) (i j k:Nat) (h:i < j) (h2:j < k) (hk:k < l.length) (hl:l.length≤100) :
  Cto truB 0 Tryz.prog 164 [.sl 0,.sc (.int .i64 i),.sc (.int .i64 j),.sc (.int .i64 k),.pt 1 0 0,.sc (.func (.func 135) #[] #[])] [(0,.row 48 5 (l.map eStp)),(1,.box 3 [.sc (.int .i64 0)])] 2
   (.sc (.int .i64 j)) [(0,.row 48 5 (l.map eStp)),(1,.box 3 [.sc (.int .i64 0)])] 2:=by
 have c1:=yOrd_G l ha i j h zqo hl
 have c2:=yOrd_G l ha j k h2 hk hl
 refine Cto.intro truS Tryz.func164 rfl Tryz.ntmps164 (Nat.le_of_ble_eq_true rfl) rfl fun w0 F0 fp pg hB=>?_
 dsimp only [number,Nat.reduceAdd]
 repeat refine W.go rfl ?_
 refine (?_:WL _ _ _ _ _ _)
 refine WL.cto (truH _) [0,1] rfl rfl (callF Tryz.func165 rfl rfl) c1 rfl rfl rfl ⟨⟨rfl,rfl,rfl⟩,⟨rfl,rfl,rfl⟩,trivial⟩ rfl rfl rfl rfl ?_
 repeat (first|refine W.go rfl ?_|refine WL.ev rfl ?_)
 refine (?_:WL _ _ _ _ _ _)
 refine WL.cto (truH _) [0,1] rfl rfl (callF Tryz.func165 rfl rfl) c2 rfl rfl rfl ⟨⟨rfl,rfl,rfl⟩,⟨rfl,rfl,rfl⟩,trivial⟩ rfl rfl rfl rfl ?_
 repeat (first|refine W.go rfl ?_|refine WL.ev rfl ?_)
 refine (?_:WL _ _ _ _ _ _)
 refine WL.cto (truH _) [0,1] rfl rfl (callF Tryz.func165 rfl rfl) c1 rfl rfl rfl ⟨⟨rfl,rfl,rfl⟩,⟨rfl,rfl,rfl⟩,trivial⟩ rfl rfl rfl rfl ?_
 repeat (first|refine W.go rfl ?_|refine WL.ev rfl ?_)
 refine (?_:W _ _ _ _ _)
 exact W.ret (finM rfl rfl rfl rfl rfl)
theorem yPiv_G (l:List Stp) (ha:l.Pairwise fun x y=>x.1 < y.1) (h1:12 < l.length) (hl:l.length≤14) :
  Cto truB 0 Tryz.prog 153 [.sl 0,.sc (.int .i64 0),.sc (.int .i64 l.length),.sc (.func (.func 135) #[] #[])] [(0,.row 48 5 (l.map eStp))] 1
   (.tu [.sc (.int .i64 6),.sc (.int .i64 1)]) [(0,.row 48 5 (l.map eStp))] 1:=by
 have c1:=yMed_G l ha 3 6 9 zqo zqo zqo zqo
 have hn:l.length=13∨l.length=14:=by omega
 rcases hn with hn|hn
 all_goals
  rw [hn]
  refine Cto.intro truS Tryz.func153 rfl Tryz.ntmps153 (Nat.le_of_ble_eq_true rfl) rfl fun w0 F0 fp pg hB=>?_
  dsimp only [number,Nat.reduceAdd]
  repeat (first|refine W.gob rfl ?_|refine WL.nil ?_|refine WL.bt rfl rfl rfl zqo ?_|refine WL.bf rfl rfl rfl zqo ?_|refine WL.e1 rfl ?_|refine WL.ar rfl rfl z55i ?_|refine WL.div rfl rfl zqo ?_|refine W.condT rfl ?_|refine W.condF rfl ?_)
  refine (?_:WL _ _ _ _ _ _)
  refine WL.cto (truH _) [0,1] rfl rfl (callF Tryz.func164 rfl rfl) c1 rfl rfl rfl ⟨⟨rfl,rfl,rfl⟩,⟨rfl,rfl,rfl⟩,trivial⟩ rfl rfl rfl rfl ?_
  repeat (first|refine W.gob rfl ?_|refine WL.nil ?_|refine WL.bt rfl rfl rfl zqo ?_|refine WL.e1 rfl ?_|refine W.condT rfl ?_)
  refine (?_:W _ _ _ _ _)
  refine W.tr (σ':=⟨[(8,.sc (.int .i64 6)),(9,.sc (.int .i64 1))],[(0,.row 48 5 (l.map eStp))],1⟩) (zqt id) ?_
  exact W.ret (finM rfl rfl rfl rfl rfl)
theorem yPdq_G (l:List Stp) (ha:l.Pairwise fun x y=>x.1 < y.1) (hl:l.length≤14) (z:Int) (hz:12 < l.length→z≠0) :
  Cto truB 0 Tryz.prog 145 [.sl 0,.sc (.int .i64 0),.sc (.int .i64 l.length),.sc (.int .i64 z),.sc (.func (.func 135) #[] #[])] [(0,.row 48 5 (l.map eStp))] 1 (.tu []) [(0,.row 48 5 (l.map eStp))] 1:=by
 by_cases h:l.length≤12
 ·have c:=yIns_G l ha zqo
  refine Cto.intro truS Tryz.func145 rfl Tryz.ntmps145 (Nat.le_of_ble_eq_true rfl) rfl fun w0 F0 fp pg hB=>?_
  dsimp only [number,Nat.reduceAdd]
  repeat (first|refine W.gob rfl ?_|refine WL.nil ?_|refine WL.e1 rfl ?_)
  refine (?_:W _ _ _ _ _)
  refine W.loop (fun u:Unit=>True) (fun _=>⟨[(0,.sl 0),(1,.sc (.int .i64 0)),(2,.sc (.int .i64 l.length)),(3,.sc (.int .i64 z)),(4,.sc (.func (.func 135) #[] #[])),(10,.sc (.bool true)),(11,.sc (.bool true))],[(0,.row 48 5 (l.map eStp))],1⟩) (fun _=>0) () trivial (zqt id) fun u hu=>?_
  repeat (first|refine W.gob rfl ?_|refine WL.nil ?_|refine WL.bt rfl rfl rfl zqo ?_|refine WL.e1 rfl ?_|refine WL.ar rfl rfl z55i ?_|refine W.condT rfl ?_)
  refine (?_:WL _ _ _ _ _ _)
  refine WL.cto (truH _) [0] rfl rfl (callF Tryz.func150 rfl rfl) c rfl rfl rfl ⟨⟨rfl,rfl,rfl⟩,trivial⟩ rfl rfl rfl rfl ?_
  repeat refine WL.nil ?_
  refine (?_:W _ _ _ _ _)
  exact W.ret (finM rfl rfl rfl rfl rfl)
 ·have c:=yPiv_G l ha zqo hl
  have c2:=yPart_G l ha zqo zqo
  have hz0:=hz zqo
  refine Cto.intro truS Tryz.func145 rfl Tryz.ntmps145 (Nat.le_of_ble_eq_true rfl) rfl fun w0 F0 fp pg hB=>?_
  dsimp only [number,Nat.reduceAdd]
  repeat (first|refine W.gob rfl ?_|refine WL.nil ?_|refine WL.e1 rfl ?_)
  refine (?_:W _ _ _ _ _)
  refine W.loop (fun u:Unit=>True) (fun _=>⟨[(0,.sl 0),(1,.sc (.int .i64 0)),(2,.sc (.int .i64 l.length)),(3,.sc (.int .i64 z)),(4,.sc (.func (.func 135) #[] #[])),(10,.sc (.bool true)),(11,.sc (.bool true))],[(0,.row 48 5 (l.map eStp))],1⟩) (fun _=>0) () trivial (zqt id) fun u hu=>?_
  repeat (first|refine W.gob rfl ?_|refine WL.nil ?_|refine WL.bf rfl rfl rfl zqo ?_|refine WL.e1 rfl ?_|refine WL.ar rfl rfl z55i ?_|refine W.condF rfl ?_)
  refine (?_:WL _ _ _ _ _ _)
  refine WL.cto (truH _) [0] rfl rfl (callF Tryz.func153 rfl rfl) c rfl rfl rfl ⟨⟨rfl,rfl,rfl⟩,trivial⟩ rfl rfl rfl rfl ?_
  repeat (first|refine W.gob rfl ?_|refine WL.nil ?_|refine WL.bt rfl rfl rfl zqo ?_|refine WL.bf rfl rfl rfl zqo ?_|refine WL.e1 rfl ?_|refine WL.gyes rfl rfl rfl rfl ?_|refine W.condT rfl ?_|refine W.condF rfl ?_)
  refine (?_:WL _ _ _ _ _ _)
  refine WL.cto (truH _) [0] rfl rfl (callF Tryz.func155 rfl rfl) c2 rfl rfl rfl ⟨⟨rfl,rfl,rfl⟩,trivial⟩ rfl rfl rfl rfl ?_
  repeat (first|refine WL.nil ?_|refine W.condT rfl ?_)
  refine (?_:W _ _ _ _ _)
  exact W.ret (finM rfl rfl rfl rfl rfl)
def bL(n:Nat):Int:=if n=0 then 0 else if n<2 then 1 else if n<4 then 2 else if n<8 then 3 else 4
theorem bL_0 {n:Nat} (h:12<n):bL n≠0:=by
 unfold bL
 rw [if_neg (by omega),if_neg (by omega),if_neg (by omega),if_neg (by omega)];decide
theorem len64_FS (n:Nat) (hn:n≤14):Ctr Tryz.prog 159 [.sc (.int .u64 n)] (.sc (.int .i64 (bL n))):=by
 obtain rfl|rfl|rfl|rfl|rfl|rfl|rfl|rfl|rfl|rfl|rfl|rfl|rfl|rfl|rfl:n=0∨n=1∨n=2∨n=3∨n=4∨n=5∨n=6∨n=7∨n=8∨n=9∨n=10∨n=11∨n=12∨n=13∨n=14:=by omega
 all_goals
  refine zqe Tryz.func159 Tryz.ntmps159 fun w0 F0=>?_;dsimp only [St.init,number,Nat.reduceAdd]
  repeat (first|refine W.go rfl ?_|refine W.condF rfl ?_)
  refine (?_:WL _ _ _ _ _ _)
  refine WL.cvt rfl rfl rfl rfl ?_
  refine (?_:WL _ _ _ _ _ _)
  refine WL.six rfl rfl (by decide) ?_
  refine (?_:WL _ _ _ _ _ _)
  first|refine WL.cvt (m:=0) rfl rfl rfl (by decide +kernel) ?_|refine WL.cvt (m:=1) rfl rfl rfl (by decide +kernel) ?_|refine WL.cvt (m:=2) rfl rfl rfl (by decide +kernel) ?_|refine WL.cvt (m:=3) rfl rfl rfl (by decide +kernel) ?_|refine WL.cvt (m:=4) rfl rfl rfl (by decide +kernel) ?_
  repeat (first|refine WL.ev rfl ?_|refine WL.ar rfl rfl z55i ?_)
  refine (?_:W _ _ _ _ _)
  exact W.ret zqr
theorem wrapU {n:Nat} (h:n≤14):IntKind.u64.wrap (n:Int)=(n:Int):=by
 obtain rfl|rfl|rfl|rfl|rfl|rfl|rfl|rfl|rfl|rfl|rfl|rfl|rfl|rfl|rfl:n=0∨n=1∨n=2∨n=3∨n=4∨n=5∨n=6∨n=7∨n=8∨n=9∨n=10∨n=11∨n=12∨n=13∨n=14:=by omega
 all_goals rfl
theorem bitsLen_FS (n:Nat) (hn:n≤14):Ctr Tryz.prog 146 [.sc (.int .u64 n)] (.sc (.int .i64 (bL n))):=by
 have h:=len64_FS n hn
 refine zqe Tryz.func146 Tryz.ntmps146 fun w0 F0=>?_;dsimp only [St.init,number,Nat.reduceAdd]
 repeat (first|refine W.go rfl ?_|refine W.condF rfl ?_)
 refine (?_:WL _ _ _ _ _ _)
 refine WL.vl rfl (zqc Tryz.func159 h) ?_
 repeat refine WL.ev rfl ?_
 refine (?_:W _ _ _ _ _)
 exact W.ret zqr
theorem ySort_G (l:List Stp) (ha:l.Pairwise fun x y=>x.1 < y.1) (hl:l.length≤14) :
  Cto truB 0 Tryz.prog 134 [.sl 0,.sc (.func (.func 135) #[] #[])] [(0,.row 48 5 (l.map eStp))] 1 (.tu []) [(0,.row 48 5 (l.map eStp))] 1:=by
 have hRl:(l.map eStp).length=l.length:=List.length_map _
 have c:=yPdq_G l ha hl (bL l.length) bL_0
 have cb:=bitsLen_FS l.length hl
 obtain ⟨z,hz⟩:∃ z,bL l.length=z:=⟨_,rfl⟩
 rw [hz] at c cb
 refine Cto.intro truS Tryz.func134 rfl Tryz.ntmps134 (Nat.le_of_ble_eq_true rfl) rfl fun w0 F0 fp pg hB=>?_
 dsimp only [number,Nat.reduceAdd]
 repeat (first|refine W.go rfl ?_|refine WL.ev rfl ?_|refine WL.len rfl rfl zql ?_)
 refine (?_:WL _ _ _ _ _ _)
 refine WL.cvt rfl rfl rfl (wrapU hl) ?_
 refine (?_:WL _ _ _ _ _ _)
 refine WL.vl rfl (zqc Tryz.func146 cb) ?_
 repeat refine WL.ev rfl ?_
 refine (?_:WL _ _ _ _ _ _)
 refine WL.cto (truH _) [0] rfl rfl (callF Tryz.func145 rfl rfl) c rfl rfl rfl ⟨⟨rfl,rfl,rfl⟩,trivial⟩ rfl rfl rfl rfl ?_
 repeat refine WL.nil ?_
 exact finMuL rfl rfl rfl rfl rfl
end Go.Proofs.YtaeelcfjkhfpkaaGreat
