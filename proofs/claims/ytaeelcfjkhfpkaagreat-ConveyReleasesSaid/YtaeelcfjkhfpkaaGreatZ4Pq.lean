/- An instrument behind a capo: the reference. -/
import Derived.Test.YtaeelcfjkhfpkaaGreatOiPq
set_option maxHeartbeats 8000000
set_option maxRecDepth 100000
set_option linter.unusedVariables false
set_option linter.unusedSimpArgs false
namespace Go.Proofs.YtaeelcfjkhfpkaaGreat
open Go.RowKit
theorem z59i {z:Int} (h:I64 z:=by unfold I64;omega):I64 z:=h
theorem insCopyOO_FS (cs:List (Int×Int×Bool)) (st:List Int) (h1:cs.length≤64) (h2:st.length≤64):Cto truB 0 Tryz.prog 35 [.ag [.ls 3 (cs.map eCrs),.ls 1 (st.map eInt)]] [] 0 (.ag [.sl 0,.sl 2])
  [(0,.row 70 3 (cs.map eCrs)),(1,.box 26 [.sl 0,.sl 2]),(2,.row 3 1 (st.map eInt))] 3:=by
 have hCl:(cs.map eCrs).length=cs.length:=List.length_map _
 have hSl:(st.map eInt).length=st.length:=List.length_map _
 obtain ⟨CS,hCS⟩:∃ z,cs.map eCrs=z:=⟨_,rfl⟩
 obtain ⟨ST,hST⟩:∃ z,st.map eInt=z:=⟨_,rfl⟩
 rw [hCS] at hCl ⊢
 rw [hST] at hSl ⊢
 refine Cto.intro truS Tryz.func35 rfl Tryz.ntmps35 (Nat.le_of_ble_eq_true rfl) rfl fun w0 F0 fp pg hB=>?_
 dsimp only [number,Nat.reduceAdd]
 repeat refine W.go rfl ?_
 refine (?_:W _ _ _ _ _)
 refine W.of_wa zqk ?_
 refine WA.eitherL2 [0,1,2,3,4,5,6,7,8,9] [0,1,2,3,4,5,6,7,8,9] [0,1,2,4,3,5,6,7,8,9] [0,1,2,4,3,5,6,7,8,9] 3 4 zqk zqk rfl ?_ ?_
 ·refine WA.dt [true,false,false,true,true,false,false,true,true,true] [0] [0,1] 9 zqk zqk zqk ⟨rfl,trivial⟩ ⟨rfl,rfl,trivial⟩ ?_
  refine DTK.bd rfl rfl rfl ⟨rfl,trivial⟩ (fun _=>⟨rfl,rfl,trivial⟩) ?_
  refine DTK.st rfl zqk rfl ?_
  refine DTK.st rfl zqk rfl ?_
  refine DTK.ap rfl rfl (by simp;omega) ⟨rfl,trivial⟩ (fun _=>⟨rfl,rfl,trivial⟩) ?_
  refine DTK.bd rfl rfl rfl ⟨rfl,trivial⟩ (fun _=>⟨rfl,rfl,trivial⟩) ?_
  refine DTK.st rfl zqk rfl ?_
  refine DTK.st rfl zqk rfl ?_
  refine DTK.ap rfl rfl (by simp;omega) ⟨rfl,trivial⟩ (fun _=>⟨rfl,rfl,trivial⟩) ?_
  refine yDTK_bs rfl rfl rfl rfl rfl rfl ⟨rfl,trivial⟩ (fun _=>⟨rfl,rfl,trivial⟩) ?_
  refine DTK.sto rfl rfl rfl rfl rfl rfl rfl rfl rfl rfl rfl rfl rfl rfl ⟨rfl,trivial⟩ (fun h=>by cases h) ?_
  refine DTK.nil ?_
  refine W.tr (σ':=⟨[(2,.pt 1 0 0)],[(0,.row 70 3 CS),(1,.box 26 [.sl 0,.sl 2]),(2,.row 3 1 ST)],3⟩) (zqt (fun q=>bif Nat.beq q 0 then 3 else bif Nat.beq q 2 then 5 else q)) ?_
  exact W.ret (finM rfl rfl rfl rfl rfl)
 ·refine WA.eitherL2 [0,1,2,3,4,5,6,7,8,9] [0,1,2,3,4,5,6,7,8,9] [1,2,3,0,4,5,6,7,8,9] [3,0,1,2,4,5,6,7,8,9] 0 3 zqk zqk rfl ?_ ?_
  ·refine WA.dt [true,false,false,true,true,false,false,true,true,true] [0] [0,1] 9 zqk zqk zqk ⟨rfl,trivial⟩ ⟨rfl,rfl,trivial⟩ ?_
   refine DTK.bd rfl rfl rfl ⟨rfl,trivial⟩ (fun _=>⟨rfl,rfl,trivial⟩) ?_
   refine DTK.st rfl zqk rfl ?_
   refine DTK.st rfl zqk rfl ?_
   refine DTK.bd rfl rfl rfl ⟨rfl,trivial⟩ (fun _=>⟨rfl,rfl,trivial⟩) ?_
   refine DTK.ap rfl rfl (by simp;omega) ⟨rfl,trivial⟩ (fun _=>⟨rfl,rfl,trivial⟩) ?_
   refine DTK.st rfl zqk rfl ?_
   refine DTK.st rfl zqk rfl ?_
   refine DTK.ap rfl rfl (by simp;omega) ⟨rfl,trivial⟩ (fun _=>⟨rfl,rfl,trivial⟩) ?_
   refine yDTK_bs rfl rfl rfl rfl rfl rfl ⟨rfl,trivial⟩ (fun _=>⟨rfl,rfl,trivial⟩) ?_
   refine DTK.sto rfl rfl rfl rfl rfl rfl rfl rfl rfl rfl rfl rfl rfl rfl ⟨rfl,trivial⟩ (fun h=>by cases h) ?_
   refine DTK.nil ?_
   refine W.tr (σ':=⟨[(2,.pt 1 0 0)],[(0,.row 70 3 CS),(1,.box 26 [.sl 0,.sl 2]),(2,.row 3 1 ST)],3⟩) (zqt (fun q=>bif Nat.beq q 0 then 4 else bif Nat.beq q 2 then 5 else q)) ?_
   exact W.ret (finM rfl rfl rfl rfl rfl)
  ·refine WA.dt [true,true,false,false,true,false,false,true,true,true] [0] [0,1] 9 zqk zqk zqk ⟨rfl,trivial⟩ ⟨rfl,rfl,trivial⟩ ?_
   refine DTK.bd rfl rfl rfl ⟨rfl,trivial⟩ (fun _=>⟨rfl,rfl,trivial⟩) ?_
   refine DTK.bd rfl rfl rfl ⟨rfl,trivial⟩ (fun _=>⟨rfl,rfl,trivial⟩) ?_
   refine DTK.st rfl zqk rfl ?_
   refine DTK.st rfl zqk rfl ?_
   refine DTK.ap rfl rfl (by simp;omega) ⟨rfl,trivial⟩ (fun _=>⟨rfl,rfl,trivial⟩) ?_
   refine DTK.st rfl zqk rfl ?_
   refine DTK.st rfl zqk rfl ?_
   refine DTK.ap rfl rfl (by simp;omega) ⟨rfl,trivial⟩ (fun _=>⟨rfl,rfl,trivial⟩) ?_
   refine yDTK_bs rfl rfl rfl rfl rfl rfl ⟨rfl,trivial⟩ (fun _=>⟨rfl,rfl,trivial⟩) ?_
   refine DTK.sto rfl rfl rfl rfl rfl rfl rfl rfl rfl rfl rfl rfl rfl rfl ⟨rfl,trivial⟩ (fun h=>by cases h) ?_
   refine DTK.nil ?_
   refine W.tr (σ':=⟨[(2,.pt 1 0 0)],[(0,.row 70 3 CS),(1,.box 26 [.sl 0,.sl 2]),(2,.row 3 1 ST)],3⟩) (zqt (fun q=>bif Nat.beq q 0 then 4 else bif Nat.beq q 2 then 5 else q)) ?_
   exact W.ret (finM rfl rfl rfl rfl rfl)
theorem yrInsCheck_FS (cs:List (Int×Int×Bool))(st:List Int):Ctr Tryz.prog 69 [.ag (eIns cs st)] (.sc (.int .i64 (insE cs st))) :=
 yOfIns (post:=[]) rfl (fun _=>.sc _) fun w A1 A2 c1 c2 hI=>rInsCheck A1 A2 cs st cs.length st.length c1 c2 w hI rfl rfl
theorem eInt_val(l:List Int):l.map eInt=(l.map fun x=>Value.int .i64 x).map fun u=>[AV.sc u]:=by
 rw [List.map_map];rfl
theorem rCapI_FS (cs:List (Int×Int×Bool)) (st:List Int) (f:Int):Ctr Tryz.prog 74 [.ag [.ls 3 (cs.map eCrs),.ls 1 (st.map eInt)],.sc (.int .i64 f)]
  (.tu [.ag [.ls 3 ((cpCs cs st f).map eCrs),.ls 1 ((cpSt cs st f).map eInt)],.sc (.int .i64 (cpX cs st f))]):=by
 have hI:Ctr Tryz.prog 69 [.ag [.ls 3 (cs.map eCrs),.ls 1 (st.map eInt)]] (.sc (.int .i64 (insE cs st))):=yrInsCheck_FS cs st
 have hEmp:cpX cs st f≠0→cpCs cs st f=[]∧cpSt cs st f=[]:=fun h=>⟨if_neg h,if_neg h⟩
 by_cases hi:insE cs st=0
 rotate_left
 ·have e:cpX cs st f=insE cs st:=if_pos hi
  obtain ⟨e1,e2⟩:=hEmp (by rw [e];exact hi)
  rw [e1,e2,e]
  obtain ⟨E,hE⟩:∃ z,insE cs st=z:=⟨_,rfl⟩
  rw [hE] at hI hi ⊢
  refine zqe Tryz.func74 Tryz.ntmps74 fun w0 F0=>?_;dsimp only [St.init,number,Nat.reduceAdd]
  repeat refine W.go rfl ?_
  refine (?_:WL _ _ _ _ _ _)
  refine WL.vl rfl (zqc Tryz.func69 hI) ?_
  repeat (first|refine W.gob rfl ?_|refine WL.nil ?_|refine WL.nt rfl rfl rfl zqo ?_|refine WL.e1 rfl ?_|refine W.condT rfl ?_)
  refine (?_:W _ _ _ _ _)
  refine W.tr (Tr.nilC 1 0 3 rfl rfl rfl) ?_
  refine W.tr (Tr.nilC 1 1 1 rfl rfl rfl) ?_
  exact W.ret (finN rfl rfl rfl rfl)
 rw [hi] at hI
 obtain ⟨l1,l2,l3,l4,l5⟩:=insE_len hi
 have hSl:(st.map eInt).length=st.length:=List.length_map _
 have hcl:=insCopyOO_FS cs st zqo zqo
 by_cases hr:f < 0∨(st.length:Int) < f
 ·have e:cpX cs st f=13:=by unfold cpX;rw [if_neg (fun h=>h hi),if_pos hr]
  obtain ⟨e1,e2⟩:=hEmp (by rw [e];decide)
  rw [e1,e2,e]
  have hr2:f < 0∨(¬ f < 0∧(st.length:Int) < f):=by omega
  rcases hr2 with hr2|hr2
  all_goals
   refine zqe Tryz.func74 Tryz.ntmps74 fun w0 F0=>?_;dsimp only [St.init,number,Nat.reduceAdd]
   repeat refine W.go rfl ?_
   refine (?_:WL _ _ _ _ _ _)
   refine WL.vl rfl (zqc Tryz.func69 hI) ?_
   repeat (first|refine W.gob rfl ?_|refine WL.nil ?_|refine WL.bt rfl rfl rfl zqo ?_|refine WL.bf rfl rfl rfl zqo ?_|refine WL.nf rfl rfl rfl zqo ?_|refine WL.e1 rfl ?_|refine WL.gyes rfl rfl rfl rfl ?_|refine WL.opno rfl rfl rfl rfl rfl rfl rfl ?_|refine WL.len rfl rfl zql ?_|refine W.condT rfl ?_|refine W.condF rfl ?_)
   refine (?_:W _ _ _ _ _)
   refine W.tr (Tr.nilC 1 0 3 rfl rfl rfl) ?_
   refine W.tr (Tr.nilC 1 1 1 rfl rfl rfl) ?_
   exact W.ret (finN rfl rfl rfl rfl)
 by_cases hz:f=0
 ·have e:cpX cs st f=0:=by unfold cpX;rw [if_neg (fun h=>h hi),if_neg hr,if_pos hz]
  have e1:cpCs cs st f=cs:=(if_pos e).trans (if_pos hz)
  have e2:cpSt cs st f=st:=(if_pos e).trans (if_pos hz)
  rw [e1,e2,e]
  refine zqe Tryz.func74 Tryz.ntmps74 fun w0 F0=>?_;dsimp only [St.init,number,Nat.reduceAdd]
  repeat refine W.go rfl ?_
  refine (?_:WL _ _ _ _ _ _)
  refine WL.vl rfl (zqc Tryz.func69 hI) ?_
  repeat (first|refine W.gob rfl ?_|refine WL.nil ?_|refine WL.bf rfl rfl rfl zqo ?_|refine WL.nf rfl rfl rfl zqo ?_|refine WL.e1 rfl ?_|refine WL.gyes rfl rfl rfl rfl ?_|refine WL.len rfl rfl zql ?_|refine W.condF rfl ?_)
  refine (?_:WL _ _ _ _ _ _)
  refine WL.cto (truH _) [] rfl rfl (callF Tryz.func35 rfl rfl) hcl rfl rfl rfl trivial rfl rfl rfl rfl ?_
  repeat (first|refine W.gob rfl ?_|refine WL.nil ?_|refine WL.bt rfl rfl rfl zqo ?_|refine WL.e1 rfl ?_|refine W.condT rfl ?_)
  refine (?_:W _ _ _ _ _)
  refine W.tr (Tr.freeze 2 rfl) ?_
  refine W.tr (Tr.freeze 4 rfl) ?_
  exact W.ret (finN rfl rfl rfl rfl)
 have hf1:1≤f∧f≤st.length:=by omega
 obtain ⟨hk0,hstep,hs1,hs2⟩:=cpS_bd hi hf1.1 hf1.2
 have hstA:(st.map eInt)[(f - 1).toNat]?=some [.sc (.int .i64 (cpS st f))]:=by rw [List.getElem?_map,hstep];rfl
 have hcb:=crsE_fr l5
 have hcp:=yCrsE_p l5
 have hXc:cpX cs st f=if cpBad cs f=true then 13 else 0:=by unfold cpX;rw [if_neg (fun h=>h hi),if_neg hr,if_neg hz]
 have hsteps:∀ k (h:k < (st.drop f.toNat).length),1≤(st.drop f.toNat)[k]∧(st.drop f.toNat)[k]≤127:=fun k h=>by
  rw [List.getElem_drop]
  exact stepsBad_bd zqo l4 _ _
 have hcap1:∀ k (hk:k < cs.length),cs[k].2.1≠0→cp1 st f cs[k]=(cs[k].1+cpS st f,cs[k].2.1 - f,cs[k].2.2):=fun k hk h=>if_neg h
 have hCset:=fun k (hk:k < cs.length)=>cp_set (cs:=cs) (st:=st) (f:=f) hk
 have hCsame:=fun k (hk:k < cs.length) h=>cp_same (cs:=cs) (st:=st) (f:=f) (k:=k) hk h
 have hval:=eInt_val st
 obtain ⟨S,hS⟩:∃ z,cpS st f=z:=⟨_,rfl⟩
 rw [hS] at hs1 hs2 hstA hcap1
 obtain ⟨ST,hST⟩:∃ z,st.map eInt=z:=⟨_,rfl⟩
 rw [hST] at hI hcl hstA hSl hval ⊢
 refine zqe Tryz.func74 Tryz.ntmps74 fun w0 F0=>?_;dsimp only [St.init,number,Nat.reduceAdd]
 repeat refine W.go rfl ?_
 refine (?_:WL _ _ _ _ _ _)
 refine WL.vl rfl (zqc Tryz.func69 hI) ?_
 repeat (first|refine W.gob rfl ?_|refine WL.nil ?_|refine WL.bf rfl rfl rfl zqo ?_|refine WL.nf rfl rfl rfl zqo ?_|refine WL.e1 rfl ?_|refine WL.gyes rfl rfl rfl rfl ?_|refine WL.len rfl rfl zql ?_|refine W.condF rfl ?_)
 refine (?_:WL _ _ _ _ _ _)
 refine WL.cto (truH _) [] rfl rfl (callF Tryz.func35 rfl rfl) hcl rfl rfl rfl trivial rfl rfl rfl rfl ?_
 repeat (first|refine W.gob rfl ?_|refine WL.nil ?_|refine WL.bf rfl rfl rfl zqo ?_|refine WL.e1 rfl ?_|refine WL.ar rfl rfl z59i ?_|refine W.condF rfl ?_)
 refine (?_:WL _ _ _ _ _ _)
 refine WL.idx rfl rfl zqo hstA ?_
 repeat (first|refine W.gob rfl ?_|refine WL.nil ?_|refine WL.e1 rfl ?_)
 refine (?_:W _ _ _ _ _)
 refine W.loop (fun k:Nat=>k≤cs.length∧∀ i (hi:i < cs.length),i < k→¬ (cs[i].2.1≠0∧cs[i].2.1 < f)) (fun k=>⟨[(1,.sc (.int .i64 f)),(4,.pt 1 0 0),(7,.pt 5 0 0),(8,.sc (.int .i64 S)),(9,.sc (.int .i64 k))],[(1,.box 26 [.sc (.slice none 0 0),.sc (.slice none 0 0)]),(2,.row 70 3 (((cs.take k).map (cp1 st f)++cs.drop k).map eCrs)),(4,.row 3 1 ST),(5,.box 26 [.sl 2,.sl 4])],6⟩) (fun k=>cs.length - k) 0 ⟨by omega,fun i _ h=>absurd h (Nat.not_lt_zero _)⟩ (zqu (fun q=>q) (by repeat (first|exact trivial|refine ⟨⟨?_,?_,?_⟩,?_⟩|rfl|exact congrArg (fun q=>some (AO.row _ _ q)) (by simp))) rfl) fun k hk=>?_
 obtain ⟨hk,hno⟩:=hk
 have hRl:=cp_len (cs:=cs) (st:=st) (f:=f) hk
 by_cases hlt:k < cs.length
 ·have hrow:=cp_mid (st:=st) (f:=f) hlt
  have hb1:=hcb k hlt
  have hb2:=hcp k hlt
  have hset:=hCset k hlt
  have hsame:=hCsame k hlt
  have hc1:=hcap1 k hlt
  have hbad:=cpBad_at (cs:=cs) (f:=f) hlt
  have hnext:¬ (cs[k].2.1≠0∧cs[k].2.1 < f)→∀ i (hi:i < cs.length),i < k+1→¬ (cs[i].2.1≠0∧cs[i].2.1 < f):=fun h i hi hik=>by
   by_cases e:i=k
   ·subst e;exact h
   ·exact hno i hi zqo
  obtain ⟨L,hL⟩:∃ z,(cs.take k).map (cp1 st f)++cs.drop k=z:=⟨_,rfl⟩
  rw [hL] at hRl hrow hset hsame ⊢
  obtain ⟨X,hX⟩:∃ z,cs[k]=z:=⟨_,rfl⟩
  rw [hX] at hrow hb1 hb2 hset hsame hc1 hbad hnext
  clear hno hcb hcp hcap1 hCset hCsame hsteps
  have hsame:=fun h=>congrArg (List.map eCrs) (hsame h)
  have hset:=congrArg (List.map eCrs) hset
  rw [List.map_set] at hset
  obtain ⟨D,hD⟩:∃ z,L.map eCrs=z:=⟨_,rfl⟩
  rw [hD] at hRl hrow hset hsame ⊢
  by_cases h0:X.2.1=0
  ·have hs2:=hsame h0
   have hn2:=hnext (fun h=>h.1 h0)
   clear hset hc1 hbad hnext hsame
   repeat (first|refine W.gob rfl ?_|refine WL.nil ?_|refine WL.bt rfl rfl rfl zqo ?_|refine WL.e1 rfl ?_|refine WL.len rfl rfl zql ?_|refine WL.ixs rfl rfl zqs ?_|refine W.condT rfl ?_)
   refine (?_:WL _ _ _ _ _ _)
   refine WL.ldr rfl rfl hrow rfl rfl ?_
   repeat (first|refine W.gob rfl ?_|refine WL.nil ?_|refine WL.bt rfl rfl rfl zqo ?_|refine WL.e1 rfl ?_|refine WL.ar rfl rfl z59i ?_|refine W.condT rfl ?_)
   exact ⟨k+1,⟨by omega,hn2⟩,by omega,(zqu (fun q=>q) (by repeat (first|exact trivial|refine ⟨⟨?_,?_,?_⟩,?_⟩|rfl|exact congrArg (fun q=>some (AO.row _ _ q)) hs2)) rfl)⟩
  ·by_cases hlf:X.2.1 < f
   ·have e:cpX cs st f=13:=hXc.trans (if_pos (hbad h0 hlf))
    obtain ⟨e1,e2⟩:=hEmp (by rw [e];decide)
    rw [e1,e2,e]
    clear hset hc1 hbad hnext hsame
    repeat (first|refine W.gob rfl ?_|refine WL.nil ?_|refine WL.bt rfl rfl rfl zqo ?_|refine WL.e1 rfl ?_|refine WL.len rfl rfl zql ?_|refine WL.ixs rfl rfl zqs ?_|refine W.condT rfl ?_)
    refine (?_:WL _ _ _ _ _ _)
    refine WL.ldr rfl rfl hrow rfl rfl ?_
    repeat (first|refine W.gob rfl ?_|refine WL.nil ?_|refine WL.bf rfl rfl rfl zqo ?_|refine WL.e1 rfl ?_|refine WL.ixs rfl rfl zqs ?_|refine W.condF rfl ?_)
    refine (?_:WL _ _ _ _ _ _)
    refine WL.ldr rfl rfl hrow rfl rfl ?_
    repeat (first|refine W.gob rfl ?_|refine WL.nil ?_|refine WL.bt rfl rfl rfl zqo ?_|refine WL.e1 rfl ?_|refine W.condT rfl ?_)
    refine (?_:W _ _ _ _ _)
    refine W.tr (Tr.nilC 1 0 3 rfl rfl rfl) ?_
    refine W.tr (Tr.nilC 1 1 1 rfl rfl rfl) ?_
    exact W.ret (finN rfl rfl rfl rfl)
   ·have hn2:=hnext (fun h=>hlf h.2)
    have hfin:=hset
    rw [hc1 h0] at hfin
    clear hset hc1 hbad hnext hsame
    obtain ⟨D7,hD7⟩:∃ z,D.set k (putL 0 [.sc (.int .i64 (X.1+S))] [.sc (.int .i64 X.1),.sc (.int .i64 X.2.1),.sc (.bool X.2.2)])=z:=⟨_,rfl⟩
    have hkl:k < D.length:=by rw [hRl];exact hlt
    have hrow7:D7[k]?=some [.sc (.int .i64 (X.1+S)),.sc (.int .i64 X.2.1),.sc (.bool X.2.2)]:=by rw [← hD7];exact List.getElem?_set_self hkl
    have hD7l:D7.length=cs.length:=by rw [← hD7,List.length_set];exact hRl
    have hfin7:D7.set k (putL 1 [.sc (.int .i64 (X.2.1 - f))] [.sc (.int .i64 (X.1+S)),.sc (.int .i64 X.2.1),.sc (.bool X.2.2)])=((cs.take (k+1)).map (cp1 st f)++cs.drop (k+1)).map eCrs:=by
     rw [← hD7,List.set_set];exact hfin
    clear hfin
    repeat (first|refine W.gob rfl ?_|refine WL.nil ?_|refine WL.bt rfl rfl rfl zqo ?_|refine WL.e1 rfl ?_|refine WL.len rfl rfl zql ?_|refine WL.ixs rfl rfl zqs ?_|refine W.condT rfl ?_)
    refine (?_:WL _ _ _ _ _ _)
    refine WL.ldr rfl rfl hrow rfl rfl ?_
    repeat (first|refine W.gob rfl ?_|refine WL.nil ?_|refine WL.bf rfl rfl rfl zqo ?_|refine WL.e1 rfl ?_|refine WL.ixs rfl rfl zqs ?_|refine W.condF rfl ?_)
    refine (?_:WL _ _ _ _ _ _)
    refine WL.ldr rfl rfl hrow rfl rfl ?_
    repeat (first|refine W.gob rfl ?_|refine WL.nil ?_|refine WL.bf rfl rfl rfl zqo ?_|refine WL.e1 rfl ?_|refine W.condF rfl ?_)
    refine (?_:W _ _ _ _ _)
    refine W.of_wa zqk ?_
    refine WA.dt [false,false,false,false,false,false,false,false,false,false,false,false,false,true] [1,4,5] [1,4,5,2] 13 zqk zqk zqk ⟨rfl,rfl,rfl,trivial⟩ ⟨rfl,rfl,rfl,rfl,trivial⟩ ?_
    refine DTK.st rfl zqk rfl ?_
    refine DTK.st rfl zqk rfl ?_
    refine DTK.st rfl zqk rfl ?_
    refine DTK.st rfl zqk rfl ?_
    refine DTK.st rfl zqk rfl ?_
    refine DTK.st rfl zqk rfl ?_
    refine DTK.ixs rfl zqk rfl ⟨by omega,by omega⟩ ?_
    refine DTK.st rfl zqk rfl ?_
    refine DTK.ldr rfl zqk rfl hrow rfl rfl ?_
    refine DTK.st rfl zqk rfl ?_
    refine DTK.ar rfl zqk rfl z59i ?_
    refine DTK.ixs rfl zqk rfl ⟨by omega,by omega⟩ ?_
    refine DTK.st rfl zqk rfl ?_
    refine DTK.sto rfl rfl rfl rfl rfl rfl rfl rfl rfl rfl rfl rfl (put_row hrow (by show 0+1≤3;omega) rfl) rfl ⟨rfl,rfl,rfl,trivial⟩ (fun h=>by cases h) ?_
    refine DTK.nil ?_
    refine W.tr (σ':=⟨[(1,.sc (.int .i64 f)),(4,.pt 1 0 0),(7,.pt 5 0 0),(8,.sc (.int .i64 S)),(9,.sc (.int .i64 k))],[(1,.box 26 [.sc (.slice none 0 0),.sc (.slice none 0 0)]),(2,.row 70 3 D7),(4,.row 3 1 ST),(5,.box 26 [.sl 2,.sl 4])],6⟩) (zqu (fun q=>q) (by repeat (first|exact trivial|refine ⟨⟨?_,?_,?_⟩,?_⟩|rfl|exact congrArg (fun q=>some (AO.row _ _ q)) hD7)) rfl) ?_
    clear hD7 hrow
    refine (?_:W _ _ _ _ _)
    refine W.of_wa zqk ?_
    refine WA.dt [false,false,false,false,false,false,false,false,false,false,false,false,false,true] [1,4,5] [1,4,5,2] 13 zqk zqk zqk ⟨rfl,rfl,rfl,trivial⟩ ⟨rfl,rfl,rfl,rfl,trivial⟩ ?_
    refine DTK.st rfl zqk rfl ?_
    refine DTK.st rfl zqk rfl ?_
    refine DTK.st rfl zqk rfl ?_
    refine DTK.st rfl zqk rfl ?_
    refine DTK.st rfl zqk rfl ?_
    refine DTK.st rfl zqk rfl ?_
    refine DTK.ixs rfl zqk rfl ⟨by omega,by omega⟩ ?_
    refine DTK.st rfl zqk rfl ?_
    refine DTK.ldr rfl zqk rfl hrow7 rfl rfl ?_
    refine DTK.st rfl zqk rfl ?_
    refine DTK.ar rfl zqk rfl z59i ?_
    refine DTK.ixs rfl zqk rfl ⟨by omega,by omega⟩ ?_
    refine DTK.st rfl zqk rfl ?_
    refine DTK.sto rfl rfl rfl rfl rfl rfl rfl rfl rfl rfl rfl rfl (put_row hrow7 (by show 1+1≤3;omega) rfl) rfl ⟨rfl,rfl,rfl,trivial⟩ (fun h=>by cases h) ?_
    refine DTK.nil ?_
    repeat (first|refine W.gob rfl ?_|refine WL.nil ?_|refine WL.e1 rfl ?_|refine WL.ar rfl rfl z59i ?_)
    exact ⟨k+1,⟨by omega,hn2⟩,by omega,(zqu (fun q=>q) (by repeat (first|exact trivial|refine ⟨⟨?_,?_,?_⟩,?_⟩|rfl|exact congrArg (fun q=>some (AO.row _ _ q)) hfin7)) rfl)⟩
 obtain rfl:k=cs.length:=by omega
 have hb0:cpBad cs f=false:=cpBad_no fun i hi=>hno i hi hi
 have e:cpX cs st f=0:=hXc.trans (if_neg (by rw [hb0];simp))
 have e1:cpCs cs st f=cs.map (cp1 st f):=(if_pos e).trans (if_neg hz)
 have e2:cpSt cs st f=(st.drop f.toNat).map fun x=>x - S:=by rw [← hS];exact (if_pos e).trans (if_neg hz)
 rw [e1,e2,e,List.take_length,List.drop_length,List.append_nil]
 rw [List.take_length,List.drop_length,List.append_nil] at hRl
 obtain ⟨D,hD⟩:∃ z,(cs.map (cp1 st f)).map eCrs=z:=⟨_,rfl⟩
 rw [hD] at hRl ⊢
 have hdl2:(st.drop f.toNat).length≤18:=by rw [List.length_drop];omega
 have hdv:(st.map fun x=>Value.int .i64 x).drop f.toNat=(st.drop f.toNat).map fun x=>Value.int .i64 x:=by rw [List.map_drop]
 clear hno hcb hcp hcap1 hCset hCsame e1 e2 hXc
 repeat (first|refine W.gob rfl ?_|refine WL.nil ?_|refine WL.bf rfl rfl rfl zqo ?_|refine WL.e1 rfl ?_|refine WL.len rfl rfl zql ?_|refine W.condF rfl ?_)
 refine (?_:WL _ _ _ _ _ _)
 refine WL.suf (f:=f.toNat) rfl rfl rfl hval ⟨by omega,by omega⟩ zqo rfl hdv ?_
 obtain ⟨DL,hDL⟩:∃ z,st.drop f.toNat=z:=⟨_,rfl⟩
 rw [hDL] at hdl2 hsteps ⊢
 repeat (first|refine W.gob rfl ?_|refine WL.nil ?_|refine WL.e1 rfl ?_)
 refine (?_:W _ _ _ _ _)
 have hL0:(DL.map fun x=>Value.int .i64 x)=(((DL.take 0).map fun x=>x - S)++DL.drop 0).map fun x=>Value.int .i64 x:=by simp
 rw [hL0]
 have hLl:∀ j,j≤DL.length→((((DL.take j).map fun x=>x - S)++DL.drop j).map fun x=>Value.int .i64 x).length=DL.length:=fun j hj=>by
  rw [List.length_map,List.length_append,List.length_map,List.length_take,List.length_drop];omega
 have hLg:∀ j (hj:j < DL.length),((((DL.take j).map fun x=>x - S)++DL.drop j).map fun x=>Value.int .i64 x)[j]?=some (Value.int .i64 DL[j]):=fun j hj=>by
  have hl:((DL.take j).map fun x=>x - S).length=j:=by rw [List.length_map,List.length_take];omega
  rw [List.getElem?_map,List.getElem?_append_right (by omega),hl,Nat.sub_self,List.getElem?_drop,Nat.add_zero,List.getElem?_eq_getElem hj];rfl
 have hLs:∀ j (hj:j < DL.length),((((DL.take j).map fun x=>x - S)++DL.drop j).map fun x=>Value.int .i64 x).set j (Value.int .i64 (DL[j] - S))=(((DL.take (j+1)).map fun x=>x - S)++DL.drop (j+1)).map fun x=>Value.int .i64 x:=fun j hj=>by
  have hl:((DL.take j).map fun x=>x - S).length=j:=by rw [List.length_map,List.length_take];omega
  rw [← List.map_set (f:=fun x=>Value.int .i64 x) (a:=DL[j] - S)]
  congr 1
  rw [List.set_append_right _ _ (by omega),hl,Nat.sub_self,List.drop_eq_getElem_cons hj,List.set_cons_zero,List.take_succ_eq_append_getElem hj,List.map_append,List.append_assoc];rfl
 refine W.loop (fun j:Nat=>j≤DL.length) (fun j=>⟨[(1,.sc (.int .i64 f)),(4,.pt 1 0 0),(7,.pt 5 0 0),(8,.sc (.int .i64 S)),(10,.sc (.int .i64 j))],[(1,.box 26 [.sc (.slice none 0 0),.sc (.slice none 0 0)]),(2,.row 70 3 D),(5,.box 26 [.sl 2,.sl 6]),(6,.opq (sufQ 3 f.toNat ((((DL.take j).map fun x=>x - S)++DL.drop j).map fun x=>Value.int .i64 x)))],7⟩) (fun j=>DL.length - j) 0 zqo (zqt id) fun j hj=>?_
 have hXl:=hLl j hj
 by_cases hjl:j < DL.length
 ·have hXg:=hLg j hjl
  have hXs:=hLs j hjl
  have hsj:=hsteps j hjl
  obtain ⟨XS,hXS⟩:∃ z,(((DL.take j).map fun x=>x - S)++DL.drop j).map (fun x=>Value.int .i64 x)=z:=⟨_,rfl⟩
  rw [hXS] at hXl hXg hXs ⊢
  clear hLl hLg hLs hXS hL0
  repeat refine W.go rfl ?_
  refine (?_:WL _ _ _ _ _ _)
  refine WL.vl rfl (WV.sufLen rfl rfl rfl rfl) ?_
  repeat (first|refine W.gob rfl ?_|refine WL.nil ?_|refine WL.bt rfl rfl rfl zqo ?_|refine W.condT rfl ?_)
  refine (?_:W _ _ _ _ _)
  refine W.of_wa zqk ?_
  refine WA.dt [false,false,false,false,false,false,false,false,false,false,false,true] [1,2,5] [1,2,5,6] 11 zqk zqk zqk ⟨rfl,rfl,rfl,trivial⟩ ⟨rfl,rfl,rfl,rfl,trivial⟩ ?_
  refine DTK.st rfl zqk rfl ?_
  refine DTK.st rfl zqk rfl ?_
  refine DTK.st rfl zqk rfl ?_
  refine DTK.st rfl zqk rfl ?_
  refine DTK.st rfl zqk rfl ?_
  refine DTK.st rfl zqk rfl ?_
  refine DTK.vl rfl zqk (WV.sufIdx rfl rfl rfl rfl rfl rfl ⟨by omega,by omega⟩ rfl) ?_
  refine DTK.vl rfl zqk (WV.sufLd rfl rfl rfl rfl (by rw [Int.toNat_natCast]) hXg) ?_
  refine DTK.st rfl zqk rfl ?_
  refine DTK.ar rfl zqk rfl z59i ?_
  refine DTK.vl rfl zqk (WV.sufIdx rfl rfl rfl rfl rfl rfl ⟨by omega,by omega⟩ rfl) ?_
  refine DTK.sufSt rfl rfl rfl rfl rfl rfl rfl (by rw [Int.toNat_natCast]) (by omega) rfl rfl hXs rfl ⟨rfl,rfl,rfl,trivial⟩ (fun h=>by cases h) ?_
  refine DTK.nil ?_
  repeat (first|refine W.go rfl ?_|refine WL.ev rfl ?_|refine WL.ar rfl rfl z59i ?_)
  exact ⟨j+1,by omega,by omega,(zqt id)⟩
 ·obtain rfl:j=DL.length:=by omega
  rw [List.take_length,List.drop_length,List.append_nil] at hXl ⊢
  have hout:=eInt_val (DL.map fun x=>x - S)
  obtain ⟨XS,hXS⟩:∃ z,(DL.map fun x=>x - S).map (fun x=>Value.int .i64 x)=z:=⟨_,rfl⟩
  rw [hXS] at hXl hout ⊢
  clear hLl hLg hLs hXS hL0
  repeat refine W.go rfl ?_
  refine (?_:WL _ _ _ _ _ _)
  refine WL.vl rfl (WV.sufLen rfl rfl rfl rfl) ?_
  repeat (first|refine W.gob rfl ?_|refine WL.nil ?_|refine WL.bf rfl rfl rfl zqo ?_|refine WL.e1 rfl ?_|refine W.condF rfl ?_)
  refine (?_:W _ _ _ _ _)
  refine W.tr (Tr.freezeS 6 rfl hout.symm) ?_
  refine W.tr (Tr.freeze 2 rfl) ?_
  exact W.ret (finN rfl rfl rfl rfl)
end Go.Proofs.YtaeelcfjkhfpkaaGreat
