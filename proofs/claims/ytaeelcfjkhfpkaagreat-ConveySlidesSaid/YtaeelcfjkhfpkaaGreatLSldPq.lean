/- ConveySlides: the walk. -/
import Derived.Test.YtaeelcfjkhfpkaaGreatU8ubPq
import Derived.Test.YtaeelcfjkhfpkaaGreatW04Pq
set_option maxHeartbeats 8000000
set_option maxRecDepth 100000
set_option linter.unusedVariables false
set_option linter.unusedSimpArgs false
namespace Go.Proofs.YtaeelcfjkhfpkaaGreat
section
open Go.RowKit
theorem z15i {z:Int} (h:I64 z:=by unfold I64;omega):I64 z:=h
theorem rSlide_FS (p:Pce) (hO:PcOk p) (b:Int):Ctr Tryz.prog 38 [ePce p,.sc (.int .i64 b)] (.tu [ePce (slP p b),.sc (.int .i64 (slX p b))]):=by
 have hC:=rCheck_FS p hO
 have hno:∀ e:Int,e≠0→slX p b=e→slP p b=noP:=fun e h1 h2=>if_neg (by rw [h2];exact h1)
 have hPe:ePce p=.ag [.ls 3 (p.cs.map eCrs),.ls 1 (p.st.map eInt),.ls 6 (p.evs.map eEv)]:=rfl
 have hNo:ePce noP=.ag [.ls 3 [],.ls 1 [],.ls 6 []]:=rfl
 by_cases h0:pceE p=0
 rotate_left
 ·have e:slX p b=pceE p:=if_pos h0
  rw [hno _ h0 e,e,hNo]
  obtain ⟨E,hE⟩:∃ z,pceE p=z:=⟨_,rfl⟩
  rw [hE] at hC h0 ⊢
  rw [hPe] at hC ⊢
  refine zqe Tryz.func38 Tryz.ntmps38 fun w0 F0=>?_;dsimp only [St.init,number,Nat.reduceAdd]
  repeat (first|refine WL.vl rfl (WV.nch rfl rfl) ?_|refine W.gob rfl ?_|refine WL.nil ?_|refine WL.bt rfl rfl rfl zqo ?_|refine WL.bf rfl rfl rfl zqo ?_|refine WL.nt rfl rfl rfl zqo ?_|refine WL.nf rfl rfl rfl zqo ?_|refine WL.e1 rfl ?_|refine WL.gyes rfl rfl rfl rfl ?_|refine WL.opno rfl rfl rfl rfl rfl rfl rfl ?_|refine WL.ar rfl rfl z15i ?_|refine WL.len rfl rfl rfl ?_|refine WL.ixs rfl rfl zqs ?_|refine W.condT rfl ?_|refine W.condF rfl ?_)
  (first|refine (?_:W _ _ _ _ _)|refine (?_:WL _ _ _ _ _ _)|skip)
  try dsimp only [St.put,Nat.reduceAdd]
  refine WL.vl rfl (zqc Tryz.func20 hC) ?_
  repeat (first|refine WL.vl rfl (WV.nch rfl rfl) ?_|refine W.gob rfl ?_|refine WL.nil ?_|refine WL.bt rfl rfl rfl zqo ?_|refine WL.bf rfl rfl rfl zqo ?_|refine WL.nt rfl rfl rfl zqo ?_|refine WL.nf rfl rfl rfl zqo ?_|refine WL.e1 rfl ?_|refine WL.gyes rfl rfl rfl rfl ?_|refine WL.opno rfl rfl rfl rfl rfl rfl rfl ?_|refine WL.ar rfl rfl z15i ?_|refine WL.len rfl rfl rfl ?_|refine WL.ixs rfl rfl zqs ?_|refine W.condT rfl ?_|refine W.condF rfl ?_)
  (first|refine (?_:W _ _ _ _ _)|refine (?_:WL _ _ _ _ _ _)|skip)
  try dsimp only [St.put,Nat.reduceAdd]
  refine W.tr (Tr.nilC 1 0 3 rfl rfl rfl) ?_
  refine W.tr (Tr.nilC 1 1 1 rfl rfl rfl) ?_
  refine W.tr (Tr.nilC 1 2 6 rfl rfl rfl) ?_
  exact W.ret (finN rfl rfl rfl rfl)
 rw [h0] at hC
 by_cases hb:b < -18∨18 < b
 ·have e:slX p b=1:=by unfold slX;rw [if_neg (fun h=>h h0),if_pos hb]
  rw [hno _ (by decide) e,e,hNo]
  rw [hPe] at hC ⊢
  have hb2:b < -18∨(¬ b < -18∧18 < b):=by omega
  rcases hb2 with hb2|hb2
  all_goals
   refine zqe Tryz.func38 Tryz.ntmps38 fun w0 F0=>?_;dsimp only [St.init,number,Nat.reduceAdd]
   repeat (first|refine WL.vl rfl (WV.nch rfl rfl) ?_|refine W.gob rfl ?_|refine WL.nil ?_|refine WL.bt rfl rfl rfl zqo ?_|refine WL.bf rfl rfl rfl zqo ?_|refine WL.nt rfl rfl rfl zqo ?_|refine WL.nf rfl rfl rfl zqo ?_|refine WL.e1 rfl ?_|refine WL.gyes rfl rfl rfl rfl ?_|refine WL.opno rfl rfl rfl rfl rfl rfl rfl ?_|refine WL.ar rfl rfl z15i ?_|refine WL.len rfl rfl rfl ?_|refine WL.ixs rfl rfl zqs ?_|refine W.condT rfl ?_|refine W.condF rfl ?_)
   (first|refine (?_:W _ _ _ _ _)|refine (?_:WL _ _ _ _ _ _)|skip)
   try dsimp only [St.put,Nat.reduceAdd]
   refine WL.vl rfl (zqc Tryz.func20 hC) ?_
   repeat (first|refine WL.vl rfl (WV.nch rfl rfl) ?_|refine W.gob rfl ?_|refine WL.nil ?_|refine WL.bt rfl rfl rfl zqo ?_|refine WL.bf rfl rfl rfl zqo ?_|refine WL.nt rfl rfl rfl zqo ?_|refine WL.nf rfl rfl rfl zqo ?_|refine WL.e1 rfl ?_|refine WL.gyes rfl rfl rfl rfl ?_|refine WL.opno rfl rfl rfl rfl rfl rfl rfl ?_|refine WL.ar rfl rfl z15i ?_|refine WL.len rfl rfl rfl ?_|refine WL.ixs rfl rfl zqs ?_|refine W.condT rfl ?_|refine W.condF rfl ?_)
   (first|refine (?_:W _ _ _ _ _)|refine (?_:WL _ _ _ _ _ _)|skip)
   try dsimp only [St.put,Nat.reduceAdd]
   refine W.tr (Tr.nilC 1 0 3 rfl rfl rfl) ?_
   refine W.tr (Tr.nilC 1 1 1 rfl rfl rfl) ?_
   refine W.tr (Tr.nilC 1 2 6 rfl rfl rfl) ?_
   exact W.ret (finN rfl rfl rfl rfl)
 have hn3:=hO.n3
 have hCp:=uCopyOO p hO
 have hX:slX p b=if slAny p.cs b p.evs=true then 13 else 0:=by unfold slX;rw [if_neg (fun h=>h h0),if_neg hb]
 have hbad:∀ i (hi:i < p.evs.length) k (hk:k < p.evs[i].stops.length),slBad p.cs b p.evs[i].stops[k]=true→slX p b=13∧slP p b=noP:=fun i hi k hk h=>by
  have e:slX p b=13:=by rw [hX,if_pos (sl_at hi hk h)]
  exact ⟨e,hno _ (by decide) e⟩
 have hgood:(∀ i (hi:i < p.evs.length) k (hk:k < p.evs[i].stops.length),slBad p.cs b p.evs[i].stops[k]=false)→slX p b=0∧slP p b=⟨p.cs,p.st,p.evs.map (gmE (slF p.cs b))⟩:=fun h=>by
  have e:slX p b=0:=by rw [hX,if_neg (by rw [sl_no h];simp)]
  exact ⟨e,if_pos e⟩
 have hst:∀ i (hi:i < p.evs.length) k (hk:k < p.evs[i].stops.length),(1≤p.evs[i].stops[k].1∧p.evs[i].stops[k].1≤p.cs.length)∧(0≤p.evs[i].stops[k].2.1∧p.evs[i].stops[k].2.1≤18)∧0≤fretsOf p.cs p.evs[i].stops[k].1:=fun i hi k hk=>by
  have hS:=(evOk_of h0 hi).stops _ (List.getElem_mem hk)
  have:=hS.fret
  exact ⟨hS.crs,⟨hS.fret.1,hS.f18⟩,by omega⟩
 have hcl:=hO.n1
 have hCl:(p.cs.map eCrs).length=p.cs.length:=List.length_map _
 have hCr:=fun (c:Int) (h:1≤c∧c≤p.cs.length)=>fretsOf_row (cs:=p.cs) h
 have h20:∀ i (h:i < p.evs.length),p.evs[i].stops.length≤20:=hO.n4
 have hRl:∀ k,((mpK (gmE (slF p.cs b)) k p.evs).map eEvO).length=p.evs.length:=fun k=>by rw [List.length_map,mpK_len]
 have hat:∀ k (h:k < p.evs.length),((mpK (gmE (slF p.cs b)) k p.evs).map eEvO)[k]?=some [.sc (.bool p.evs[k].bar),.sc (.int .i64 p.evs[k].val),.sc (.bool p.evs[k].dot),.sc (.bool p.evs[k].three),.sc (.bool p.evs[k].tie),.ow 48 5 (p.evs[k].stops.map eStp)]:=fun k h=>by
  rw [List.getElem?_map,mpK_get h];rfl
 have hset:∀ k (h:k < p.evs.length),((mpK (gmE (slF p.cs b)) k p.evs).map eEvO).set k [.sc (.bool p.evs[k].bar),.sc (.int .i64 p.evs[k].val),.sc (.bool p.evs[k].dot),.sc (.bool p.evs[k].three),.sc (.bool p.evs[k].tie),.ow 48 5 ((mpK (slF p.cs b) p.evs[k].stops.length p.evs[k].stops).map eStp)]=(mpK (gmE (slF p.cs b)) (k+1) p.evs).map eEvO:=fun k h=>by
  rw [mpK_all,← mpK_put h,List.map_set];rfl
 have hM0:p.evs.map eEvO=(mpK (gmE (slF p.cs b)) 0 p.evs).map eEvO:=by rw [mpK_0]
 have hMn:(mpK (gmE (slF p.cs b)) p.evs.length p.evs).map eEvO=(p.evs.map (gmE (slF p.cs b))).map eEvO:=by rw [mpK_all]
 have hz1:=eEvO_rows (p.evs.map (gmE (slF p.cs b)))
 have hs1:=List.all_eq_true.2 fun r hr=>List.all_eq_true.2 (eEvO_shal (p.evs.map (gmE (slF p.cs b))) r hr)
 rw [hM0] at hCp
 rw [hPe] at hC hCp ⊢
 obtain ⟨CS,hCS⟩:∃ z,p.cs.map eCrs=z:=⟨_,rfl⟩
 rw [hCS] at hC hCp hCl ⊢
 simp only [hCS] at hCr
 refine zqe Tryz.func38 Tryz.ntmps38 fun w0 F0=>?_;dsimp only [St.init,number,Nat.reduceAdd]
 repeat (first|refine WL.vl rfl (WV.nch rfl rfl) ?_|refine W.gob rfl ?_|refine WL.nil ?_|refine WL.bt rfl rfl rfl zqo ?_|refine WL.bf rfl rfl rfl zqo ?_|refine WL.nt rfl rfl rfl zqo ?_|refine WL.nf rfl rfl rfl zqo ?_|refine WL.e1 rfl ?_|refine WL.gyes rfl rfl rfl rfl ?_|refine WL.opno rfl rfl rfl rfl rfl rfl rfl ?_|refine WL.ar rfl rfl z15i ?_|refine WL.len rfl rfl rfl ?_|refine WL.ixs rfl rfl zqs ?_|refine W.condT rfl ?_|refine W.condF rfl ?_)
 (first|refine (?_:W _ _ _ _ _)|refine (?_:WL _ _ _ _ _ _)|skip)
 try dsimp only [St.put,Nat.reduceAdd]
 refine WL.vl rfl (zqc Tryz.func20 hC) ?_
 repeat (first|refine WL.vl rfl (WV.nch rfl rfl) ?_|refine W.gob rfl ?_|refine WL.nil ?_|refine WL.bt rfl rfl rfl zqo ?_|refine WL.bf rfl rfl rfl zqo ?_|refine WL.nt rfl rfl rfl zqo ?_|refine WL.nf rfl rfl rfl zqo ?_|refine WL.e1 rfl ?_|refine WL.gyes rfl rfl rfl rfl ?_|refine WL.opno rfl rfl rfl rfl rfl rfl rfl ?_|refine WL.ar rfl rfl z15i ?_|refine WL.len rfl rfl rfl ?_|refine WL.ixs rfl rfl zqs ?_|refine W.condT rfl ?_|refine W.condF rfl ?_)
 (first|refine (?_:W _ _ _ _ _)|refine (?_:WL _ _ _ _ _ _)|skip)
 try dsimp only [St.put,Nat.reduceAdd]
 refine WL.cto (truH _) [] rfl rfl (callF Tryz.func15 rfl rfl) hCp rfl rfl rfl trivial rfl rfl rfl rfl ?_
 repeat (first|refine WL.vl rfl (WV.nch rfl rfl) ?_|refine W.gob rfl ?_|refine WL.nil ?_|refine WL.bt rfl rfl rfl zqo ?_|refine WL.bf rfl rfl rfl zqo ?_|refine WL.nt rfl rfl rfl zqo ?_|refine WL.nf rfl rfl rfl zqo ?_|refine WL.e1 rfl ?_|refine WL.gyes rfl rfl rfl rfl ?_|refine WL.opno rfl rfl rfl rfl rfl rfl rfl ?_|refine WL.ar rfl rfl z15i ?_|refine WL.len rfl rfl rfl ?_|refine WL.ixs rfl rfl zqs ?_|refine W.condT rfl ?_|refine W.condF rfl ?_)
 (first|refine (?_:W _ _ _ _ _)|refine (?_:WL _ _ _ _ _ _)|skip)
 try dsimp only [St.put,Nat.reduceAdd]
 refine W.loop (fun i:Nat=>i≤p.evs.length∧∀ j (hj:j < p.evs.length) k (hk:k < p.evs[j].stops.length),j < i→slBad p.cs b p.evs[j].stops[k]=false) (fun i=>⟨[(1,.sc (.int .i64 b)),(4,.pt 1 0 0),(7,.pt 4 0 0),(8,.sc (.int .i64 i))],[(1,.box 29 [.sc (.slice none 0 0),.sc (.slice none 0 0),.sc (.slice none 0 0)]),(2,.rwn 45 6 ((mpK (gmE (slF p.cs b)) i p.evs).map eEvO)),(4,.box 29 [.ls 3 CS,.ls 1 (p.st.map eInt),.sl 2])],5⟩) (fun i=>p.evs.length - i) 0 ⟨by omega,fun j hj k hk h=>absurd h (Nat.not_lt_zero _)⟩ (zqt id) fun i hi=>?_
 obtain ⟨hi,hno⟩:=hi
 have hl2:=hRl i
 by_cases hlt:i < p.evs.length
 ·have h1:=hat i hlt
  have h2:=hset i hlt
  have h3:=hst i hlt
  have h4:=hbad i hlt
  have h20:=h20 i hlt
  have hnx:(∀ k (hk:k < p.evs[i].stops.length),slBad p.cs b p.evs[i].stops[k]=false)→∀ j (hj:j < p.evs.length) k (hk:k < p.evs[j].stops.length),j < i+1→slBad p.cs b p.evs[j].stops[k]=false:=fun h j hj k hk hji=>by
   by_cases e:j=i
   ·subst e;exact h k hk
   ·exact hno j hj k hk zqo
  obtain ⟨R,hR⟩:∃ z,(mpK (gmE (slF p.cs b)) i p.evs).map eEvO=z:=⟨_,rfl⟩
  rw [hR] at h1 h2 hl2 ⊢
  obtain ⟨S,hS⟩:∃ z,p.evs[i].stops=z:=⟨_,rfl⟩
  simp only [hS] at h1 h2 h3 h4 h20 hnx
  clear hat hset hst hM0 hMn hCp hR hRl hbad hgood hz1 hs1 hno
  repeat (first|refine WL.vl rfl (WV.nch rfl rfl) ?_|refine W.gob rfl ?_|refine WL.nil ?_|refine WL.bt rfl rfl rfl zqo ?_|refine WL.bf rfl rfl rfl zqo ?_|refine WL.nt rfl rfl rfl zqo ?_|refine WL.nf rfl rfl rfl zqo ?_|refine WL.e1 rfl ?_|refine WL.gyes rfl rfl rfl rfl ?_|refine WL.opno rfl rfl rfl rfl rfl rfl rfl ?_|refine WL.ar rfl rfl z15i ?_|refine WL.len rfl rfl rfl ?_|refine WL.ixs rfl rfl zqs ?_|refine W.condT rfl ?_|refine W.condF rfl ?_)
  (first|refine (?_:W _ _ _ _ _)|refine (?_:WL _ _ _ _ _ _)|skip)
  try dsimp only [St.put,Nat.reduceAdd]
  refine W.tr (Tr.open_ 2 i 5 rfl h1 rfl (eStp_own S) rfl) ?_
  dsimp only [St.upd,St.new,Nat.reduceAdd]
  have hSl:∀ k,((mpK (slF p.cs b) k S).map eStp).length=S.length:=fun k=>by rw [List.length_map,mpK_len]
  have hS0:S.map eStp=(mpK (slF p.cs b) 0 S).map eStp:=by rw [mpK_0]
  refine W.loop (fun k:Nat=>k≤S.length∧∀ j (hj:j < S.length),j < k→slBad p.cs b S[j]=false) (fun k=>⟨[(1,.sc (.int .i64 b)),(4,.pt 1 0 0),(7,.pt 4 0 0),(8,.sc (.int .i64 i)),(9,.sc (.int .i64 k))],[(1,.box 29 [.sc (.slice none 0 0),.sc (.slice none 0 0),.sc (.slice none 0 0)]),(2,.rwo 45 6 R i 5 (.sl 5)),(4,.box 29 [.ls 3 CS,.ls 1 (p.st.map eInt),.sl 2]),(5,.row 48 5 ((mpK (slF p.cs b) k S).map eStp))],6⟩) (fun k=>S.length - k) 0 ⟨by omega,fun j hj h=>absurd h (Nat.not_lt_zero _)⟩ (zqu (fun q=>q) (by repeat (first|exact trivial|refine ⟨⟨?_,?_,?_⟩,?_⟩|rfl|exact congrArg (fun q=>some (AO.row _ _ q)) hS0|exact congrArg (fun q=>some (AO.rwn _ _ q)) hS0)) rfl) fun k hk=>?_
  obtain ⟨hk,hnk⟩:=hk
  have hl3:=hSl k
  by_cases hkl:k < S.length
  ·have g0:=mpK_get (f:=slF p.cs b) hkl
   have g1:((mpK (slF p.cs b) k S).map eStp)[k]?=some [.sc (.int .i64 S[k].1),.sc (.int .i64 S[k].2.1),.sc (.int .i64 S[k].2.2.1),.sc (.int .i64 S[k].2.2.2.1),.sc (.int .i64 S[k].2.2.2.2)]:=by
    rw [List.getElem?_map,g0];rfl
   have g2:=congrArg (List.map eStp) (mpK_put (f:=slF p.cs b) hkl)
   rw [List.map_set] at g2
   obtain ⟨c1,c2,c3⟩:=h3 k hkl
   have g3:=hCr _ c1
   have g4:slF p.cs b S[k]=if 0 < fretsOf p.cs S[k].1 then hz (S[k].1,S[k].2.1+b,S[k].2.2) else S[k]:=rfl
   have h5:=h4 k hkl
   have h6:slBad p.cs b S[k]=decide (0 < fretsOf p.cs S[k].1∧(S[k].2.1+b < 0∨fretsOf p.cs S[k].1 < S[k].2.1+b)):=rfl
   have hnk2:¬ (0 < fretsOf p.cs S[k].1∧(S[k].2.1+b < 0∨fretsOf p.cs S[k].1 < S[k].2.1+b))→∀ j (hj:j < S.length),j < k+1→slBad p.cs b S[j]=false:=fun h j hj hjk=>by
    by_cases e:j=k
    ·subst e;rw [h6];exact decide_eq_false h
    ·exact hnk j hj zqo
   rw [h6] at h5
   obtain ⟨K,hK⟩:∃ z,(mpK (slF p.cs b) k S).map eStp=z:=⟨_,rfl⟩
   rw [hK] at g1 g2 hl3 ⊢
   obtain ⟨F,hF⟩:∃ z,fretsOf p.cs S[k].1=z:=⟨_,rfl⟩
   rw [hF] at g3 g4 h5 hnk2 c3
   obtain ⟨X,hX⟩:∃ z,S[k]=z:=⟨_,rfl⟩
   rw [hX] at g1 g2 g3 g4 c1 c2 h5 hnk2
   clear g0 hK hF hX h3 hSl hS0 hCr h4 hnk hnx h6
   have hkK:k < K.length:=(List.getElem?_eq_some_iff.1 g1).1
   by_cases hf:0 < F
   rotate_left
   ·rw [if_neg hf] at g4
    rw [g4] at g2
    have g5:K=(mpK (slF p.cs b) (k+1) S).map eStp:=by
     rw [← g2]
     obtain ⟨hl,e⟩:=List.getElem?_eq_some_iff.1 g1
     exact (by rw [show eStp X=K[k] from e.symm,List.set_getElem_self]:K.set k (eStp X)=K).symm
    have hn3:=hnk2 fun h=>hf h.1
    clear g2 g4 hnk2 h5
    repeat (first|refine WL.vl rfl (WV.nch rfl rfl) ?_|refine W.gob rfl ?_|refine WL.nil ?_|refine WL.bt rfl rfl rfl zqo ?_|refine WL.bf rfl rfl rfl zqo ?_|refine WL.nt rfl rfl rfl zqo ?_|refine WL.nf rfl rfl rfl zqo ?_|refine WL.e1 rfl ?_|refine WL.gyes rfl rfl rfl rfl ?_|refine WL.opno rfl rfl rfl rfl rfl rfl rfl ?_|refine WL.ar rfl rfl z15i ?_|refine WL.len rfl rfl rfl ?_|refine WL.ixs rfl rfl zqs ?_|refine W.condT rfl ?_|refine W.condF rfl ?_)
    (first|refine (?_:W _ _ _ _ _)|refine (?_:WL _ _ _ _ _ _)|skip)
    try dsimp only [St.put,Nat.reduceAdd]
    refine WL.ldQ rfl rfl rfl rfl h1 (by show 5 < 6;omega) ?_
    repeat (first|refine WL.vl rfl (WV.nch rfl rfl) ?_|refine W.gob rfl ?_|refine WL.nil ?_|refine WL.bt rfl rfl rfl zqo ?_|refine WL.bf rfl rfl rfl zqo ?_|refine WL.nt rfl rfl rfl zqo ?_|refine WL.nf rfl rfl rfl zqo ?_|refine WL.e1 rfl ?_|refine WL.gyes rfl rfl rfl rfl ?_|refine WL.opno rfl rfl rfl rfl rfl rfl rfl ?_|refine WL.ar rfl rfl z15i ?_|refine WL.len rfl rfl rfl ?_|refine WL.ixs rfl rfl zqs ?_|refine W.condT rfl ?_|refine W.condF rfl ?_)
    (first|refine (?_:W _ _ _ _ _)|refine (?_:WL _ _ _ _ _ _)|skip)
    try dsimp only [St.put,Nat.reduceAdd]
    refine WL.ldQ rfl rfl rfl rfl h1 (by show 5 < 6;omega) ?_
    repeat (first|refine WL.vl rfl (WV.nch rfl rfl) ?_|refine W.gob rfl ?_|refine WL.nil ?_|refine WL.bt rfl rfl rfl zqo ?_|refine WL.bf rfl rfl rfl zqo ?_|refine WL.nt rfl rfl rfl zqo ?_|refine WL.nf rfl rfl rfl zqo ?_|refine WL.e1 rfl ?_|refine WL.gyes rfl rfl rfl rfl ?_|refine WL.opno rfl rfl rfl rfl rfl rfl rfl ?_|refine WL.ar rfl rfl z15i ?_|refine WL.len rfl rfl rfl ?_|refine WL.ixs rfl rfl zqs ?_|refine W.condT rfl ?_|refine W.condF rfl ?_)
    (first|refine (?_:W _ _ _ _ _)|refine (?_:WL _ _ _ _ _ _)|skip)
    try dsimp only [St.put,Nat.reduceAdd]
    refine W.dkT 11 zqk zqk zqk zqk ?_
    repeat (first|refine DK.vl rfl (WV.nch rfl rfl) ?_|refine DK.st rfl ?_|refine DK.ar rfl rfl z15i ?_|refine DK.ldr rfl rfl g1 rfl rfl ?_|refine DK.idx rfl rfl zqo g3 ?_|refine DK.nil ?_)
    refine ⟨rfl,?_⟩
    repeat (first|refine WL.vl rfl (WV.nch rfl rfl) ?_|refine W.gob rfl ?_|refine WL.nil ?_|refine WL.bt rfl rfl rfl zqo ?_|refine WL.bf rfl rfl rfl zqo ?_|refine WL.nt rfl rfl rfl zqo ?_|refine WL.nf rfl rfl rfl zqo ?_|refine WL.e1 rfl ?_|refine WL.gyes rfl rfl rfl rfl ?_|refine WL.opno rfl rfl rfl rfl rfl rfl rfl ?_|refine WL.ar rfl rfl z15i ?_|refine WL.len rfl rfl rfl ?_|refine WL.ixs rfl rfl zqs ?_|refine W.condT rfl ?_|refine W.condF rfl ?_)
    (first|refine (?_:W _ _ _ _ _)|refine (?_:WL _ _ _ _ _ _)|skip)
    try dsimp only [St.put,Nat.reduceAdd]
    exact ⟨k+1,⟨by omega,hn3⟩,by omega,(zqu (fun q=>q) (by repeat (first|exact trivial|refine ⟨⟨?_,?_,?_⟩,?_⟩|rfl|exact congrArg (fun q=>some (AO.row _ _ q)) g5|exact congrArg (fun q=>some (AO.rwn _ _ q)) g5)) rfl)⟩
   rw [if_pos hf] at g4
   have r2:(K.set k (putL 1 [.sc (.int .i64 (X.2.1+b))] [.sc (.int .i64 X.1),.sc (.int .i64 X.2.1),.sc (.int .i64 X.2.2.1),.sc (.int .i64 X.2.2.2.1),.sc (.int .i64 X.2.2.2.2)]))[k]?=some [.sc (.int .i64 X.1),.sc (.int .i64 (X.2.1+b)),.sc (.int .i64 X.2.2.1),.sc (.int .i64 X.2.2.2.1),.sc (.int .i64 X.2.2.2.2)]:=List.getElem?_set_self hkK
   by_cases hbd:X.2.1+b < 0∨F < X.2.1+b
   ·obtain ⟨e1,e2⟩:=h5 (decide_eq_true ⟨hf,hbd⟩)
    rw [e1,e2,hNo]
    have hf2:X.2.1+b < 0∨(¬ X.2.1+b < 0∧F < X.2.1+b):=by omega
    clear hbd hnk2 h5 g2 g4
    rcases hf2 with hf2|hf2
    all_goals
     repeat (first|refine WL.vl rfl (WV.nch rfl rfl) ?_|refine W.gob rfl ?_|refine WL.nil ?_|refine WL.bt rfl rfl rfl zqo ?_|refine WL.bf rfl rfl rfl zqo ?_|refine WL.nt rfl rfl rfl zqo ?_|refine WL.nf rfl rfl rfl zqo ?_|refine WL.e1 rfl ?_|refine WL.gyes rfl rfl rfl rfl ?_|refine WL.opno rfl rfl rfl rfl rfl rfl rfl ?_|refine WL.ar rfl rfl z15i ?_|refine WL.len rfl rfl rfl ?_|refine WL.ixs rfl rfl zqs ?_|refine W.condT rfl ?_|refine W.condF rfl ?_)
     (first|refine (?_:W _ _ _ _ _)|refine (?_:WL _ _ _ _ _ _)|skip)
     try dsimp only [St.put,Nat.reduceAdd]
     refine WL.ldQ rfl rfl rfl rfl h1 (by show 5 < 6;omega) ?_
     repeat (first|refine WL.vl rfl (WV.nch rfl rfl) ?_|refine W.gob rfl ?_|refine WL.nil ?_|refine WL.bt rfl rfl rfl zqo ?_|refine WL.bf rfl rfl rfl zqo ?_|refine WL.nt rfl rfl rfl zqo ?_|refine WL.nf rfl rfl rfl zqo ?_|refine WL.e1 rfl ?_|refine WL.gyes rfl rfl rfl rfl ?_|refine WL.opno rfl rfl rfl rfl rfl rfl rfl ?_|refine WL.ar rfl rfl z15i ?_|refine WL.len rfl rfl rfl ?_|refine WL.ixs rfl rfl zqs ?_|refine W.condT rfl ?_|refine W.condF rfl ?_)
     (first|refine (?_:W _ _ _ _ _)|refine (?_:WL _ _ _ _ _ _)|skip)
     try dsimp only [St.put,Nat.reduceAdd]
     refine WL.ldQ rfl rfl rfl rfl h1 (by show 5 < 6;omega) ?_
     repeat (first|refine WL.vl rfl (WV.nch rfl rfl) ?_|refine W.gob rfl ?_|refine WL.nil ?_|refine WL.bt rfl rfl rfl zqo ?_|refine WL.bf rfl rfl rfl zqo ?_|refine WL.nt rfl rfl rfl zqo ?_|refine WL.nf rfl rfl rfl zqo ?_|refine WL.e1 rfl ?_|refine WL.gyes rfl rfl rfl rfl ?_|refine WL.opno rfl rfl rfl rfl rfl rfl rfl ?_|refine WL.ar rfl rfl z15i ?_|refine WL.len rfl rfl rfl ?_|refine WL.ixs rfl rfl zqs ?_|refine W.condT rfl ?_|refine W.condF rfl ?_)
     (first|refine (?_:W _ _ _ _ _)|refine (?_:WL _ _ _ _ _ _)|skip)
     try dsimp only [St.put,Nat.reduceAdd]
     refine W.dkT 11 zqk zqk zqk zqk ?_
     repeat (first|refine DK.vl rfl (WV.nch rfl rfl) ?_|refine DK.st rfl ?_|refine DK.ar rfl rfl z15i ?_|refine DK.ldr rfl rfl g1 rfl rfl ?_|refine DK.idx rfl rfl zqo g3 ?_|refine DK.nil ?_)
     refine ⟨rfl,?_⟩
     repeat (first|refine WL.vl rfl (WV.nch rfl rfl) ?_|refine W.gob rfl ?_|refine WL.nil ?_|refine WL.bt rfl rfl rfl zqo ?_|refine WL.bf rfl rfl rfl zqo ?_|refine WL.nt rfl rfl rfl zqo ?_|refine WL.nf rfl rfl rfl zqo ?_|refine WL.e1 rfl ?_|refine WL.gyes rfl rfl rfl rfl ?_|refine WL.opno rfl rfl rfl rfl rfl rfl rfl ?_|refine WL.ar rfl rfl z15i ?_|refine WL.len rfl rfl rfl ?_|refine WL.ixs rfl rfl zqs ?_|refine W.condT rfl ?_|refine W.condF rfl ?_)
     (first|refine (?_:W _ _ _ _ _)|refine (?_:WL _ _ _ _ _ _)|skip)
     try dsimp only [St.put,Nat.reduceAdd]
     refine WL.ldr rfl rfl g1 rfl rfl ?_
     repeat (first|refine WL.vl rfl (WV.nch rfl rfl) ?_|refine W.gob rfl ?_|refine WL.nil ?_|refine WL.bt rfl rfl rfl zqo ?_|refine WL.bf rfl rfl rfl zqo ?_|refine WL.nt rfl rfl rfl zqo ?_|refine WL.nf rfl rfl rfl zqo ?_|refine WL.e1 rfl ?_|refine WL.gyes rfl rfl rfl rfl ?_|refine WL.opno rfl rfl rfl rfl rfl rfl rfl ?_|refine WL.ar rfl rfl z15i ?_|refine WL.len rfl rfl rfl ?_|refine WL.ixs rfl rfl zqs ?_|refine W.condT rfl ?_|refine W.condF rfl ?_)
     (first|refine (?_:W _ _ _ _ _)|refine (?_:WL _ _ _ _ _ _)|skip)
     try dsimp only [St.put,Nat.reduceAdd]
     refine WL.sto rfl rfl rfl rfl g1 (by show 1+1≤5;omega) ?_
     repeat (first|refine WL.vl rfl (WV.nch rfl rfl) ?_|refine W.gob rfl ?_|refine WL.nil ?_|refine WL.bt rfl rfl rfl zqo ?_|refine WL.bf rfl rfl rfl zqo ?_|refine WL.nt rfl rfl rfl zqo ?_|refine WL.nf rfl rfl rfl zqo ?_|refine WL.e1 rfl ?_|refine WL.gyes rfl rfl rfl rfl ?_|refine WL.opno rfl rfl rfl rfl rfl rfl rfl ?_|refine WL.ar rfl rfl z15i ?_|refine WL.len rfl rfl rfl ?_|refine WL.ixs rfl rfl zqs ?_|refine W.condT rfl ?_|refine W.condF rfl ?_)
     (first|refine (?_:W _ _ _ _ _)|refine (?_:WL _ _ _ _ _ _)|skip)
     try dsimp only [St.put,Nat.reduceAdd]
     refine WL.ldr rfl rfl r2 rfl rfl ?_
     repeat (first|refine WL.vl rfl (WV.nch rfl rfl) ?_|refine W.gob rfl ?_|refine WL.nil ?_|refine WL.bt rfl rfl rfl zqo ?_|refine WL.bf rfl rfl rfl zqo ?_|refine WL.nt rfl rfl rfl zqo ?_|refine WL.nf rfl rfl rfl zqo ?_|refine WL.e1 rfl ?_|refine WL.gyes rfl rfl rfl rfl ?_|refine WL.opno rfl rfl rfl rfl rfl rfl rfl ?_|refine WL.ar rfl rfl z15i ?_|refine WL.len rfl rfl rfl ?_|refine WL.ixs rfl rfl zqs ?_|refine W.condT rfl ?_|refine W.condF rfl ?_)
     (first|refine (?_:W _ _ _ _ _)|refine (?_:WL _ _ _ _ _ _)|skip)
     try dsimp only [St.put,Nat.reduceAdd]
     first
      |refine WL.ldr rfl rfl r2 rfl rfl ?_
      | skip
     repeat (first|refine WL.vl rfl (WV.nch rfl rfl) ?_|refine W.gob rfl ?_|refine WL.nil ?_|refine WL.bt rfl rfl rfl zqo ?_|refine WL.bf rfl rfl rfl zqo ?_|refine WL.nt rfl rfl rfl zqo ?_|refine WL.nf rfl rfl rfl zqo ?_|refine WL.e1 rfl ?_|refine WL.gyes rfl rfl rfl rfl ?_|refine WL.opno rfl rfl rfl rfl rfl rfl rfl ?_|refine WL.ar rfl rfl z15i ?_|refine WL.len rfl rfl rfl ?_|refine WL.ixs rfl rfl zqs ?_|refine W.condT rfl ?_|refine W.condF rfl ?_)
     (first|refine (?_:W _ _ _ _ _)|refine (?_:WL _ _ _ _ _ _)|skip)
     try dsimp only [St.put,Nat.reduceAdd]
     refine W.tr (Tr.nilC 1 0 3 rfl rfl rfl) ?_
     refine W.tr (Tr.nilC 1 1 1 rfl rfl rfl) ?_
     refine W.tr (Tr.nilC 1 2 6 rfl rfl rfl) ?_
     exact W.ret (finN rfl rfl rfl rfl)
   have hn3:=hnk2 fun h=>hbd h.2
   clear hnk2 h5
   by_cases hz0:X.2.1+b=0
   ·have g6:slF p.cs b X=stH (X.1,X.2.1+b,X.2.2) 0:=g4.trans (if_pos hz0)
    rw [g6] at g2
    have g5:(K.set k (putL 1 [.sc (.int .i64 (X.2.1+b))] [.sc (.int .i64 X.1),.sc (.int .i64 X.2.1),.sc (.int .i64 X.2.2.1),.sc (.int .i64 X.2.2.2.1),.sc (.int .i64 X.2.2.2.2)])).set k (putL 4 [.sc (.int .i64 0)] [.sc (.int .i64 X.1),.sc (.int .i64 (X.2.1+b)),.sc (.int .i64 X.2.2.1),.sc (.int .i64 X.2.2.2.1),.sc (.int .i64 X.2.2.2.2)])=(mpK (slF p.cs b) (k+1) S).map eStp:=by
     rw [List.set_set];exact g2
    clear g2 g4 g6
    repeat (first|refine WL.vl rfl (WV.nch rfl rfl) ?_|refine W.gob rfl ?_|refine WL.nil ?_|refine WL.bt rfl rfl rfl zqo ?_|refine WL.bf rfl rfl rfl zqo ?_|refine WL.nt rfl rfl rfl zqo ?_|refine WL.nf rfl rfl rfl zqo ?_|refine WL.e1 rfl ?_|refine WL.gyes rfl rfl rfl rfl ?_|refine WL.opno rfl rfl rfl rfl rfl rfl rfl ?_|refine WL.ar rfl rfl z15i ?_|refine WL.len rfl rfl rfl ?_|refine WL.ixs rfl rfl zqs ?_|refine W.condT rfl ?_|refine W.condF rfl ?_)
    (first|refine (?_:W _ _ _ _ _)|refine (?_:WL _ _ _ _ _ _)|skip)
    try dsimp only [St.put,Nat.reduceAdd]
    refine WL.ldQ rfl rfl rfl rfl h1 (by show 5 < 6;omega) ?_
    repeat (first|refine WL.vl rfl (WV.nch rfl rfl) ?_|refine W.gob rfl ?_|refine WL.nil ?_|refine WL.bt rfl rfl rfl zqo ?_|refine WL.bf rfl rfl rfl zqo ?_|refine WL.nt rfl rfl rfl zqo ?_|refine WL.nf rfl rfl rfl zqo ?_|refine WL.e1 rfl ?_|refine WL.gyes rfl rfl rfl rfl ?_|refine WL.opno rfl rfl rfl rfl rfl rfl rfl ?_|refine WL.ar rfl rfl z15i ?_|refine WL.len rfl rfl rfl ?_|refine WL.ixs rfl rfl zqs ?_|refine W.condT rfl ?_|refine W.condF rfl ?_)
    (first|refine (?_:W _ _ _ _ _)|refine (?_:WL _ _ _ _ _ _)|skip)
    try dsimp only [St.put,Nat.reduceAdd]
    refine WL.ldQ rfl rfl rfl rfl h1 (by show 5 < 6;omega) ?_
    repeat (first|refine WL.vl rfl (WV.nch rfl rfl) ?_|refine W.gob rfl ?_|refine WL.nil ?_|refine WL.bt rfl rfl rfl zqo ?_|refine WL.bf rfl rfl rfl zqo ?_|refine WL.nt rfl rfl rfl zqo ?_|refine WL.nf rfl rfl rfl zqo ?_|refine WL.e1 rfl ?_|refine WL.gyes rfl rfl rfl rfl ?_|refine WL.opno rfl rfl rfl rfl rfl rfl rfl ?_|refine WL.ar rfl rfl z15i ?_|refine WL.len rfl rfl rfl ?_|refine WL.ixs rfl rfl zqs ?_|refine W.condT rfl ?_|refine W.condF rfl ?_)
    (first|refine (?_:W _ _ _ _ _)|refine (?_:WL _ _ _ _ _ _)|skip)
    try dsimp only [St.put,Nat.reduceAdd]
    refine W.dkT 11 zqk zqk zqk zqk ?_
    repeat (first|refine DK.vl rfl (WV.nch rfl rfl) ?_|refine DK.st rfl ?_|refine DK.ar rfl rfl z15i ?_|refine DK.ldr rfl rfl g1 rfl rfl ?_|refine DK.idx rfl rfl zqo g3 ?_|refine DK.nil ?_)
    refine ⟨rfl,?_⟩
    repeat (first|refine WL.vl rfl (WV.nch rfl rfl) ?_|refine W.gob rfl ?_|refine WL.nil ?_|refine WL.bt rfl rfl rfl zqo ?_|refine WL.bf rfl rfl rfl zqo ?_|refine WL.nt rfl rfl rfl zqo ?_|refine WL.nf rfl rfl rfl zqo ?_|refine WL.e1 rfl ?_|refine WL.gyes rfl rfl rfl rfl ?_|refine WL.opno rfl rfl rfl rfl rfl rfl rfl ?_|refine WL.ar rfl rfl z15i ?_|refine WL.len rfl rfl rfl ?_|refine WL.ixs rfl rfl zqs ?_|refine W.condT rfl ?_|refine W.condF rfl ?_)
    (first|refine (?_:W _ _ _ _ _)|refine (?_:WL _ _ _ _ _ _)|skip)
    try dsimp only [St.put,Nat.reduceAdd]
    refine WL.ldr rfl rfl g1 rfl rfl ?_
    repeat (first|refine WL.vl rfl (WV.nch rfl rfl) ?_|refine W.gob rfl ?_|refine WL.nil ?_|refine WL.bt rfl rfl rfl zqo ?_|refine WL.bf rfl rfl rfl zqo ?_|refine WL.nt rfl rfl rfl zqo ?_|refine WL.nf rfl rfl rfl zqo ?_|refine WL.e1 rfl ?_|refine WL.gyes rfl rfl rfl rfl ?_|refine WL.opno rfl rfl rfl rfl rfl rfl rfl ?_|refine WL.ar rfl rfl z15i ?_|refine WL.len rfl rfl rfl ?_|refine WL.ixs rfl rfl zqs ?_|refine W.condT rfl ?_|refine W.condF rfl ?_)
    (first|refine (?_:W _ _ _ _ _)|refine (?_:WL _ _ _ _ _ _)|skip)
    try dsimp only [St.put,Nat.reduceAdd]
    refine WL.sto rfl rfl rfl rfl g1 (by show 1+1≤5;omega) ?_
    repeat (first|refine WL.vl rfl (WV.nch rfl rfl) ?_|refine W.gob rfl ?_|refine WL.nil ?_|refine WL.bt rfl rfl rfl zqo ?_|refine WL.bf rfl rfl rfl zqo ?_|refine WL.nt rfl rfl rfl zqo ?_|refine WL.nf rfl rfl rfl zqo ?_|refine WL.e1 rfl ?_|refine WL.gyes rfl rfl rfl rfl ?_|refine WL.opno rfl rfl rfl rfl rfl rfl rfl ?_|refine WL.ar rfl rfl z15i ?_|refine WL.len rfl rfl rfl ?_|refine WL.ixs rfl rfl zqs ?_|refine W.condT rfl ?_|refine W.condF rfl ?_)
    (first|refine (?_:W _ _ _ _ _)|refine (?_:WL _ _ _ _ _ _)|skip)
    try dsimp only [St.put,Nat.reduceAdd]
    refine WL.ldr rfl rfl r2 rfl rfl ?_
    repeat (first|refine WL.vl rfl (WV.nch rfl rfl) ?_|refine W.gob rfl ?_|refine WL.nil ?_|refine WL.bt rfl rfl rfl zqo ?_|refine WL.bf rfl rfl rfl zqo ?_|refine WL.nt rfl rfl rfl zqo ?_|refine WL.nf rfl rfl rfl zqo ?_|refine WL.e1 rfl ?_|refine WL.gyes rfl rfl rfl rfl ?_|refine WL.opno rfl rfl rfl rfl rfl rfl rfl ?_|refine WL.ar rfl rfl z15i ?_|refine WL.len rfl rfl rfl ?_|refine WL.ixs rfl rfl zqs ?_|refine W.condT rfl ?_|refine W.condF rfl ?_)
    (first|refine (?_:W _ _ _ _ _)|refine (?_:WL _ _ _ _ _ _)|skip)
    try dsimp only [St.put,Nat.reduceAdd]
    refine WL.ldr rfl rfl r2 rfl rfl ?_
    repeat (first|refine WL.vl rfl (WV.nch rfl rfl) ?_|refine W.gob rfl ?_|refine WL.nil ?_|refine WL.bt rfl rfl rfl zqo ?_|refine WL.bf rfl rfl rfl zqo ?_|refine WL.nt rfl rfl rfl zqo ?_|refine WL.nf rfl rfl rfl zqo ?_|refine WL.e1 rfl ?_|refine WL.gyes rfl rfl rfl rfl ?_|refine WL.opno rfl rfl rfl rfl rfl rfl rfl ?_|refine WL.ar rfl rfl z15i ?_|refine WL.len rfl rfl rfl ?_|refine WL.ixs rfl rfl zqs ?_|refine W.condT rfl ?_|refine W.condF rfl ?_)
    (first|refine (?_:W _ _ _ _ _)|refine (?_:WL _ _ _ _ _ _)|skip)
    try dsimp only [St.put,Nat.reduceAdd]
    refine WL.ldr rfl rfl r2 rfl rfl ?_
    repeat (first|refine WL.vl rfl (WV.nch rfl rfl) ?_|refine W.gob rfl ?_|refine WL.nil ?_|refine WL.bt rfl rfl rfl zqo ?_|refine WL.bf rfl rfl rfl zqo ?_|refine WL.nt rfl rfl rfl zqo ?_|refine WL.nf rfl rfl rfl zqo ?_|refine WL.e1 rfl ?_|refine WL.gyes rfl rfl rfl rfl ?_|refine WL.opno rfl rfl rfl rfl rfl rfl rfl ?_|refine WL.ar rfl rfl z15i ?_|refine WL.len rfl rfl rfl ?_|refine WL.ixs rfl rfl zqs ?_|refine W.condT rfl ?_|refine W.condF rfl ?_)
    (first|refine (?_:W _ _ _ _ _)|refine (?_:WL _ _ _ _ _ _)|skip)
    try dsimp only [St.put,Nat.reduceAdd]
    refine WL.sto rfl rfl rfl rfl r2 (by show 4+1≤5;omega) ?_
    repeat (first|refine WL.vl rfl (WV.nch rfl rfl) ?_|refine W.gob rfl ?_|refine WL.nil ?_|refine WL.bt rfl rfl rfl zqo ?_|refine WL.bf rfl rfl rfl zqo ?_|refine WL.nt rfl rfl rfl zqo ?_|refine WL.nf rfl rfl rfl zqo ?_|refine WL.e1 rfl ?_|refine WL.gyes rfl rfl rfl rfl ?_|refine WL.opno rfl rfl rfl rfl rfl rfl rfl ?_|refine WL.ar rfl rfl z15i ?_|refine WL.len rfl rfl rfl ?_|refine WL.ixs rfl rfl zqs ?_|refine W.condT rfl ?_|refine W.condF rfl ?_)
    (first|refine (?_:W _ _ _ _ _)|refine (?_:WL _ _ _ _ _ _)|skip)
    try dsimp only [St.put,Nat.reduceAdd]
    exact ⟨k+1,⟨by omega,hn3⟩,by omega,(zqu (fun q=>q) (by repeat (first|exact trivial|refine ⟨⟨?_,?_,?_⟩,?_⟩|rfl|exact congrArg (fun q=>some (AO.row _ _ q)) g5|exact congrArg (fun q=>some (AO.rwn _ _ q)) g5)) rfl)⟩
   ·have g6:slF p.cs b X=(X.1,X.2.1+b,X.2.2):=g4.trans (if_neg hz0)
    rw [g6] at g2
    have g5:K.set k (putL 1 [.sc (.int .i64 (X.2.1+b))] [.sc (.int .i64 X.1),.sc (.int .i64 X.2.1),.sc (.int .i64 X.2.2.1),.sc (.int .i64 X.2.2.2.1),.sc (.int .i64 X.2.2.2.2)])=(mpK (slF p.cs b) (k+1) S).map eStp:=g2
    clear g2 g4 g6
    repeat (first|refine WL.vl rfl (WV.nch rfl rfl) ?_|refine W.gob rfl ?_|refine WL.nil ?_|refine WL.bt rfl rfl rfl zqo ?_|refine WL.bf rfl rfl rfl zqo ?_|refine WL.nt rfl rfl rfl zqo ?_|refine WL.nf rfl rfl rfl zqo ?_|refine WL.e1 rfl ?_|refine WL.gyes rfl rfl rfl rfl ?_|refine WL.opno rfl rfl rfl rfl rfl rfl rfl ?_|refine WL.ar rfl rfl z15i ?_|refine WL.len rfl rfl rfl ?_|refine WL.ixs rfl rfl zqs ?_|refine W.condT rfl ?_|refine W.condF rfl ?_)
    (first|refine (?_:W _ _ _ _ _)|refine (?_:WL _ _ _ _ _ _)|skip)
    try dsimp only [St.put,Nat.reduceAdd]
    refine WL.ldQ rfl rfl rfl rfl h1 (by show 5 < 6;omega) ?_
    repeat (first|refine WL.vl rfl (WV.nch rfl rfl) ?_|refine W.gob rfl ?_|refine WL.nil ?_|refine WL.bt rfl rfl rfl zqo ?_|refine WL.bf rfl rfl rfl zqo ?_|refine WL.nt rfl rfl rfl zqo ?_|refine WL.nf rfl rfl rfl zqo ?_|refine WL.e1 rfl ?_|refine WL.gyes rfl rfl rfl rfl ?_|refine WL.opno rfl rfl rfl rfl rfl rfl rfl ?_|refine WL.ar rfl rfl z15i ?_|refine WL.len rfl rfl rfl ?_|refine WL.ixs rfl rfl zqs ?_|refine W.condT rfl ?_|refine W.condF rfl ?_)
    (first|refine (?_:W _ _ _ _ _)|refine (?_:WL _ _ _ _ _ _)|skip)
    try dsimp only [St.put,Nat.reduceAdd]
    refine WL.ldQ rfl rfl rfl rfl h1 (by show 5 < 6;omega) ?_
    repeat (first|refine WL.vl rfl (WV.nch rfl rfl) ?_|refine W.gob rfl ?_|refine WL.nil ?_|refine WL.bt rfl rfl rfl zqo ?_|refine WL.bf rfl rfl rfl zqo ?_|refine WL.nt rfl rfl rfl zqo ?_|refine WL.nf rfl rfl rfl zqo ?_|refine WL.e1 rfl ?_|refine WL.gyes rfl rfl rfl rfl ?_|refine WL.opno rfl rfl rfl rfl rfl rfl rfl ?_|refine WL.ar rfl rfl z15i ?_|refine WL.len rfl rfl rfl ?_|refine WL.ixs rfl rfl zqs ?_|refine W.condT rfl ?_|refine W.condF rfl ?_)
    (first|refine (?_:W _ _ _ _ _)|refine (?_:WL _ _ _ _ _ _)|skip)
    try dsimp only [St.put,Nat.reduceAdd]
    refine W.dkT 11 zqk zqk zqk zqk ?_
    repeat (first|refine DK.vl rfl (WV.nch rfl rfl) ?_|refine DK.st rfl ?_|refine DK.ar rfl rfl z15i ?_|refine DK.ldr rfl rfl g1 rfl rfl ?_|refine DK.idx rfl rfl zqo g3 ?_|refine DK.nil ?_)
    refine ⟨rfl,?_⟩
    repeat (first|refine WL.vl rfl (WV.nch rfl rfl) ?_|refine W.gob rfl ?_|refine WL.nil ?_|refine WL.bt rfl rfl rfl zqo ?_|refine WL.bf rfl rfl rfl zqo ?_|refine WL.nt rfl rfl rfl zqo ?_|refine WL.nf rfl rfl rfl zqo ?_|refine WL.e1 rfl ?_|refine WL.gyes rfl rfl rfl rfl ?_|refine WL.opno rfl rfl rfl rfl rfl rfl rfl ?_|refine WL.ar rfl rfl z15i ?_|refine WL.len rfl rfl rfl ?_|refine WL.ixs rfl rfl zqs ?_|refine W.condT rfl ?_|refine W.condF rfl ?_)
    (first|refine (?_:W _ _ _ _ _)|refine (?_:WL _ _ _ _ _ _)|skip)
    try dsimp only [St.put,Nat.reduceAdd]
    refine WL.ldr rfl rfl g1 rfl rfl ?_
    repeat (first|refine WL.vl rfl (WV.nch rfl rfl) ?_|refine W.gob rfl ?_|refine WL.nil ?_|refine WL.bt rfl rfl rfl zqo ?_|refine WL.bf rfl rfl rfl zqo ?_|refine WL.nt rfl rfl rfl zqo ?_|refine WL.nf rfl rfl rfl zqo ?_|refine WL.e1 rfl ?_|refine WL.gyes rfl rfl rfl rfl ?_|refine WL.opno rfl rfl rfl rfl rfl rfl rfl ?_|refine WL.ar rfl rfl z15i ?_|refine WL.len rfl rfl rfl ?_|refine WL.ixs rfl rfl zqs ?_|refine W.condT rfl ?_|refine W.condF rfl ?_)
    (first|refine (?_:W _ _ _ _ _)|refine (?_:WL _ _ _ _ _ _)|skip)
    try dsimp only [St.put,Nat.reduceAdd]
    refine WL.sto rfl rfl rfl rfl g1 (by show 1+1≤5;omega) ?_
    repeat (first|refine WL.vl rfl (WV.nch rfl rfl) ?_|refine W.gob rfl ?_|refine WL.nil ?_|refine WL.bt rfl rfl rfl zqo ?_|refine WL.bf rfl rfl rfl zqo ?_|refine WL.nt rfl rfl rfl zqo ?_|refine WL.nf rfl rfl rfl zqo ?_|refine WL.e1 rfl ?_|refine WL.gyes rfl rfl rfl rfl ?_|refine WL.opno rfl rfl rfl rfl rfl rfl rfl ?_|refine WL.ar rfl rfl z15i ?_|refine WL.len rfl rfl rfl ?_|refine WL.ixs rfl rfl zqs ?_|refine W.condT rfl ?_|refine W.condF rfl ?_)
    (first|refine (?_:W _ _ _ _ _)|refine (?_:WL _ _ _ _ _ _)|skip)
    try dsimp only [St.put,Nat.reduceAdd]
    refine WL.ldr rfl rfl r2 rfl rfl ?_
    repeat (first|refine WL.vl rfl (WV.nch rfl rfl) ?_|refine W.gob rfl ?_|refine WL.nil ?_|refine WL.bt rfl rfl rfl zqo ?_|refine WL.bf rfl rfl rfl zqo ?_|refine WL.nt rfl rfl rfl zqo ?_|refine WL.nf rfl rfl rfl zqo ?_|refine WL.e1 rfl ?_|refine WL.gyes rfl rfl rfl rfl ?_|refine WL.opno rfl rfl rfl rfl rfl rfl rfl ?_|refine WL.ar rfl rfl z15i ?_|refine WL.len rfl rfl rfl ?_|refine WL.ixs rfl rfl zqs ?_|refine W.condT rfl ?_|refine W.condF rfl ?_)
    (first|refine (?_:W _ _ _ _ _)|refine (?_:WL _ _ _ _ _ _)|skip)
    try dsimp only [St.put,Nat.reduceAdd]
    refine WL.ldr rfl rfl r2 rfl rfl ?_
    repeat (first|refine WL.vl rfl (WV.nch rfl rfl) ?_|refine W.gob rfl ?_|refine WL.nil ?_|refine WL.bt rfl rfl rfl zqo ?_|refine WL.bf rfl rfl rfl zqo ?_|refine WL.nt rfl rfl rfl zqo ?_|refine WL.nf rfl rfl rfl zqo ?_|refine WL.e1 rfl ?_|refine WL.gyes rfl rfl rfl rfl ?_|refine WL.opno rfl rfl rfl rfl rfl rfl rfl ?_|refine WL.ar rfl rfl z15i ?_|refine WL.len rfl rfl rfl ?_|refine WL.ixs rfl rfl zqs ?_|refine W.condT rfl ?_|refine W.condF rfl ?_)
    (first|refine (?_:W _ _ _ _ _)|refine (?_:WL _ _ _ _ _ _)|skip)
    try dsimp only [St.put,Nat.reduceAdd]
    refine WL.ldr rfl rfl r2 rfl rfl ?_
    repeat (first|refine WL.vl rfl (WV.nch rfl rfl) ?_|refine W.gob rfl ?_|refine WL.nil ?_|refine WL.bt rfl rfl rfl zqo ?_|refine WL.bf rfl rfl rfl zqo ?_|refine WL.nt rfl rfl rfl zqo ?_|refine WL.nf rfl rfl rfl zqo ?_|refine WL.e1 rfl ?_|refine WL.gyes rfl rfl rfl rfl ?_|refine WL.opno rfl rfl rfl rfl rfl rfl rfl ?_|refine WL.ar rfl rfl z15i ?_|refine WL.len rfl rfl rfl ?_|refine WL.ixs rfl rfl zqs ?_|refine W.condT rfl ?_|refine W.condF rfl ?_)
    (first|refine (?_:W _ _ _ _ _)|refine (?_:WL _ _ _ _ _ _)|skip)
    try dsimp only [St.put,Nat.reduceAdd]
    exact ⟨k+1,⟨by omega,hn3⟩,by omega,(zqu (fun q=>q) (by repeat (first|exact trivial|refine ⟨⟨?_,?_,?_⟩,?_⟩|rfl|exact congrArg (fun q=>some (AO.row _ _ q)) g5|exact congrArg (fun q=>some (AO.rwn _ _ q)) g5)) rfl)⟩
  ·obtain rfl:k=S.length:=by omega
   have hn2:=hnx fun j hj=>hnk j hj hj
   clear hnx hnk h4 h3
   repeat (first|refine WL.vl rfl (WV.nch rfl rfl) ?_|refine W.gob rfl ?_|refine WL.nil ?_|refine WL.bt rfl rfl rfl zqo ?_|refine WL.bf rfl rfl rfl zqo ?_|refine WL.nt rfl rfl rfl zqo ?_|refine WL.nf rfl rfl rfl zqo ?_|refine WL.e1 rfl ?_|refine WL.gyes rfl rfl rfl rfl ?_|refine WL.opno rfl rfl rfl rfl rfl rfl rfl ?_|refine WL.ar rfl rfl z15i ?_|refine WL.len rfl rfl rfl ?_|refine WL.ixs rfl rfl zqs ?_|refine W.condT rfl ?_|refine W.condF rfl ?_)
   (first|refine (?_:W _ _ _ _ _)|refine (?_:WL _ _ _ _ _ _)|skip)
   try dsimp only [St.put,Nat.reduceAdd]
   refine WL.ldQ rfl rfl rfl rfl h1 (by show 5 < 6;omega) ?_
   repeat (first|refine WL.vl rfl (WV.nch rfl rfl) ?_|refine W.gob rfl ?_|refine WL.nil ?_|refine WL.bt rfl rfl rfl zqo ?_|refine WL.bf rfl rfl rfl zqo ?_|refine WL.nt rfl rfl rfl zqo ?_|refine WL.nf rfl rfl rfl zqo ?_|refine WL.e1 rfl ?_|refine WL.gyes rfl rfl rfl rfl ?_|refine WL.opno rfl rfl rfl rfl rfl rfl rfl ?_|refine WL.ar rfl rfl z15i ?_|refine WL.len rfl rfl rfl ?_|refine WL.ixs rfl rfl zqs ?_|refine W.condT rfl ?_|refine W.condF rfl ?_)
   (first|refine (?_:W _ _ _ _ _)|refine (?_:WL _ _ _ _ _ _)|skip)
   try dsimp only [St.put,Nat.reduceAdd]
   refine ⟨i+1,⟨by omega,hn2⟩,by omega,?_⟩
   refine Tr.trans (Tr.close_ 2 rfl rfl rfl h1 (by show 5 < 6;omega) h2) ?_
   exact (zqt id)
 ·obtain rfl:i=p.evs.length:=by omega
  obtain ⟨e1,e2⟩:=hgood fun j hj k hk=>hno j hj k hk hj
  rw [e1,e2]
  have hRe:ePce ⟨p.cs,p.st,p.evs.map (gmE (slF p.cs b))⟩=.ag [.ls 3 (p.cs.map eCrs),.ls 1 (p.st.map eInt),.ls 6 ((p.evs.map (gmE (slF p.cs b))).map eEv)]:=rfl
  rw [hRe,hCS,hMn]
  rw [hMn] at hl2
  clear hno hbad hgood hat hset hst
  repeat (first|refine WL.vl rfl (WV.nch rfl rfl) ?_|refine W.gob rfl ?_|refine WL.nil ?_|refine WL.bt rfl rfl rfl zqo ?_|refine WL.bf rfl rfl rfl zqo ?_|refine WL.nt rfl rfl rfl zqo ?_|refine WL.nf rfl rfl rfl zqo ?_|refine WL.e1 rfl ?_|refine WL.gyes rfl rfl rfl rfl ?_|refine WL.opno rfl rfl rfl rfl rfl rfl rfl ?_|refine WL.ar rfl rfl z15i ?_|refine WL.len rfl rfl rfl ?_|refine WL.ixs rfl rfl zqs ?_|refine W.condT rfl ?_|refine W.condF rfl ?_)
  (first|refine (?_:W _ _ _ _ _)|refine (?_:WL _ _ _ _ _ _)|skip)
  try dsimp only [St.put,Nat.reduceAdd]
  refine W.tr (Tr.freezeW 2 1 rfl hs1 hz1) ?_
  exact W.ret (finN rfl rfl rfl rfl)
end
section
open Go.RowKit
theorem smallS_FS (p:Pce):Ctr Tryz.prog 13 [ePce p] (.sc (.bool (!longB p))):=by
 refine zqe Tryz.func13 Tryz.ntmps13 fun w0 F0=>?_;dsimp only [St.init,number,Nat.reduceAdd]
 repeat (first|refine W.go rfl ?_|refine WL.ev rfl ?_)
 (first|refine (?_:W _ _ _ _ _)|refine (?_:WL _ _ _ _ _ _)|skip)
 try dsimp only [St.put,Nat.reduceAdd]
 refine WL.vl rfl (WV.call rfl (callF Tryz.func43 rfl rfl) rfl rfl (long_FS p)) ?_
 repeat (first|refine W.go rfl ?_|refine WL.ev rfl ?_)
 (first|refine (?_:W _ _ _ _ _)|refine (?_:WL _ _ _ _ _ _)|skip)
 try dsimp only [St.put,Nat.reduceAdd]
 exact W.ret zqr
theorem noP_ok:PcOk noP:=⟨by decide,by decide,by decide,fun k hk=>by cases hk⟩
theorem slP_ok {p:Pce} {b:Int} (hO:PcOk p):PcOk (slP p b):=by
 unfold slP
 split
 ·exact gm_ok hO hO.n1 hO.n2
 ·exact noP_ok
theorem slides_FS (p:Pce) (b:Int):Ctr Tryz.prog 9 [ePce p,.sc (.int .i64 b)] (.sc (.bool true)):=by
 have hS:=smallS_FS p
 by_cases hl:longB p=true
 ·rw [hl] at hS
  refine zqe Tryz.func9 Tryz.ntmps9 fun w0 F0=>?_;dsimp only [St.init,number,Nat.reduceAdd]
  repeat (first|refine WL.vl rfl (WV.nch rfl rfl) ?_|refine W.gob rfl ?_|refine WL.nil ?_|refine WL.bt rfl rfl rfl zqo ?_|refine WL.e1 rfl ?_|refine WL.gyes rfl rfl rfl rfl ?_|refine W.condT rfl ?_|refine W.condF rfl ?_)
  (first|refine (?_:W _ _ _ _ _)|refine (?_:WL _ _ _ _ _ _)|skip)
  try dsimp only [St.put,Nat.reduceAdd]
  refine WL.vl rfl (zqc Tryz.func13 hS) ?_
  repeat (first|refine WL.vl rfl (WV.nch rfl rfl) ?_|refine W.gob rfl ?_|refine WL.nil ?_|refine WL.bt rfl rfl rfl zqo ?_|refine WL.e1 rfl ?_|refine WL.gyes rfl rfl rfl rfl ?_|refine W.condT rfl ?_|refine W.condF rfl ?_)
  (first|refine (?_:W _ _ _ _ _)|refine (?_:WL _ _ _ _ _ _)|skip)
  try dsimp only [St.put,Nat.reduceAdd]
  refine WL.vl rfl (zqc Tryz.func14 works04_FS) ?_
  repeat (first|refine WL.vl rfl (WV.nch rfl rfl) ?_|refine W.gob rfl ?_|refine WL.nil ?_|refine WL.bt rfl rfl rfl zqo ?_|refine WL.e1 rfl ?_|refine WL.gyes rfl rfl rfl rfl ?_|refine W.condT rfl ?_|refine W.condF rfl ?_)
  (first|refine (?_:W _ _ _ _ _)|refine (?_:WL _ _ _ _ _ _)|skip)
  try dsimp only [St.put,Nat.reduceAdd]
  exact W.ret zqr
 have hl:longB p=false:=by simpa using hl
 have hO:=pcOk_of3 hl
 rw [hl] at hS
 have h1:=pSlide_FS p hO b
 have h2:=rSlide_FS p hO b
 have h3:=same_FS (slP p b) (slP_ok hO)
 have h6:=pcCopy_FS p hO
 obtain ⟨E,hE⟩:∃ z,slX p b=z:=⟨_,rfl⟩
 rw [hE] at h1 h2
 refine zqe Tryz.func9 Tryz.ntmps9 fun w0 F0=>?_;dsimp only [St.init,number,Nat.reduceAdd]
 repeat (first|refine WL.vl rfl (WV.nch rfl rfl) ?_|refine W.gob rfl ?_|refine WL.nil ?_|refine WL.bt rfl rfl rfl zqo ?_|refine WL.e1 rfl ?_|refine WL.gyes rfl rfl rfl rfl ?_|refine W.condT rfl ?_|refine W.condF rfl ?_)
 (first|refine (?_:W _ _ _ _ _)|refine (?_:WL _ _ _ _ _ _)|skip)
 try dsimp only [St.put,Nat.reduceAdd]
 refine WL.vl rfl (zqc Tryz.func13 hS) ?_
 repeat (first|refine WL.vl rfl (WV.nch rfl rfl) ?_|refine W.gob rfl ?_|refine WL.nil ?_|refine WL.bt rfl rfl rfl zqo ?_|refine WL.e1 rfl ?_|refine WL.gyes rfl rfl rfl rfl ?_|refine W.condT rfl ?_|refine W.condF rfl ?_)
 (first|refine (?_:W _ _ _ _ _)|refine (?_:WL _ _ _ _ _ _)|skip)
 try dsimp only [St.put,Nat.reduceAdd]
 refine WL.vl rfl (zqc Tryz.func15 h6) ?_
 repeat (first|refine WL.vl rfl (WV.nch rfl rfl) ?_|refine W.gob rfl ?_|refine WL.nil ?_|refine WL.bt rfl rfl rfl zqo ?_|refine WL.e1 rfl ?_|refine WL.gyes rfl rfl rfl rfl ?_|refine W.condT rfl ?_|refine W.condF rfl ?_)
 (first|refine (?_:W _ _ _ _ _)|refine (?_:WL _ _ _ _ _ _)|skip)
 try dsimp only [St.put,Nat.reduceAdd]
 refine WL.vl rfl (zqc Tryz.func37 h1) ?_
 repeat (first|refine WL.vl rfl (WV.nch rfl rfl) ?_|refine W.gob rfl ?_|refine WL.nil ?_|refine WL.bt rfl rfl rfl zqo ?_|refine WL.e1 rfl ?_|refine WL.gyes rfl rfl rfl rfl ?_|refine W.condT rfl ?_|refine W.condF rfl ?_)
 (first|refine (?_:W _ _ _ _ _)|refine (?_:WL _ _ _ _ _ _)|skip)
 try dsimp only [St.put,Nat.reduceAdd]
 refine WL.vl rfl (zqc Tryz.func38 h2) ?_
 repeat (first|refine WL.vl rfl (WV.nch rfl rfl) ?_|refine W.gob rfl ?_|refine WL.nil ?_|refine WL.bt rfl rfl rfl zqo ?_|refine WL.e1 rfl ?_|refine WL.gyes rfl rfl rfl rfl ?_|refine W.condT rfl ?_|refine W.condF rfl ?_)
 (first|refine (?_:W _ _ _ _ _)|refine (?_:WL _ _ _ _ _ _)|skip)
 try dsimp only [St.put,Nat.reduceAdd]
 refine WL.vl rfl (zqc Tryz.func18 h3) ?_
 repeat (first|refine WL.vl rfl (WV.nch rfl rfl) ?_|refine W.gob rfl ?_|refine WL.nil ?_|refine WL.bt rfl rfl rfl zqo ?_|refine WL.e1 rfl ?_|refine WL.gyes rfl rfl rfl rfl ?_|refine W.condT rfl ?_|refine W.condF rfl ?_)
 (first|refine (?_:W _ _ _ _ _)|refine (?_:WL _ _ _ _ _ _)|skip)
 try dsimp only [St.put,Nat.reduceAdd]
 refine WL.vl rfl (zqc Tryz.func14 works04_FS) ?_
 repeat (first|refine WL.vl rfl (WV.nch rfl rfl) ?_|refine W.gob rfl ?_|refine WL.nil ?_|refine WL.bt rfl rfl rfl zqo ?_|refine WL.e1 rfl ?_|refine WL.gyes rfl rfl rfl rfl ?_|refine W.condT rfl ?_|refine W.condF rfl ?_)
 (first|refine (?_:W _ _ _ _ _)|refine (?_:WL _ _ _ _ _ _)|skip)
 try dsimp only [St.put,Nat.reduceAdd]
 exact W.ret zqr
theorem slides_walk (p:Pce) (v:Value) (b:Int) (w:World) (h:RP (fun q=>w.cell? q) (ePce p) v):Calls Tryz.prog 9 #[v,.int .i64 b] w (Ret (.bool true) w):=by
 refine (slides_FS p b w (fun q=>w.cell? q) [v,.int .i64 b] (fun _ _ h=>h) ⟨rfl,fun i av u a b=>?_⟩).mono fun e w' ⟨u,F',he,hb,_,_,_,hr⟩=>⟨?_,hb⟩
 ·match i with
  | 0=>cases a;cases b;exact h
  | 1=>cases a;cases b;exact .sc _
  | i+2=>simp at a
 ·rw [he,hr.sc_eq]
end
end Go.Proofs.YtaeelcfjkhfpkaaGreat
