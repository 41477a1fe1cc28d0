/- Slide and Release of the program. (RWN.) -/
import Derived.Test.YtaeelcfjkhfpkaaGreatU6Nq
set_option maxHeartbeats 8000000
set_option maxRecDepth 100000
set_option linter.unusedVariables false
set_option linter.unusedSimpArgs false
namespace Go.Proofs.YtaeelcfjkhfpkaaGreat
section
open Go.RowKit
theorem z43i {z:Int} (h:I64 z:=by unfold I64;omega):I64 z:=h
theorem uShift (p:Pce) (hO:PcOk p) (h0:pceE p=0) (cs:List (Int×Int×Bool)) (st:List Int) (hI:insE cs st=0) (hl:cs.length=p.cs.length) (b:Int) (hb:-18≤b∧b≤18) :
  Cto truB 0 Tryz.prog 82 [ePce p,.ag [.ls 3 (cs.map eCrs),.ls 1 (st.map eInt)],.sc (.int .i64 b)] [] 0 (.ag [.ls 3 (cs.map eCrs),.ls 1 (st.map eInt),.sl 0])
   [(0,.rwn 45 6 ((p.evs.map (gmE (shF cs b))).map eEvO)),(1,.box 29 [.ls 3 (cs.map eCrs),.ls 1 (st.map eInt),.sl 0])] 2:=by
 have hA:=uAppend p hO h0
 have hT:=uTrans0 cs st hI
 have hn3:=hO.n3
 have hcl:=hO.n1
 have hCl:(cs.map eCrs).length=cs.length:=List.length_map _
 have hCr:=fun (c:Int) (h:1≤c∧c≤cs.length)=>fretsOf_row (cs:=cs) h
 have hRl:∀ k,((mpK (gmE (shF cs b)) k p.evs).map eEvO).length=p.evs.length:=fun k=>by rw [List.length_map,mpK_len]
 have hat:∀ k (h:k < p.evs.length),((mpK (gmE (shF cs b)) k p.evs).map eEvO)[k]?=some [.sc (.bool p.evs[k].bar),.sc (.int .i64 p.evs[k].val),.sc (.bool p.evs[k].dot),.sc (.bool p.evs[k].three),.sc (.bool p.evs[k].tie),.ow 48 5 (p.evs[k].stops.map eStp)]:=fun k h=>by
  rw [List.getElem?_map,mpK_get h];rfl
 have hset:∀ k (h:k < p.evs.length),((mpK (gmE (shF cs b)) k p.evs).map eEvO).set k [.sc (.bool p.evs[k].bar),.sc (.int .i64 p.evs[k].val),.sc (.bool p.evs[k].dot),.sc (.bool p.evs[k].three),.sc (.bool p.evs[k].tie),.ow 48 5 ((mpK (shF cs b) p.evs[k].stops.length p.evs[k].stops).map eStp)]=(mpK (gmE (shF cs b)) (k+1) p.evs).map eEvO:=fun k h=>by
  rw [mpK_all,← mpK_put h,List.map_set];rfl
 have hst:∀ i (hi:i < p.evs.length) k (hk:k < p.evs[i].stops.length),(1≤p.evs[i].stops[k].1∧p.evs[i].stops[k].1≤cs.length)∧(0≤p.evs[i].stops[k].2.1∧p.evs[i].stops[k].2.1≤18):=fun i hi k hk=>by
  have hS:=(evOk_of h0 hi).stops _ (List.getElem_mem hk)
  have:=hS.crs
  exact ⟨by omega,hS.fret.1,hS.f18⟩
 have hPe:ePce p=.ag [.ls 3 (p.cs.map eCrs),.ls 1 (p.st.map eInt),.ls 6 (p.evs.map eEv)]:=rfl
 rw [hPe] at hA ⊢
 obtain ⟨CS,hCS⟩:∃ z,cs.map eCrs=z:=⟨_,rfl⟩
 rw [hCS] at hT hCl ⊢
 simp only [hCS] at hCr
 have hM0:p.evs.map eEvO=(mpK (gmE (shF cs b)) 0 p.evs).map eEvO:=by rw [mpK_0]
 have hMn:(mpK (gmE (shF cs b)) p.evs.length p.evs).map eEvO=(p.evs.map (gmE (shF cs b))).map eEvO:=by rw [mpK_all]
 rw [hM0] at hA
 refine Cto.intro truS Tryz.func82 rfl Tryz.ntmps82 (Nat.le_of_ble_eq_true rfl) rfl fun w0 F0 fp pg hB=>?_
 dsimp only [number,Nat.reduceAdd]
 repeat (first|refine WL.vl rfl (WV.nch rfl rfl) ?_|refine W.gob rfl ?_|refine WL.nil ?_|refine WL.bt rfl rfl rfl zqo ?_|refine WL.bf rfl rfl rfl zqo ?_|refine WL.e1 rfl ?_|refine WL.ar rfl rfl z43i ?_|refine WL.len rfl rfl rfl ?_|refine WL.ixs rfl rfl zqs ?_|refine W.condT rfl ?_|refine W.condF rfl ?_)
 (first|refine (?_:W _ _ _ _ _)|refine (?_:WL _ _ _ _ _ _)|skip)
 try dsimp only [St.put,Nat.reduceAdd]
 refine WL.tr (Tr.nilA (t:=16) 2 6 rfl rfl rfl rfl) ?_
 refine WL.cto (truH _) [] rfl rfl (callF Tryz.func49 rfl rfl) hA rfl rfl rfl trivial rfl rfl rfl rfl ?_
 repeat (first|refine WL.vl rfl (WV.nch rfl rfl) ?_|refine W.gob rfl ?_|refine WL.nil ?_|refine WL.bt rfl rfl rfl zqo ?_|refine WL.bf rfl rfl rfl zqo ?_|refine WL.e1 rfl ?_|refine WL.ar rfl rfl z43i ?_|refine WL.len rfl rfl rfl ?_|refine WL.ixs rfl rfl zqs ?_|refine W.condT rfl ?_|refine W.condF rfl ?_)
 (first|refine (?_:W _ _ _ _ _)|refine (?_:WL _ _ _ _ _ _)|skip)
 try dsimp only [St.put,Nat.reduceAdd]
 refine WL.vl rfl (zqc Tryz.func122 hT) ?_
 repeat (first|refine WL.vl rfl (WV.nch rfl rfl) ?_|refine W.gob rfl ?_|refine WL.nil ?_|refine WL.bt rfl rfl rfl zqo ?_|refine WL.bf rfl rfl rfl zqo ?_|refine WL.e1 rfl ?_|refine WL.ar rfl rfl z43i ?_|refine WL.len rfl rfl rfl ?_|refine WL.ixs rfl rfl zqs ?_|refine W.condT rfl ?_|refine W.condF rfl ?_)
 (first|refine (?_:W _ _ _ _ _)|refine (?_:WL _ _ _ _ _ _)|skip)
 try dsimp only [St.put,Nat.reduceAdd]
 refine W.loop (fun i:Nat=>i≤p.evs.length) (fun i=>⟨[(2,.sc (.int .i64 b)),(4,.pt 1 0 0),(6,.pt 2 0 0),(7,.pt 4 0 0),(28,.sc (.int .i64 p.evs.length)),(29,.sc (.int .i64 i))],[(1,.box 26 [.ls 3 CS,.ls 1 (st.map eInt)]),(2,.box 29 [.sc (.slice none 0 0),.sc (.slice none 0 0),.sc (.slice none 0 0)]),(3,.rwn 45 6 ((mpK (gmE (shF cs b)) i p.evs).map eEvO)),(4,.box 29 [.ls 3 CS,.ls 1 (st.map eInt),.sl 3])],5⟩) (fun i=>p.evs.length - i) 0 (by omega) (by rw [← hRl 0];exact (zqt (fun q=>bif Nat.beq q 4 then 5 else q))) fun i hi=>?_
 have hl2:=hRl i
 by_cases hlt:i < p.evs.length
 ·have h1:=hat i hlt
  have h2:=hset i hlt
  have h3:=hst i hlt
  have h20:=hO.n4 i hlt
  obtain ⟨R,hR⟩:∃ z,(mpK (gmE (shF cs b)) i p.evs).map eEvO=z:=⟨_,rfl⟩
  rw [hR] at h1 h2 hl2 ⊢
  obtain ⟨S,hS⟩:∃ z,p.evs[i].stops=z:=⟨_,rfl⟩
  rw [hS] at h1 h2 h20
  simp only [hS] at h3
  clear hat hset hst hM0 hMn hA hT hR hRl
  refine W.tr (Tr.open_ 3 i 5 rfl h1 rfl (eStp_own S) rfl) ?_
  dsimp only [St.upd,St.new,Nat.reduceAdd]
  have hSl:∀ k,((mpK (shF cs b) k S).map eStp).length=S.length:=fun k=>by rw [List.length_map,mpK_len]
  have hS0:S.map eStp=(mpK (shF cs b) 0 S).map eStp:=by rw [mpK_0]
  have hSl0:(S.map eStp).length=S.length:=List.length_map _
  repeat (first|refine WL.vl rfl (WV.nch rfl rfl) ?_|refine W.gob rfl ?_|refine WL.nil ?_|refine WL.bt rfl rfl rfl zqo ?_|refine WL.bf rfl rfl rfl zqo ?_|refine WL.e1 rfl ?_|refine WL.ar rfl rfl z43i ?_|refine WL.len rfl rfl rfl ?_|refine WL.ixs rfl rfl zqs ?_|refine W.condT rfl ?_|refine W.condF rfl ?_)
  (first|refine (?_:W _ _ _ _ _)|refine (?_:WL _ _ _ _ _ _)|skip)
  try dsimp only [St.put,Nat.reduceAdd]
  refine WL.ldQ rfl rfl rfl rfl h1 (by show 5 < 6;omega) ?_
  repeat (first|refine WL.vl rfl (WV.nch rfl rfl) ?_|refine W.gob rfl ?_|refine WL.nil ?_|refine WL.bt rfl rfl rfl zqo ?_|refine WL.bf rfl rfl rfl zqo ?_|refine WL.e1 rfl ?_|refine WL.ar rfl rfl z43i ?_|refine WL.len rfl rfl rfl ?_|refine WL.ixs rfl rfl zqs ?_|refine W.condT rfl ?_|refine W.condF rfl ?_)
  (first|refine (?_:W _ _ _ _ _)|refine (?_:WL _ _ _ _ _ _)|skip)
  try dsimp only [St.put,Nat.reduceAdd]
  refine W.loop (fun k:Nat=>k≤S.length) (fun k=>⟨[(2,.sc (.int .i64 b)),(4,.pt 1 0 0),(6,.pt 2 0 0),(7,.pt 4 0 0),(28,.sc (.int .i64 p.evs.length)),(29,.sc (.int .i64 i)),(9,.sc (.int .i64 i)),(38,.sc (.int .i64 S.length)),(39,.sc (.int .i64 k))],[(1,.box 26 [.ls 3 CS,.ls 1 (st.map eInt)]),(2,.box 29 [.sc (.slice none 0 0),.sc (.slice none 0 0),.sc (.slice none 0 0)]),(3,.rwo 45 6 R i 5 (.sl 5)),(4,.box 29 [.ls 3 CS,.ls 1 (st.map eInt),.sl 3]),(5,.row 48 5 ((mpK (shF cs b) k S).map eStp))],6⟩) (fun k=>S.length - k) 0 (by omega) (by rw [← hSl0];exact (zqu (fun q=>q) (by repeat (first|exact trivial|refine ⟨⟨?_,?_,?_⟩,?_⟩|rfl|exact congrArg (fun q=>some (AO.row _ _ q)) hS0|exact congrArg (fun q=>some (AO.rwn _ _ q)) hS0)) rfl)) fun k hk=>?_
  have hl3:=hSl k
  by_cases hkl:k < S.length
  ·have g0:=mpK_get (f:=shF cs b) hkl
   have g1:((mpK (shF cs b) k S).map eStp)[k]?=some [.sc (.int .i64 S[k].1),.sc (.int .i64 S[k].2.1),.sc (.int .i64 S[k].2.2.1),.sc (.int .i64 S[k].2.2.2.1),.sc (.int .i64 S[k].2.2.2.2)]:=by
    rw [List.getElem?_map,g0];rfl
   have g2:=congrArg (List.map eStp) (mpK_put (f:=shF cs b) hkl)
   rw [List.map_set] at g2
   obtain ⟨c1,c2⟩:=h3 k hkl
   have g3:=hCr _ c1
   have g4:shF cs b S[k]=if 0 < fretsOf cs S[k].1 then (S[k].1,S[k].2.1+b,S[k].2.2) else S[k]:=rfl
   obtain ⟨K,hK⟩:∃ z,(mpK (shF cs b) k S).map eStp=z:=⟨_,rfl⟩
   rw [hK] at g1 g2 hl3 ⊢
   obtain ⟨F,hF⟩:∃ z,fretsOf cs S[k].1=z:=⟨_,rfl⟩
   rw [hF] at g3 g4
   obtain ⟨X,hX⟩:∃ z,S[k]=z:=⟨_,rfl⟩
   rw [hX] at g1 g2 g3 g4 c1 c2
   clear g0 hK hF hX h3 hSl hS0 hCr
   by_cases hf:0 < F
   ·rw [if_pos hf] at g4
    rw [g4] at g2
    have g5:K.set k (putL 1 [.sc (.int .i64 (X.2.1+b))] [.sc (.int .i64 X.1),.sc (.int .i64 X.2.1),.sc (.int .i64 X.2.2.1),.sc (.int .i64 X.2.2.2.1),.sc (.int .i64 X.2.2.2.2)])=(mpK (shF cs b) (k+1) S).map eStp:=g2
    clear g2 g4
    repeat (first|refine WL.vl rfl (WV.nch rfl rfl) ?_|refine W.gob rfl ?_|refine WL.nil ?_|refine WL.bt rfl rfl rfl zqo ?_|refine WL.bf rfl rfl rfl zqo ?_|refine WL.e1 rfl ?_|refine WL.ar rfl rfl z43i ?_|refine WL.len rfl rfl rfl ?_|refine WL.ixs rfl rfl zqs ?_|refine W.condT rfl ?_|refine W.condF rfl ?_)
    (first|refine (?_:W _ _ _ _ _)|refine (?_:WL _ _ _ _ _ _)|skip)
    try dsimp only [St.put,Nat.reduceAdd]
    refine WL.ldQ rfl rfl rfl rfl h1 (by show 5 < 6;omega) ?_
    repeat (first|refine WL.vl rfl (WV.nch rfl rfl) ?_|refine W.gob rfl ?_|refine WL.nil ?_|refine WL.bt rfl rfl rfl zqo ?_|refine WL.bf rfl rfl rfl zqo ?_|refine WL.e1 rfl ?_|refine WL.ar rfl rfl z43i ?_|refine WL.len rfl rfl rfl ?_|refine WL.ixs rfl rfl zqs ?_|refine W.condT rfl ?_|refine W.condF rfl ?_)
    (first|refine (?_:W _ _ _ _ _)|refine (?_:WL _ _ _ _ _ _)|skip)
    try dsimp only [St.put,Nat.reduceAdd]
    refine W.drawK zqk zqk ?_
    repeat (first|refine DK.vl rfl (WV.nch rfl rfl) ?_|refine DK.bt rfl rfl zqo ?_|refine DK.bf rfl rfl zqo ?_|refine DK.st rfl ?_|refine DK.ar rfl rfl z43i ?_|refine DK.nil ?_)
    refine DK.ldr rfl rfl g1 rfl rfl ?_
    repeat (first|refine DK.vl rfl (WV.nch rfl rfl) ?_|refine DK.bt rfl rfl zqo ?_|refine DK.bf rfl rfl zqo ?_|refine DK.st rfl ?_|refine DK.ar rfl rfl z43i ?_|refine DK.nil ?_)
    refine DK.idx rfl rfl zqo g3 ?_
    repeat (first|refine DK.vl rfl (WV.nch rfl rfl) ?_|refine DK.bt rfl rfl zqo ?_|refine DK.bf rfl rfl zqo ?_|refine DK.st rfl ?_|refine DK.ar rfl rfl z43i ?_|refine DK.nil ?_)
    repeat (first|refine WL.vl rfl (WV.nch rfl rfl) ?_|refine W.gob rfl ?_|refine WL.nil ?_|refine WL.bt rfl rfl rfl zqo ?_|refine WL.bf rfl rfl rfl zqo ?_|refine WL.e1 rfl ?_|refine WL.ar rfl rfl z43i ?_|refine WL.len rfl rfl rfl ?_|refine WL.ixs rfl rfl zqs ?_|refine W.condT rfl ?_|refine W.condF rfl ?_)
    (first|refine (?_:W _ _ _ _ _)|refine (?_:WL _ _ _ _ _ _)|skip)
    try dsimp only [St.put,Nat.reduceAdd]
    refine WL.ldr rfl rfl g1 rfl rfl ?_
    repeat (first|refine WL.vl rfl (WV.nch rfl rfl) ?_|refine W.gob rfl ?_|refine WL.nil ?_|refine WL.bt rfl rfl rfl zqo ?_|refine WL.bf rfl rfl rfl zqo ?_|refine WL.e1 rfl ?_|refine WL.ar rfl rfl z43i ?_|refine WL.len rfl rfl rfl ?_|refine WL.ixs rfl rfl zqs ?_|refine W.condT rfl ?_|refine W.condF rfl ?_)
    (first|refine (?_:W _ _ _ _ _)|refine (?_:WL _ _ _ _ _ _)|skip)
    try dsimp only [St.put,Nat.reduceAdd]
    refine WL.sto rfl rfl rfl rfl g1 (by show 1+1≤5;omega) ?_
    repeat (first|refine WL.vl rfl (WV.nch rfl rfl) ?_|refine W.gob rfl ?_|refine WL.nil ?_|refine WL.bt rfl rfl rfl zqo ?_|refine WL.bf rfl rfl rfl zqo ?_|refine WL.e1 rfl ?_|refine WL.ar rfl rfl z43i ?_|refine WL.len rfl rfl rfl ?_|refine WL.ixs rfl rfl zqs ?_|refine W.condT rfl ?_|refine W.condF rfl ?_)
    (first|refine (?_:W _ _ _ _ _)|refine (?_:WL _ _ _ _ _ _)|skip)
    try dsimp only [St.put,Nat.reduceAdd]
    exact ⟨k+1,by omega,by omega,(zqu (fun q=>q) (by repeat (first|exact trivial|refine ⟨⟨?_,?_,?_⟩,?_⟩|rfl|exact congrArg (fun q=>some (AO.row _ _ q)) g5|exact congrArg (fun q=>some (AO.rwn _ _ q)) g5)) rfl)⟩
   ·rw [if_neg hf] at g4
    rw [g4] at g2
    have g5:K=(mpK (shF cs b) (k+1) S).map eStp:=by
     rw [← g2]
     obtain ⟨hl,e⟩:=List.getElem?_eq_some_iff.1 g1
     exact (by rw [show eStp X=K[k] from e.symm,List.set_getElem_self]:K.set k (eStp X)=K).symm
    clear g2 g4
    repeat (first|refine WL.vl rfl (WV.nch rfl rfl) ?_|refine W.gob rfl ?_|refine WL.nil ?_|refine WL.bt rfl rfl rfl zqo ?_|refine WL.bf rfl rfl rfl zqo ?_|refine WL.e1 rfl ?_|refine WL.ar rfl rfl z43i ?_|refine WL.len rfl rfl rfl ?_|refine WL.ixs rfl rfl zqs ?_|refine W.condT rfl ?_|refine W.condF rfl ?_)
    (first|refine (?_:W _ _ _ _ _)|refine (?_:WL _ _ _ _ _ _)|skip)
    try dsimp only [St.put,Nat.reduceAdd]
    refine WL.ldQ rfl rfl rfl rfl h1 (by show 5 < 6;omega) ?_
    repeat (first|refine WL.vl rfl (WV.nch rfl rfl) ?_|refine W.gob rfl ?_|refine WL.nil ?_|refine WL.bt rfl rfl rfl zqo ?_|refine WL.bf rfl rfl rfl zqo ?_|refine WL.e1 rfl ?_|refine WL.ar rfl rfl z43i ?_|refine WL.len rfl rfl rfl ?_|refine WL.ixs rfl rfl zqs ?_|refine W.condT rfl ?_|refine W.condF rfl ?_)
    (first|refine (?_:W _ _ _ _ _)|refine (?_:WL _ _ _ _ _ _)|skip)
    try dsimp only [St.put,Nat.reduceAdd]
    refine W.drawK zqk zqk ?_
    repeat (first|refine DK.vl rfl (WV.nch rfl rfl) ?_|refine DK.bt rfl rfl zqo ?_|refine DK.bf rfl rfl zqo ?_|refine DK.st rfl ?_|refine DK.ar rfl rfl z43i ?_|refine DK.nil ?_)
    refine DK.ldr rfl rfl g1 rfl rfl ?_
    repeat (first|refine DK.vl rfl (WV.nch rfl rfl) ?_|refine DK.bt rfl rfl zqo ?_|refine DK.bf rfl rfl zqo ?_|refine DK.st rfl ?_|refine DK.ar rfl rfl z43i ?_|refine DK.nil ?_)
    refine DK.idx rfl rfl zqo g3 ?_
    repeat (first|refine DK.vl rfl (WV.nch rfl rfl) ?_|refine DK.bt rfl rfl zqo ?_|refine DK.bf rfl rfl zqo ?_|refine DK.st rfl ?_|refine DK.ar rfl rfl z43i ?_|refine DK.nil ?_)
    repeat (first|refine WL.vl rfl (WV.nch rfl rfl) ?_|refine W.gob rfl ?_|refine WL.nil ?_|refine WL.bt rfl rfl rfl zqo ?_|refine WL.bf rfl rfl rfl zqo ?_|refine WL.e1 rfl ?_|refine WL.ar rfl rfl z43i ?_|refine WL.len rfl rfl rfl ?_|refine WL.ixs rfl rfl zqs ?_|refine W.condT rfl ?_|refine W.condF rfl ?_)
    (first|refine (?_:W _ _ _ _ _)|refine (?_:WL _ _ _ _ _ _)|skip)
    try dsimp only [St.put,Nat.reduceAdd]
    exact ⟨k+1,by omega,by omega,(zqu (fun q=>q) (by repeat (first|exact trivial|refine ⟨⟨?_,?_,?_⟩,?_⟩|rfl|exact congrArg (fun q=>some (AO.row _ _ q)) g5|exact congrArg (fun q=>some (AO.rwn _ _ q)) g5)) rfl)⟩
  ·obtain rfl:k=S.length:=by omega
   repeat (first|refine WL.vl rfl (WV.nch rfl rfl) ?_|refine W.gob rfl ?_|refine WL.nil ?_|refine WL.bt rfl rfl rfl zqo ?_|refine WL.bf rfl rfl rfl zqo ?_|refine WL.e1 rfl ?_|refine WL.ar rfl rfl z43i ?_|refine WL.len rfl rfl rfl ?_|refine WL.ixs rfl rfl zqs ?_|refine W.condT rfl ?_|refine W.condF rfl ?_)
   (first|refine (?_:W _ _ _ _ _)|refine (?_:WL _ _ _ _ _ _)|skip)
   try dsimp only [St.put,Nat.reduceAdd]
   refine ⟨i+1,by omega,by omega,?_⟩
   refine Tr.trans (Tr.close_ 3 rfl rfl rfl h1 (by show 5 < 6;omega) h2) ?_
   exact (zqt id)
 ·obtain rfl:i=p.evs.length:=by omega
  rw [hMn]
  repeat (first|refine WL.vl rfl (WV.nch rfl rfl) ?_|refine W.gob rfl ?_|refine WL.nil ?_|refine WL.bt rfl rfl rfl zqo ?_|refine WL.bf rfl rfl rfl zqo ?_|refine WL.e1 rfl ?_|refine WL.ar rfl rfl z43i ?_|refine WL.len rfl rfl rfl ?_|refine WL.ixs rfl rfl zqs ?_|refine W.condT rfl ?_|refine W.condF rfl ?_)
  (first|refine (?_:W _ _ _ _ _)|refine (?_:WL _ _ _ _ _ _)|skip)
  try dsimp only [St.put,Nat.reduceAdd]
  refine W.tr (σ':=⟨[(6,.pt 1 0 0)],[(0,.rwn 45 6 ((p.evs.map (gmE (shF cs b))).map eEvO)),(1,.box 29 [.ls 3 CS,.ls 1 (st.map eInt),.sl 0])],2⟩) (zqt (fun q=>bif Nat.beq q 0 then 3 else bif Nat.beq q 1 then 2 else q)) ?_
  exact W.ret (finM rfl rfl rfl rfl rfl)
end
section
open Go.RowKit
theorem pRelease_FS (p:Pce) (hO:PcOk p) (cs:List (Int×Int×Bool)) (st:List Int) (f:Int) (h1:cs.length≤64) (h2:st.length≤64):Ctr Tryz.prog 34 [ePce p,.ag [.ls 3 (cs.map eCrs),.ls 1 (st.map eInt)],.sc (.int .i64 f)] (.tu [ePce (rlP p cs st f),.sc (.int .i64 (rlX p cs st f))]):=by
 have hC:=pCheck_FS p hO
 have hno:∀ e:Int,e≠0→rlX p cs st f=e→rlP p cs st f=noP:=fun e h1 h2=>if_neg (by rw [h2];exact h1)
 have hPe:ePce p=.ag [.ls 3 (p.cs.map eCrs),.ls 1 (p.st.map eInt),.ls 6 (p.evs.map eEv)]:=rfl
 have hNo:ePce noP=.ag [.ls 3 [],.ls 1 [],.ls 6 []]:=rfl
 by_cases h0:pceE p=0
 rotate_left
 ·have e:rlX p cs st f=pceE p:=if_pos h0
  rw [hno _ h0 e,e,hNo]
  obtain ⟨E,hE⟩:∃ z,pceE p=z:=⟨_,rfl⟩
  rw [hE] at hC h0 ⊢
  rw [hPe] at hC ⊢
  refine zqe Tryz.func34 Tryz.ntmps34 fun w0 F0=>?_;dsimp only [St.init,number,Nat.reduceAdd]
  repeat (first|refine WL.vl rfl (WV.nch rfl rfl) ?_|refine W.gob rfl ?_|refine WL.nil ?_|refine WL.nt rfl rfl rfl zqo ?_|refine WL.nf rfl rfl rfl zqo ?_|refine WL.e1 rfl ?_|refine W.condT rfl ?_|refine W.condF rfl ?_)
  (first|refine (?_:W _ _ _ _ _)|refine (?_:WL _ _ _ _ _ _)|skip)
  try dsimp only [St.put,Nat.reduceAdd]
  refine WL.vl rfl (zqc Tryz.func45 hC) ?_
  repeat (first|refine WL.vl rfl (WV.nch rfl rfl) ?_|refine W.gob rfl ?_|refine WL.nil ?_|refine WL.nt rfl rfl rfl zqo ?_|refine WL.nf rfl rfl rfl zqo ?_|refine WL.e1 rfl ?_|refine W.condT rfl ?_|refine W.condF rfl ?_)
  (first|refine (?_:W _ _ _ _ _)|refine (?_:WL _ _ _ _ _ _)|skip)
  try dsimp only [St.put,Nat.reduceAdd]
  refine W.tr (Tr.nilC 2 0 3 rfl rfl rfl) ?_
  refine W.tr (Tr.nilC 2 1 1 rfl rfl rfl) ?_
  refine W.tr (Tr.nilC 2 2 6 rfl rfl rfl) ?_
  exact W.ret (finN rfl rfl rfl rfl)
 rw [h0] at hC
 have hCp:=pCapI_FS cs st f
 by_cases hx:cpX cs st f=0
 rotate_left
 ·have e:rlX p cs st f=cpX cs st f:=by unfold rlX;rw [if_neg (fun h=>h h0),if_pos hx]
  rw [hno _ hx e,e,hNo]
  obtain ⟨E,hE⟩:∃ z,cpX cs st f=z:=⟨_,rfl⟩
  rw [hE] at hCp hx ⊢
  rw [hPe] at hC ⊢
  refine zqe Tryz.func34 Tryz.ntmps34 fun w0 F0=>?_;dsimp only [St.init,number,Nat.reduceAdd]
  repeat (first|refine WL.vl rfl (WV.nch rfl rfl) ?_|refine W.gob rfl ?_|refine WL.nil ?_|refine WL.nt rfl rfl rfl zqo ?_|refine WL.nf rfl rfl rfl zqo ?_|refine WL.e1 rfl ?_|refine W.condT rfl ?_|refine W.condF rfl ?_)
  (first|refine (?_:W _ _ _ _ _)|refine (?_:WL _ _ _ _ _ _)|skip)
  try dsimp only [St.put,Nat.reduceAdd]
  refine WL.vl rfl (zqc Tryz.func45 hC) ?_
  repeat (first|refine WL.vl rfl (WV.nch rfl rfl) ?_|refine W.gob rfl ?_|refine WL.nil ?_|refine WL.nt rfl rfl rfl zqo ?_|refine WL.nf rfl rfl rfl zqo ?_|refine WL.e1 rfl ?_|refine W.condT rfl ?_|refine W.condF rfl ?_)
  (first|refine (?_:W _ _ _ _ _)|refine (?_:WL _ _ _ _ _ _)|skip)
  try dsimp only [St.put,Nat.reduceAdd]
  refine WL.vl rfl (zqc Tryz.func71 hCp) ?_
  repeat (first|refine WL.vl rfl (WV.nch rfl rfl) ?_|refine W.gob rfl ?_|refine WL.nil ?_|refine WL.nt rfl rfl rfl zqo ?_|refine WL.nf rfl rfl rfl zqo ?_|refine WL.e1 rfl ?_|refine W.condT rfl ?_|refine W.condF rfl ?_)
  (first|refine (?_:W _ _ _ _ _)|refine (?_:WL _ _ _ _ _ _)|skip)
  try dsimp only [St.put,Nat.reduceAdd]
  refine W.tr (Tr.nilC 2 0 3 rfl rfl rfl) ?_
  refine W.tr (Tr.nilC 2 1 1 rfl rfl rfl) ?_
  refine W.tr (Tr.nilC 2 2 6 rfl rfl rfl) ?_
  exact W.ret (finN rfl rfl rfl rfl)
 rw [hx] at hCp
 have hk1:(cpCs cs st f).length≤64:=by
  unfold cpCs;rw [if_pos hx];split
  ·exact h1
  ·rw [List.length_map];exact h1
 have hk2:(cpSt cs st f).length≤64:=by
  unfold cpSt;rw [if_pos hx];split
  ·exact h2
  ·rw [List.length_map,List.length_drop];omega
 have hS:=pSameI_FS (cpCs cs st f) (cpSt cs st f) p.cs p.st hk1 hk2 hO.n1 hO.n2
 have hS:Ctr Tryz.prog 81 [.ag [.ls 3 ((cpCs cs st f).map eCrs),.ls 1 ((cpSt cs st f).map eInt)],.ag [.ls 3 (p.cs.map eCrs),.ls 1 (p.st.map eInt)]] (.sc (.bool (sameI (cpCs cs st f) (cpSt cs st f) p.cs p.st))):=hS
 have hX:rlX p cs st f=if sameI (cpCs cs st f) (cpSt cs st f) p.cs p.st=true then 0 else 11:=by unfold rlX;rw [if_neg (fun h=>h h0),if_neg (fun h=>h hx)]
 cases hsm:sameI (cpCs cs st f) (cpSt cs st f) p.cs p.st with
 | false =>
  have e:rlX p cs st f=11:=by rw [hX,hsm,if_neg (by simp)]
  rw [hno _ (by decide) e,e,hNo]
  rw [hsm] at hS
  rw [hPe] at hC ⊢
  refine zqe Tryz.func34 Tryz.ntmps34 fun w0 F0=>?_;dsimp only [St.init,number,Nat.reduceAdd]
  repeat (first|refine WL.vl rfl (WV.nch rfl rfl) ?_|refine W.gob rfl ?_|refine WL.nil ?_|refine WL.nt rfl rfl rfl zqo ?_|refine WL.nf rfl rfl rfl zqo ?_|refine WL.e1 rfl ?_|refine W.condT rfl ?_|refine W.condF rfl ?_)
  (first|refine (?_:W _ _ _ _ _)|refine (?_:WL _ _ _ _ _ _)|skip)
  try dsimp only [St.put,Nat.reduceAdd]
  refine WL.vl rfl (zqc Tryz.func45 hC) ?_
  repeat (first|refine WL.vl rfl (WV.nch rfl rfl) ?_|refine W.gob rfl ?_|refine WL.nil ?_|refine WL.nt rfl rfl rfl zqo ?_|refine WL.nf rfl rfl rfl zqo ?_|refine WL.e1 rfl ?_|refine W.condT rfl ?_|refine W.condF rfl ?_)
  (first|refine (?_:W _ _ _ _ _)|refine (?_:WL _ _ _ _ _ _)|skip)
  try dsimp only [St.put,Nat.reduceAdd]
  refine WL.vl rfl (zqc Tryz.func71 hCp) ?_
  repeat (first|refine WL.vl rfl (WV.nch rfl rfl) ?_|refine W.gob rfl ?_|refine WL.nil ?_|refine WL.nt rfl rfl rfl zqo ?_|refine WL.nf rfl rfl rfl zqo ?_|refine WL.e1 rfl ?_|refine W.condT rfl ?_|refine W.condF rfl ?_)
  (first|refine (?_:W _ _ _ _ _)|refine (?_:WL _ _ _ _ _ _)|skip)
  try dsimp only [St.put,Nat.reduceAdd]
  refine WL.vl rfl (zqc Tryz.func81 hS) ?_
  repeat (first|refine WL.vl rfl (WV.nch rfl rfl) ?_|refine W.gob rfl ?_|refine WL.nil ?_|refine WL.nt rfl rfl rfl zqo ?_|refine WL.nf rfl rfl rfl zqo ?_|refine WL.e1 rfl ?_|refine W.condT rfl ?_|refine W.condF rfl ?_)
  (first|refine (?_:W _ _ _ _ _)|refine (?_:WL _ _ _ _ _ _)|skip)
  try dsimp only [St.put,Nat.reduceAdd]
  refine W.tr (Tr.nilC 2 0 3 rfl rfl rfl) ?_
  refine W.tr (Tr.nilC 2 1 1 rfl rfl rfl) ?_
  refine W.tr (Tr.nilC 2 2 6 rfl rfl rfl) ?_
  exact W.ret (finN rfl rfl rfl rfl)
 | true =>
  have e:rlX p cs st f=0:=by rw [hX,hsm,if_pos rfl]
  have e2:rlP p cs st f=⟨cs,st,p.evs.map (gmE (shF cs f))⟩:=if_pos e
  have hbd:=cp_bd hx
  have hI:insE cs st=0:=by
   unfold cpX at hx
   by_cases h1:insE cs st≠0
   ·rw [if_pos h1] at hx;exact absurd hx h1
   ·exact Decidable.not_not.1 h1
  have hlen:cs.length=p.cs.length:=by
   have hq:=of_decide_eq_true (show decide (cpCs cs st f=p.cs∧cpSt cs st f=p.st)=true from hsm)
   rw [← hq.1]
   unfold cpCs;rw [if_pos hx];split
   ·rfl
   ·rw [List.length_map]
  have hSh:=uShift p hO h0 cs st hI hlen f zqo
  have hz1:=eEvO_rows (p.evs.map (gmE (shF cs f)))
  have hs1:=List.all_eq_true.2 fun r hr=>List.all_eq_true.2 (eEvO_shal (p.evs.map (gmE (shF cs f))) r hr)
  have hRe:ePce ⟨cs,st,p.evs.map (gmE (shF cs f))⟩=.ag [.ls 3 (cs.map eCrs),.ls 1 (st.map eInt),.ls 6 ((p.evs.map (gmE (shF cs f))).map eEv)]:=rfl
  rw [e,e2,hRe]
  rw [hsm] at hS
  rw [hPe] at hC hSh ⊢
  refine zqe Tryz.func34 Tryz.ntmps34 fun w0 F0=>?_;dsimp only [St.init,number,Nat.reduceAdd]
  repeat (first|refine WL.vl rfl (WV.nch rfl rfl) ?_|refine W.gob rfl ?_|refine WL.nil ?_|refine WL.nt rfl rfl rfl zqo ?_|refine WL.nf rfl rfl rfl zqo ?_|refine WL.e1 rfl ?_|refine W.condT rfl ?_|refine W.condF rfl ?_)
  (first|refine (?_:W _ _ _ _ _)|refine (?_:WL _ _ _ _ _ _)|skip)
  try dsimp only [St.put,Nat.reduceAdd]
  refine WL.vl rfl (zqc Tryz.func45 hC) ?_
  repeat (first|refine WL.vl rfl (WV.nch rfl rfl) ?_|refine W.gob rfl ?_|refine WL.nil ?_|refine WL.nt rfl rfl rfl zqo ?_|refine WL.nf rfl rfl rfl zqo ?_|refine WL.e1 rfl ?_|refine W.condT rfl ?_|refine W.condF rfl ?_)
  (first|refine (?_:W _ _ _ _ _)|refine (?_:WL _ _ _ _ _ _)|skip)
  try dsimp only [St.put,Nat.reduceAdd]
  refine WL.vl rfl (zqc Tryz.func71 hCp) ?_
  repeat (first|refine WL.vl rfl (WV.nch rfl rfl) ?_|refine W.gob rfl ?_|refine WL.nil ?_|refine WL.nt rfl rfl rfl zqo ?_|refine WL.nf rfl rfl rfl zqo ?_|refine WL.e1 rfl ?_|refine W.condT rfl ?_|refine W.condF rfl ?_)
  (first|refine (?_:W _ _ _ _ _)|refine (?_:WL _ _ _ _ _ _)|skip)
  try dsimp only [St.put,Nat.reduceAdd]
  refine WL.vl rfl (zqc Tryz.func81 hS) ?_
  repeat (first|refine WL.vl rfl (WV.nch rfl rfl) ?_|refine W.gob rfl ?_|refine WL.nil ?_|refine WL.nt rfl rfl rfl zqo ?_|refine WL.nf rfl rfl rfl zqo ?_|refine WL.e1 rfl ?_|refine W.condT rfl ?_|refine W.condF rfl ?_)
  (first|refine (?_:W _ _ _ _ _)|refine (?_:WL _ _ _ _ _ _)|skip)
  try dsimp only [St.put,Nat.reduceAdd]
  refine WL.cto (truH _) [] rfl rfl (callF Tryz.func82 rfl rfl) hSh rfl rfl rfl trivial rfl rfl rfl rfl ?_
  repeat (first|refine WL.vl rfl (WV.nch rfl rfl) ?_|refine W.gob rfl ?_|refine WL.nil ?_|refine WL.nt rfl rfl rfl zqo ?_|refine WL.nf rfl rfl rfl zqo ?_|refine WL.e1 rfl ?_|refine W.condT rfl ?_|refine W.condF rfl ?_)
  (first|refine (?_:W _ _ _ _ _)|refine (?_:WL _ _ _ _ _ _)|skip)
  try dsimp only [St.put,Nat.reduceAdd]
  refine W.tr (Tr.freezeW 4 1 rfl hs1 hz1) ?_
  exact W.ret (finN rfl rfl rfl rfl)
end
end Go.Proofs.YtaeelcfjkhfpkaaGreat
