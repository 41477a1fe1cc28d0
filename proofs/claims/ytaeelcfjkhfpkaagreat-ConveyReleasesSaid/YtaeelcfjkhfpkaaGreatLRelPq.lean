/- ConveyReleases: the walk. -/
import Derived.Test.YtaeelcfjkhfpkaaGreatU7Pq
import Derived.Test.YtaeelcfjkhfpkaaGreatZ4Pq
import Derived.Test.YtaeelcfjkhfpkaaGreatW04Pq
set_option maxHeartbeats 8000000
set_option maxRecDepth 100000
set_option linter.unusedVariables false
set_option linter.unusedSimpArgs false
namespace Go.Proofs.YtaeelcfjkhfpkaaGreat
section
open Go.RowKit
theorem z14i {z:Int} (h:I64 z:=by unfold I64;omega):I64 z:=h
theorem pRelease_FS (p:Pce) (hO:PcOk p) (cs:List (Int×Int×Bool)) (st:List Int) (f:Int) (h1:cs.length≤64) (h2:st.length≤64):Ctr Tryz.prog 34 [ePce p,.ag [.ls 3 (cs.map eCrs),.ls 1 (st.map eInt)],.sc (.int .i64 f)] (.tu [ePce (rlP p cs st f),.sc (.int .i64 (rlX p cs st f))]):=by
 have hC:=pCheck_FS p hO
 have hno:∀ e:Int,e≠0→rlX p cs st f=e→rlP p cs st f=noP:=fun e h1 h2=>if_neg (by rw [h2];exact h1)
 have hPe:ePce p=.ag [.ls 3 (p.cs.map eCrs),.ls 1 (p.st.map eInt),.ls 6 (p.evs.map eEv)]:=rfl
 have hNo:ePce noP=.ag [.ls 3 [],.ls 1 [],.ls 6 []]:=rfl
 by_cases h0:pceE p=0
 rotate_left
 ·have e:rlX p cs st f=pceE p:=if_pos h0
  rw [hno _ h0 e,e,hNo]
  obtain ⟨E,hE⟩:∃ z,pceE p=z:=⟨_,rfl⟩
  rw [hE] at hC h0 ⊢
  rw [hPe] at hC ⊢
  refine zqe Tryz.func34 Tryz.ntmps34 fun w0 F0=>?_;dsimp only [St.init,number,Nat.reduceAdd]
  repeat (first|refine WL.vl rfl (WV.nch rfl rfl) ?_|refine W.gob rfl ?_|refine WL.nil ?_|refine WL.nt rfl rfl rfl zqo ?_|refine WL.nf rfl rfl rfl zqo ?_|refine WL.e1 rfl ?_|refine W.condT rfl ?_|refine W.condF rfl ?_)
  (first|refine (?_:W _ _ _ _ _)|refine (?_:WL _ _ _ _ _ _)|skip)
  try dsimp only [St.put,Nat.reduceAdd]
  refine WL.vl rfl (zqc Tryz.func45 hC) ?_
  repeat (first|refine WL.vl rfl (WV.nch rfl rfl) ?_|refine W.gob rfl ?_|refine WL.nil ?_|refine WL.nt rfl rfl rfl zqo ?_|refine WL.nf rfl rfl rfl zqo ?_|refine WL.e1 rfl ?_|refine W.condT rfl ?_|refine W.condF rfl ?_)
  (first|refine (?_:W _ _ _ _ _)|refine (?_:WL _ _ _ _ _ _)|skip)
  try dsimp only [St.put,Nat.reduceAdd]
  refine W.tr (Tr.nilC 2 0 3 rfl rfl rfl) ?_
  refine W.tr (Tr.nilC 2 1 1 rfl rfl rfl) ?_
  refine W.tr (Tr.nilC 2 2 6 rfl rfl rfl) ?_
  exact W.ret (finN rfl rfl rfl rfl)
 rw [h0] at hC
 have hCp:=pCapI_FS cs st f
 by_cases hx:cpX cs st f=0
 rotate_left
 ·have e:rlX p cs st f=cpX cs st f:=by unfold rlX;rw [if_neg (fun h=>h h0),if_pos hx]
  rw [hno _ hx e,e,hNo]
  obtain ⟨E,hE⟩:∃ z,cpX cs st f=z:=⟨_,rfl⟩
  rw [hE] at hCp hx ⊢
  rw [hPe] at hC ⊢
  refine zqe Tryz.func34 Tryz.ntmps34 fun w0 F0=>?_;dsimp only [St.init,number,Nat.reduceAdd]
  repeat (first|refine WL.vl rfl (WV.nch rfl rfl) ?_|refine W.gob rfl ?_|refine WL.nil ?_|refine WL.nt rfl rfl rfl zqo ?_|refine WL.nf rfl rfl rfl zqo ?_|refine WL.e1 rfl ?_|refine W.condT rfl ?_|refine W.condF rfl ?_)
  (first|refine (?_:W _ _ _ _ _)|refine (?_:WL _ _ _ _ _ _)|skip)
  try dsimp only [St.put,Nat.reduceAdd]
  refine WL.vl rfl (zqc Tryz.func45 hC) ?_
  repeat (first|refine WL.vl rfl (WV.nch rfl rfl) ?_|refine W.gob rfl ?_|refine WL.nil ?_|refine WL.nt rfl rfl rfl zqo ?_|refine WL.nf rfl rfl rfl zqo ?_|refine WL.e1 rfl ?_|refine W.condT rfl ?_|refine W.condF rfl ?_)
  (first|refine (?_:W _ _ _ _ _)|refine (?_:WL _ _ _ _ _ _)|skip)
  try dsimp only [St.put,Nat.reduceAdd]
  refine WL.vl rfl (zqc Tryz.func71 hCp) ?_
  repeat (first|refine WL.vl rfl (WV.nch rfl rfl) ?_|refine W.gob rfl ?_|refine WL.nil ?_|refine WL.nt rfl rfl rfl zqo ?_|refine WL.nf rfl rfl rfl zqo ?_|refine WL.e1 rfl ?_|refine W.condT rfl ?_|refine W.condF rfl ?_)
  (first|refine (?_:W _ _ _ _ _)|refine (?_:WL _ _ _ _ _ _)|skip)
  try dsimp only [St.put,Nat.reduceAdd]
  refine W.tr (Tr.nilC 2 0 3 rfl rfl rfl) ?_
  refine W.tr (Tr.nilC 2 1 1 rfl rfl rfl) ?_
  refine W.tr (Tr.nilC 2 2 6 rfl rfl rfl) ?_
  exact W.ret (finN rfl rfl rfl rfl)
 rw [hx] at hCp
 have hk1:(cpCs cs st f).length≤64:=by
  unfold cpCs;rw [if_pos hx];split
  ·exact h1
  ·rw [List.length_map];exact h1
 have hk2:(cpSt cs st f).length≤64:=by
  unfold cpSt;rw [if_pos hx];split
  ·exact h2
  ·rw [List.length_map,List.length_drop];omega
 have hS:=pSameI_FS (cpCs cs st f) (cpSt cs st f) p.cs p.st hk1 hk2 hO.n1 hO.n2
 have hS:Ctr Tryz.prog 81 [.ag [.ls 3 ((cpCs cs st f).map eCrs),.ls 1 ((cpSt cs st f).map eInt)],.ag [.ls 3 (p.cs.map eCrs),.ls 1 (p.st.map eInt)]] (.sc (.bool (sameI (cpCs cs st f) (cpSt cs st f) p.cs p.st))):=hS
 have hX:rlX p cs st f=if sameI (cpCs cs st f) (cpSt cs st f) p.cs p.st=true then 0 else 11:=by unfold rlX;rw [if_neg (fun h=>h h0),if_neg (fun h=>h hx)]
 cases hsm:sameI (cpCs cs st f) (cpSt cs st f) p.cs p.st with
 | false =>
  have e:rlX p cs st f=11:=by rw [hX,hsm,if_neg (by simp)]
  rw [hno _ (by decide) e,e,hNo]
  rw [hsm] at hS
  rw [hPe] at hC ⊢
  refine zqe Tryz.func34 Tryz.ntmps34 fun w0 F0=>?_;dsimp only [St.init,number,Nat.reduceAdd]
  repeat (first|refine WL.vl rfl (WV.nch rfl rfl) ?_|refine W.gob rfl ?_|refine WL.nil ?_|refine WL.nt rfl rfl rfl zqo ?_|refine WL.nf rfl rfl rfl zqo ?_|refine WL.e1 rfl ?_|refine W.condT rfl ?_|refine W.condF rfl ?_)
  (first|refine (?_:W _ _ _ _ _)|refine (?_:WL _ _ _ _ _ _)|skip)
  try dsimp only [St.put,Nat.reduceAdd]
  refine WL.vl rfl (zqc Tryz.func45 hC) ?_
  repeat (first|refine WL.vl rfl (WV.nch rfl rfl) ?_|refine W.gob rfl ?_|refine WL.nil ?_|refine WL.nt rfl rfl rfl zqo ?_|refine WL.nf rfl rfl rfl zqo ?_|refine WL.e1 rfl ?_|refine W.condT rfl ?_|refine W.condF rfl ?_)
  (first|refine (?_:W _ _ _ _ _)|refine (?_:WL _ _ _ _ _ _)|skip)
  try dsimp only [St.put,Nat.reduceAdd]
  refine WL.vl rfl (zqc Tryz.func71 hCp) ?_
  repeat (first|refine WL.vl rfl (WV.nch rfl rfl) ?_|refine W.gob rfl ?_|refine WL.nil ?_|refine WL.nt rfl rfl rfl zqo ?_|refine WL.nf rfl rfl rfl zqo ?_|refine WL.e1 rfl ?_|refine W.condT rfl ?_|refine W.condF rfl ?_)
  (first|refine (?_:W _ _ _ _ _)|refine (?_:WL _ _ _ _ _ _)|skip)
  try dsimp only [St.put,Nat.reduceAdd]
  refine WL.vl rfl (zqc Tryz.func81 hS) ?_
  repeat (first|refine WL.vl rfl (WV.nch rfl rfl) ?_|refine W.gob rfl ?_|refine WL.nil ?_|refine WL.nt rfl rfl rfl zqo ?_|refine WL.nf rfl rfl rfl zqo ?_|refine WL.e1 rfl ?_|refine W.condT rfl ?_|refine W.condF rfl ?_)
  (first|refine (?_:W _ _ _ _ _)|refine (?_:WL _ _ _ _ _ _)|skip)
  try dsimp only [St.put,Nat.reduceAdd]
  refine W.tr (Tr.nilC 2 0 3 rfl rfl rfl) ?_
  refine W.tr (Tr.nilC 2 1 1 rfl rfl rfl) ?_
  refine W.tr (Tr.nilC 2 2 6 rfl rfl rfl) ?_
  exact W.ret (finN rfl rfl rfl rfl)
 | true =>
  have e:rlX p cs st f=0:=by rw [hX,hsm,if_pos rfl]
  have e2:rlP p cs st f=⟨cs,st,p.evs.map (gmE (shF cs f))⟩:=if_pos e
  have hbd:=cp_bd hx
  have hI:insE cs st=0:=by
   unfold cpX at hx
   by_cases h1:insE cs st≠0
   ·rw [if_pos h1] at hx;exact absurd hx h1
   ·exact Decidable.not_not.1 h1
  have hlen:cs.length=p.cs.length:=by
   have hq:=of_decide_eq_true (show decide (cpCs cs st f=p.cs∧cpSt cs st f=p.st)=true from hsm)
   rw [← hq.1]
   unfold cpCs;rw [if_pos hx];split
   ·rfl
   ·rw [List.length_map]
  have hSh:=uShift p hO h0 cs st hI hlen f zqo
  have hz1:=eEvO_rows (p.evs.map (gmE (shF cs f)))
  have hs1:=List.all_eq_true.2 fun r hr=>List.all_eq_true.2 (eEvO_shal (p.evs.map (gmE (shF cs f))) r hr)
  have hRe:ePce ⟨cs,st,p.evs.map (gmE (shF cs f))⟩=.ag [.ls 3 (cs.map eCrs),.ls 1 (st.map eInt),.ls 6 ((p.evs.map (gmE (shF cs f))).map eEv)]:=rfl
  rw [e,e2,hRe]
  rw [hsm] at hS
  rw [hPe] at hC hSh ⊢
  refine zqe Tryz.func34 Tryz.ntmps34 fun w0 F0=>?_;dsimp only [St.init,number,Nat.reduceAdd]
  repeat (first|refine WL.vl rfl (WV.nch rfl rfl) ?_|refine W.gob rfl ?_|refine WL.nil ?_|refine WL.nt rfl rfl rfl zqo ?_|refine WL.nf rfl rfl rfl zqo ?_|refine WL.e1 rfl ?_|refine W.condT rfl ?_|refine W.condF rfl ?_)
  (first|refine (?_:W _ _ _ _ _)|refine (?_:WL _ _ _ _ _ _)|skip)
  try dsimp only [St.put,Nat.reduceAdd]
  refine WL.vl rfl (zqc Tryz.func45 hC) ?_
  repeat (first|refine WL.vl rfl (WV.nch rfl rfl) ?_|refine W.gob rfl ?_|refine WL.nil ?_|refine WL.nt rfl rfl rfl zqo ?_|refine WL.nf rfl rfl rfl zqo ?_|refine WL.e1 rfl ?_|refine W.condT rfl ?_|refine W.condF rfl ?_)
  (first|refine (?_:W _ _ _ _ _)|refine (?_:WL _ _ _ _ _ _)|skip)
  try dsimp only [St.put,Nat.reduceAdd]
  refine WL.vl rfl (zqc Tryz.func71 hCp) ?_
  repeat (first|refine WL.vl rfl (WV.nch rfl rfl) ?_|refine W.gob rfl ?_|refine WL.nil ?_|refine WL.nt rfl rfl rfl zqo ?_|refine WL.nf rfl rfl rfl zqo ?_|refine WL.e1 rfl ?_|refine W.condT rfl ?_|refine W.condF rfl ?_)
  (first|refine (?_:W _ _ _ _ _)|refine (?_:WL _ _ _ _ _ _)|skip)
  try dsimp only [St.put,Nat.reduceAdd]
  refine WL.vl rfl (zqc Tryz.func81 hS) ?_
  repeat (first|refine WL.vl rfl (WV.nch rfl rfl) ?_|refine W.gob rfl ?_|refine WL.nil ?_|refine WL.nt rfl rfl rfl zqo ?_|refine WL.nf rfl rfl rfl zqo ?_|refine WL.e1 rfl ?_|refine W.condT rfl ?_|refine W.condF rfl ?_)
  (first|refine (?_:W _ _ _ _ _)|refine (?_:WL _ _ _ _ _ _)|skip)
  try dsimp only [St.put,Nat.reduceAdd]
  refine WL.cto (truH _) [] rfl rfl (callF Tryz.func82 rfl rfl) hSh rfl rfl rfl trivial rfl rfl rfl rfl ?_
  repeat (first|refine WL.vl rfl (WV.nch rfl rfl) ?_|refine W.gob rfl ?_|refine WL.nil ?_|refine WL.nt rfl rfl rfl zqo ?_|refine WL.nf rfl rfl rfl zqo ?_|refine WL.e1 rfl ?_|refine W.condT rfl ?_|refine W.condF rfl ?_)
  (first|refine (?_:W _ _ _ _ _)|refine (?_:WL _ _ _ _ _ _)|skip)
  try dsimp only [St.put,Nat.reduceAdd]
  refine W.tr (Tr.freezeW 4 1 rfl hs1 hz1) ?_
  exact W.ret (finN rfl rfl rfl rfl)
end
section
open Go.RowKit
theorem rRelease_FS (p:Pce) (hO:PcOk p) (cs:List (Int×Int×Bool)) (st:List Int) (f:Int) (h1:cs.length≤64) (h2:st.length≤64):Ctr Tryz.prog 36 [ePce p,.ag [.ls 3 (cs.map eCrs),.ls 1 (st.map eInt)],.sc (.int .i64 f)] (.tu [ePce (rlP p cs st f),.sc (.int .i64 (rlX p cs st f))]):=by
 have hC:=rCheck_FS p hO
 have hno:∀ e:Int,e≠0→rlX p cs st f=e→rlP p cs st f=noP:=fun e h1 h2=>if_neg (by rw [h2];exact h1)
 have hPe:ePce p=.ag [.ls 3 (p.cs.map eCrs),.ls 1 (p.st.map eInt),.ls 6 (p.evs.map eEv)]:=rfl
 have hNo:ePce noP=.ag [.ls 3 [],.ls 1 [],.ls 6 []]:=rfl
 by_cases h0:pceE p=0
 rotate_left
 ·have e:rlX p cs st f=pceE p:=if_pos h0
  rw [hno _ h0 e,e,hNo]
  obtain ⟨E,hE⟩:∃ z,pceE p=z:=⟨_,rfl⟩
  rw [hE] at hC h0 ⊢
  rw [hPe] at hC ⊢
  refine zqe Tryz.func36 Tryz.ntmps36 fun w0 F0=>?_;dsimp only [St.init,number,Nat.reduceAdd]
  repeat (first|refine WL.vl rfl (WV.nch rfl rfl) ?_|refine W.gob rfl ?_|refine WL.nil ?_|refine WL.bt rfl rfl rfl zqo ?_|refine WL.bf rfl rfl rfl zqo ?_|refine WL.nt rfl rfl rfl zqo ?_|refine WL.nf rfl rfl rfl zqo ?_|refine WL.e1 rfl ?_|refine WL.ar rfl rfl z14i ?_|refine WL.len rfl rfl rfl ?_|refine WL.ixs rfl rfl zqs ?_|refine W.condT rfl ?_|refine W.condF rfl ?_)
  (first|refine (?_:W _ _ _ _ _)|refine (?_:WL _ _ _ _ _ _)|skip)
  try dsimp only [St.put,Nat.reduceAdd]
  refine WL.vl rfl (zqc Tryz.func20 hC) ?_
  repeat (first|refine WL.vl rfl (WV.nch rfl rfl) ?_|refine W.gob rfl ?_|refine WL.nil ?_|refine WL.bt rfl rfl rfl zqo ?_|refine WL.bf rfl rfl rfl zqo ?_|refine WL.nt rfl rfl rfl zqo ?_|refine WL.nf rfl rfl rfl zqo ?_|refine WL.e1 rfl ?_|refine WL.ar rfl rfl z14i ?_|refine WL.len rfl rfl rfl ?_|refine WL.ixs rfl rfl zqs ?_|refine W.condT rfl ?_|refine W.condF rfl ?_)
  (first|refine (?_:W _ _ _ _ _)|refine (?_:WL _ _ _ _ _ _)|skip)
  try dsimp only [St.put,Nat.reduceAdd]
  refine W.tr (Tr.nilC 2 0 3 rfl rfl rfl) ?_
  refine W.tr (Tr.nilC 2 1 1 rfl rfl rfl) ?_
  refine W.tr (Tr.nilC 2 2 6 rfl rfl rfl) ?_
  exact W.ret (finN rfl rfl rfl rfl)
 rw [h0] at hC
 have hCp:=rCapI_FS cs st f
 by_cases hx:cpX cs st f=0
 rotate_left
 ·have e:rlX p cs st f=cpX cs st f:=by unfold rlX;rw [if_neg (fun h=>h h0),if_pos hx]
  rw [hno _ hx e,e,hNo]
  obtain ⟨E,hE⟩:∃ z,cpX cs st f=z:=⟨_,rfl⟩
  rw [hE] at hCp hx ⊢
  rw [hPe] at hC ⊢
  refine zqe Tryz.func36 Tryz.ntmps36 fun w0 F0=>?_;dsimp only [St.init,number,Nat.reduceAdd]
  repeat (first|refine WL.vl rfl (WV.nch rfl rfl) ?_|refine W.gob rfl ?_|refine WL.nil ?_|refine WL.bt rfl rfl rfl zqo ?_|refine WL.bf rfl rfl rfl zqo ?_|refine WL.nt rfl rfl rfl zqo ?_|refine WL.nf rfl rfl rfl zqo ?_|refine WL.e1 rfl ?_|refine WL.ar rfl rfl z14i ?_|refine WL.len rfl rfl rfl ?_|refine WL.ixs rfl rfl zqs ?_|refine W.condT rfl ?_|refine W.condF rfl ?_)
  (first|refine (?_:W _ _ _ _ _)|refine (?_:WL _ _ _ _ _ _)|skip)
  try dsimp only [St.put,Nat.reduceAdd]
  refine WL.vl rfl (zqc Tryz.func20 hC) ?_
  repeat (first|refine WL.vl rfl (WV.nch rfl rfl) ?_|refine W.gob rfl ?_|refine WL.nil ?_|refine WL.bt rfl rfl rfl zqo ?_|refine WL.bf rfl rfl rfl zqo ?_|refine WL.nt rfl rfl rfl zqo ?_|refine WL.nf rfl rfl rfl zqo ?_|refine WL.e1 rfl ?_|refine WL.ar rfl rfl z14i ?_|refine WL.len rfl rfl rfl ?_|refine WL.ixs rfl rfl zqs ?_|refine W.condT rfl ?_|refine W.condF rfl ?_)
  (first|refine (?_:W _ _ _ _ _)|refine (?_:WL _ _ _ _ _ _)|skip)
  try dsimp only [St.put,Nat.reduceAdd]
  refine WL.vl rfl (zqc Tryz.func74 hCp) ?_
  repeat (first|refine WL.vl rfl (WV.nch rfl rfl) ?_|refine W.gob rfl ?_|refine WL.nil ?_|refine WL.bt rfl rfl rfl zqo ?_|refine WL.bf rfl rfl rfl zqo ?_|refine WL.nt rfl rfl rfl zqo ?_|refine WL.nf rfl rfl rfl zqo ?_|refine WL.e1 rfl ?_|refine WL.ar rfl rfl z14i ?_|refine WL.len rfl rfl rfl ?_|refine WL.ixs rfl rfl zqs ?_|refine W.condT rfl ?_|refine W.condF rfl ?_)
  (first|refine (?_:W _ _ _ _ _)|refine (?_:WL _ _ _ _ _ _)|skip)
  try dsimp only [St.put,Nat.reduceAdd]
  refine W.tr (Tr.nilC 2 0 3 rfl rfl rfl) ?_
  refine W.tr (Tr.nilC 2 1 1 rfl rfl rfl) ?_
  refine W.tr (Tr.nilC 2 2 6 rfl rfl rfl) ?_
  exact W.ret (finN rfl rfl rfl rfl)
 rw [hx] at hCp
 have hk1:(cpCs cs st f).length≤64:=by
  unfold cpCs;rw [if_pos hx];split
  ·exact h1
  ·rw [List.length_map];exact h1
 have hk2:(cpSt cs st f).length≤64:=by
  unfold cpSt;rw [if_pos hx];split
  ·exact h2
  ·rw [List.length_map,List.length_drop];omega
 have hS:=rSameI_FS p.cs p.st (cpCs cs st f) (cpSt cs st f) hO.n1 hO.n2 hk1 hk2
 have hsy:sameI p.cs p.st (cpCs cs st f) (cpSt cs st f)=sameI (cpCs cs st f) (cpSt cs st f) p.cs p.st:=by
  unfold sameI
  by_cases h:p.cs=cpCs cs st f∧p.st=cpSt cs st f
  ·rw [decide_eq_true h,decide_eq_true ⟨h.1.symm,h.2.symm⟩]
  ·rw [decide_eq_false h,decide_eq_false fun q=>h ⟨q.1.symm,q.2.symm⟩]
 rw [hsy] at hS
 have hS:Ctr Tryz.prog 29 [.ag [.ls 3 (p.cs.map eCrs),.ls 1 (p.st.map eInt)],.ag [.ls 3 ((cpCs cs st f).map eCrs),.ls 1 ((cpSt cs st f).map eInt)]] (.sc (.bool (sameI (cpCs cs st f) (cpSt cs st f) p.cs p.st))):=hS
 have hX:rlX p cs st f=if sameI (cpCs cs st f) (cpSt cs st f) p.cs p.st=true then 0 else 11:=by unfold rlX;rw [if_neg (fun h=>h h0),if_neg (fun h=>h hx)]
 cases hsm:sameI (cpCs cs st f) (cpSt cs st f) p.cs p.st with
 | false =>
  have e:rlX p cs st f=11:=by rw [hX,hsm,if_neg (by simp)]
  rw [hno _ (by decide) e,e,hNo]
  rw [hsm] at hS
  rw [hPe] at hC ⊢
  refine zqe Tryz.func36 Tryz.ntmps36 fun w0 F0=>?_;dsimp only [St.init,number,Nat.reduceAdd]
  repeat (first|refine WL.vl rfl (WV.nch rfl rfl) ?_|refine W.gob rfl ?_|refine WL.nil ?_|refine WL.bt rfl rfl rfl zqo ?_|refine WL.bf rfl rfl rfl zqo ?_|refine WL.nt rfl rfl rfl zqo ?_|refine WL.nf rfl rfl rfl zqo ?_|refine WL.e1 rfl ?_|refine WL.ar rfl rfl z14i ?_|refine WL.len rfl rfl rfl ?_|refine WL.ixs rfl rfl zqs ?_|refine W.condT rfl ?_|refine W.condF rfl ?_)
  (first|refine (?_:W _ _ _ _ _)|refine (?_:WL _ _ _ _ _ _)|skip)
  try dsimp only [St.put,Nat.reduceAdd]
  refine WL.vl rfl (zqc Tryz.func20 hC) ?_
  repeat (first|refine WL.vl rfl (WV.nch rfl rfl) ?_|refine W.gob rfl ?_|refine WL.nil ?_|refine WL.bt rfl rfl rfl zqo ?_|refine WL.bf rfl rfl rfl zqo ?_|refine WL.nt rfl rfl rfl zqo ?_|refine WL.nf rfl rfl rfl zqo ?_|refine WL.e1 rfl ?_|refine WL.ar rfl rfl z14i ?_|refine WL.len rfl rfl rfl ?_|refine WL.ixs rfl rfl zqs ?_|refine W.condT rfl ?_|refine W.condF rfl ?_)
  (first|refine (?_:W _ _ _ _ _)|refine (?_:WL _ _ _ _ _ _)|skip)
  try dsimp only [St.put,Nat.reduceAdd]
  refine WL.vl rfl (zqc Tryz.func74 hCp) ?_
  repeat (first|refine WL.vl rfl (WV.nch rfl rfl) ?_|refine W.gob rfl ?_|refine WL.nil ?_|refine WL.bt rfl rfl rfl zqo ?_|refine WL.bf rfl rfl rfl zqo ?_|refine WL.nt rfl rfl rfl zqo ?_|refine WL.nf rfl rfl rfl zqo ?_|refine WL.e1 rfl ?_|refine WL.ar rfl rfl z14i ?_|refine WL.len rfl rfl rfl ?_|refine WL.ixs rfl rfl zqs ?_|refine W.condT rfl ?_|refine W.condF rfl ?_)
  (first|refine (?_:W _ _ _ _ _)|refine (?_:WL _ _ _ _ _ _)|skip)
  try dsimp only [St.put,Nat.reduceAdd]
  refine WL.vl rfl (zqc Tryz.func29 hS) ?_
  repeat (first|refine WL.vl rfl (WV.nch rfl rfl) ?_|refine W.gob rfl ?_|refine WL.nil ?_|refine WL.bt rfl rfl rfl zqo ?_|refine WL.bf rfl rfl rfl zqo ?_|refine WL.nt rfl rfl rfl zqo ?_|refine WL.nf rfl rfl rfl zqo ?_|refine WL.e1 rfl ?_|refine WL.ar rfl rfl z14i ?_|refine WL.len rfl rfl rfl ?_|refine WL.ixs rfl rfl zqs ?_|refine W.condT rfl ?_|refine W.condF rfl ?_)
  (first|refine (?_:W _ _ _ _ _)|refine (?_:WL _ _ _ _ _ _)|skip)
  try dsimp only [St.put,Nat.reduceAdd]
  refine W.tr (Tr.nilC 2 0 3 rfl rfl rfl) ?_
  refine W.tr (Tr.nilC 2 1 1 rfl rfl rfl) ?_
  refine W.tr (Tr.nilC 2 2 6 rfl rfl rfl) ?_
  exact W.ret (finN rfl rfl rfl rfl)
 | true =>
  have e:rlX p cs st f=0:=by rw [hX,hsm,if_pos rfl]
  have e2:rlP p cs st f=⟨cs,st,p.evs.map (gmE (shF cs f))⟩:=if_pos e
  have hbd:=cp_bd hx
  have hlen:cs.length=p.cs.length:=by
   have hq:=of_decide_eq_true (show decide (cpCs cs st f=p.cs∧cpSt cs st f=p.st)=true from hsm)
   rw [← hq.1]
   unfold cpCs;rw [if_pos hx];split
   ·rfl
   ·rw [List.length_map]
  have hz1:=eEvO_rows (p.evs.map (gmE (shF cs f)))
  have hs1:=List.all_eq_true.2 fun r hr=>List.all_eq_true.2 (eEvO_shal (p.evs.map (gmE (shF cs f))) r hr)
  have hRe:ePce ⟨cs,st,p.evs.map (gmE (shF cs f))⟩=.ag [.ls 3 (cs.map eCrs),.ls 1 (st.map eInt),.ls 6 ((p.evs.map (gmE (shF cs f))).map eEv)]:=rfl
  rw [e,e2,hRe]
  rw [hsm] at hS
  have hn3:=hO.n3
  have hCp2:=uCopyOO p hO
  have hIc:=insCopy_FS cs st h1 h2
  have hIc:Ctr Tryz.prog 35 [.ag [.ls 3 (cs.map eCrs),.ls 1 (st.map eInt)]] (.ag [.ls 3 (cs.map eCrs),.ls 1 (st.map eInt)]):=hIc
  have hCl:(cs.map eCrs).length=cs.length:=List.length_map _
  have hCr:=fun (c:Int) (h:1≤c∧c≤cs.length)=>fretsOf_row (cs:=cs) h
  have hRl:∀ k,((mpK (gmE (shF cs f)) k p.evs).map eEvO).length=p.evs.length:=fun k=>by rw [List.length_map,mpK_len]
  have hat:∀ k (h:k < p.evs.length),((mpK (gmE (shF cs f)) k p.evs).map eEvO)[k]?=some [.sc (.bool p.evs[k].bar),.sc (.int .i64 p.evs[k].val),.sc (.bool p.evs[k].dot),.sc (.bool p.evs[k].three),.sc (.bool p.evs[k].tie),.ow 48 5 (p.evs[k].stops.map eStp)]:=fun k h=>by
   rw [List.getElem?_map,mpK_get h];rfl
  have hset:∀ k (h:k < p.evs.length),((mpK (gmE (shF cs f)) k p.evs).map eEvO).set k [.sc (.bool p.evs[k].bar),.sc (.int .i64 p.evs[k].val),.sc (.bool p.evs[k].dot),.sc (.bool p.evs[k].three),.sc (.bool p.evs[k].tie),.ow 48 5 ((mpK (shF cs f) p.evs[k].stops.length p.evs[k].stops).map eStp)]=(mpK (gmE (shF cs f)) (k+1) p.evs).map eEvO:=fun k h=>by
   rw [mpK_all,← mpK_put h,List.map_set];rfl
  have hst:∀ i (hi:i < p.evs.length) k (hk:k < p.evs[i].stops.length),(1≤p.evs[i].stops[k].1∧p.evs[i].stops[k].1≤cs.length)∧(0≤p.evs[i].stops[k].2.1∧p.evs[i].stops[k].2.1≤18):=fun i hi k hk=>by
   have hS:=(evOk_of h0 hi).stops _ (List.getElem_mem hk)
   have:=hS.crs
   exact ⟨by omega,hS.fret.1,hS.f18⟩
  have hM0:p.evs.map eEvO=(mpK (gmE (shF cs f)) 0 p.evs).map eEvO:=by rw [mpK_0]
  have hMn:(mpK (gmE (shF cs f)) p.evs.length p.evs).map eEvO=(p.evs.map (gmE (shF cs f))).map eEvO:=by rw [mpK_all]
  have h20:∀ i (h:i < p.evs.length),p.evs[i].stops.length≤20:=hO.n4
  rw [hM0] at hCp2
  rw [hPe] at hC hCp2 ⊢
  obtain ⟨CS,hCS⟩:∃ z,cs.map eCrs=z:=⟨_,rfl⟩
  rw [hCS] at hCp hIc hCl ⊢
  simp only [hCS] at hCr
  refine zqe Tryz.func36 Tryz.ntmps36 fun w0 F0=>?_;dsimp only [St.init,number,Nat.reduceAdd]
  repeat (first|refine WL.vl rfl (WV.nch rfl rfl) ?_|refine W.gob rfl ?_|refine WL.nil ?_|refine WL.bt rfl rfl rfl zqo ?_|refine WL.bf rfl rfl rfl zqo ?_|refine WL.nt rfl rfl rfl zqo ?_|refine WL.nf rfl rfl rfl zqo ?_|refine WL.e1 rfl ?_|refine WL.ar rfl rfl z14i ?_|refine WL.len rfl rfl rfl ?_|refine WL.ixs rfl rfl zqs ?_|refine W.condT rfl ?_|refine W.condF rfl ?_)
  (first|refine (?_:W _ _ _ _ _)|refine (?_:WL _ _ _ _ _ _)|skip)
  try dsimp only [St.put,Nat.reduceAdd]
  refine WL.vl rfl (zqc Tryz.func20 hC) ?_
  repeat (first|refine WL.vl rfl (WV.nch rfl rfl) ?_|refine W.gob rfl ?_|refine WL.nil ?_|refine WL.bt rfl rfl rfl zqo ?_|refine WL.bf rfl rfl rfl zqo ?_|refine WL.nt rfl rfl rfl zqo ?_|refine WL.nf rfl rfl rfl zqo ?_|refine WL.e1 rfl ?_|refine WL.ar rfl rfl z14i ?_|refine WL.len rfl rfl rfl ?_|refine WL.ixs rfl rfl zqs ?_|refine W.condT rfl ?_|refine W.condF rfl ?_)
  (first|refine (?_:W _ _ _ _ _)|refine (?_:WL _ _ _ _ _ _)|skip)
  try dsimp only [St.put,Nat.reduceAdd]
  refine WL.vl rfl (zqc Tryz.func74 hCp) ?_
  repeat (first|refine WL.vl rfl (WV.nch rfl rfl) ?_|refine W.gob rfl ?_|refine WL.nil ?_|refine WL.bt rfl rfl rfl zqo ?_|refine WL.bf rfl rfl rfl zqo ?_|refine WL.nt rfl rfl rfl zqo ?_|refine WL.nf rfl rfl rfl zqo ?_|refine WL.e1 rfl ?_|refine WL.ar rfl rfl z14i ?_|refine WL.len rfl rfl rfl ?_|refine WL.ixs rfl rfl zqs ?_|refine W.condT rfl ?_|refine W.condF rfl ?_)
  (first|refine (?_:W _ _ _ _ _)|refine (?_:WL _ _ _ _ _ _)|skip)
  try dsimp only [St.put,Nat.reduceAdd]
  refine WL.vl rfl (zqc Tryz.func29 hS) ?_
  repeat (first|refine WL.vl rfl (WV.nch rfl rfl) ?_|refine W.gob rfl ?_|refine WL.nil ?_|refine WL.bt rfl rfl rfl zqo ?_|refine WL.bf rfl rfl rfl zqo ?_|refine WL.nt rfl rfl rfl zqo ?_|refine WL.nf rfl rfl rfl zqo ?_|refine WL.e1 rfl ?_|refine WL.ar rfl rfl z14i ?_|refine WL.len rfl rfl rfl ?_|refine WL.ixs rfl rfl zqs ?_|refine W.condT rfl ?_|refine W.condF rfl ?_)
  (first|refine (?_:W _ _ _ _ _)|refine (?_:WL _ _ _ _ _ _)|skip)
  try dsimp only [St.put,Nat.reduceAdd]
  refine WL.cto (truH _) [] rfl rfl (callF Tryz.func15 rfl rfl) hCp2 rfl rfl rfl trivial rfl rfl rfl rfl ?_
  repeat (first|refine WL.vl rfl (WV.nch rfl rfl) ?_|refine W.gob rfl ?_|refine WL.nil ?_|refine WL.bt rfl rfl rfl zqo ?_|refine WL.bf rfl rfl rfl zqo ?_|refine WL.nt rfl rfl rfl zqo ?_|refine WL.nf rfl rfl rfl zqo ?_|refine WL.e1 rfl ?_|refine WL.ar rfl rfl z14i ?_|refine WL.len rfl rfl rfl ?_|refine WL.ixs rfl rfl zqs ?_|refine W.condT rfl ?_|refine W.condF rfl ?_)
  (first|refine (?_:W _ _ _ _ _)|refine (?_:WL _ _ _ _ _ _)|skip)
  try dsimp only [St.put,Nat.reduceAdd]
  refine WL.vl rfl (zqc Tryz.func35 hIc) ?_
  repeat (first|refine WL.vl rfl (WV.nch rfl rfl) ?_|refine W.gob rfl ?_|refine WL.nil ?_|refine WL.bt rfl rfl rfl zqo ?_|refine WL.bf rfl rfl rfl zqo ?_|refine WL.nt rfl rfl rfl zqo ?_|refine WL.nf rfl rfl rfl zqo ?_|refine WL.e1 rfl ?_|refine WL.ar rfl rfl z14i ?_|refine WL.len rfl rfl rfl ?_|refine WL.ixs rfl rfl zqs ?_|refine W.condT rfl ?_|refine W.condF rfl ?_)
  (first|refine (?_:W _ _ _ _ _)|refine (?_:WL _ _ _ _ _ _)|skip)
  try dsimp only [St.put,Nat.reduceAdd]
  refine W.loop (fun i:Nat=>i≤p.evs.length) (fun i=>⟨[(2,.sc (.int .i64 f)),(4,.pt 1 0 0),(6,.pt 2 0 0),(10,.pt 6 0 0),(11,.sc (.int .i64 i))],[(1,.box 26 [.ls 3 CS,.ls 1 (st.map eInt)]),(2,.box 29 [.sc (.slice none 0 0),.sc (.slice none 0 0),.sc (.slice none 0 0)]),(4,.rwn 45 6 ((mpK (gmE (shF cs f)) i p.evs).map eEvO)),(6,.box 29 [.ls 3 CS,.ls 1 (st.map eInt),.sl 4])],7⟩) (fun i=>p.evs.length - i) 0 (by omega) (zqt id) fun i hi=>?_
  have hl2:=hRl i
  by_cases hlt:i < p.evs.length
  ·have h1:=hat i hlt
   have h2:=hset i hlt
   have h3:=hst i hlt
   have h20:=h20 i hlt
   obtain ⟨R,hR⟩:∃ z,(mpK (gmE (shF cs f)) i p.evs).map eEvO=z:=⟨_,rfl⟩
   rw [hR] at h1 h2 hl2 ⊢
   obtain ⟨S,hS⟩:∃ z,p.evs[i].stops=z:=⟨_,rfl⟩
   simp only [hS] at h1 h2 h3 h20
   clear hat hset hst hM0 hMn hCp hCp2 hR hRl hz1 hs1 hIc
   repeat (first|refine WL.vl rfl (WV.nch rfl rfl) ?_|refine W.gob rfl ?_|refine WL.nil ?_|refine WL.bt rfl rfl rfl zqo ?_|refine WL.bf rfl rfl rfl zqo ?_|refine WL.nt rfl rfl rfl zqo ?_|refine WL.nf rfl rfl rfl zqo ?_|refine WL.e1 rfl ?_|refine WL.ar rfl rfl z14i ?_|refine WL.len rfl rfl rfl ?_|refine WL.ixs rfl rfl zqs ?_|refine W.condT rfl ?_|refine W.condF rfl ?_)
   (first|refine (?_:W _ _ _ _ _)|refine (?_:WL _ _ _ _ _ _)|skip)
   try dsimp only [St.put,Nat.reduceAdd]
   refine W.tr (Tr.open_ 4 i 5 rfl h1 rfl (eStp_own S) rfl) ?_
   dsimp only [St.upd,St.new,Nat.reduceAdd]
   have hSl:∀ k,((mpK (shF cs f) k S).map eStp).length=S.length:=fun k=>by rw [List.length_map,mpK_len]
   have hS0:S.map eStp=(mpK (shF cs f) 0 S).map eStp:=by rw [mpK_0]
   refine W.loop (fun k:Nat=>k≤S.length) (fun k=>⟨[(2,.sc (.int .i64 f)),(4,.pt 1 0 0),(6,.pt 2 0 0),(10,.pt 6 0 0),(11,.sc (.int .i64 i)),(12,.sc (.int .i64 k))],[(1,.box 26 [.ls 3 CS,.ls 1 (st.map eInt)]),(2,.box 29 [.sc (.slice none 0 0),.sc (.slice none 0 0),.sc (.slice none 0 0)]),(4,.rwo 45 6 R i 5 (.sl 7)),(6,.box 29 [.ls 3 CS,.ls 1 (st.map eInt),.sl 4]),(7,.row 48 5 ((mpK (shF cs f) k S).map eStp))],8⟩) (fun k=>S.length - k) 0 (by omega) (zqu (fun q=>q) (by repeat (first|exact trivial|refine ⟨⟨?_,?_,?_⟩,?_⟩|rfl|exact congrArg (fun q=>some (AO.row _ _ q)) hS0|exact congrArg (fun q=>some (AO.rwn _ _ q)) hS0)) rfl) fun k hk=>?_
   have hl3:=hSl k
   by_cases hkl:k < S.length
   ·have g0:=mpK_get (f:=shF cs f) hkl
    have g1:((mpK (shF cs f) k S).map eStp)[k]?=some [.sc (.int .i64 S[k].1),.sc (.int .i64 S[k].2.1),.sc (.int .i64 S[k].2.2.1),.sc (.int .i64 S[k].2.2.2.1),.sc (.int .i64 S[k].2.2.2.2)]:=by
     rw [List.getElem?_map,g0];rfl
    have g2:=congrArg (List.map eStp) (mpK_put (f:=shF cs f) hkl)
    rw [List.map_set] at g2
    obtain ⟨c1,c2⟩:=h3 k hkl
    have g3:=hCr _ c1
    have g4:shF cs f S[k]=if 0 < fretsOf cs S[k].1 then (S[k].1,S[k].2.1+f,S[k].2.2) else S[k]:=rfl
    obtain ⟨K,hK⟩:∃ z,(mpK (shF cs f) k S).map eStp=z:=⟨_,rfl⟩
    rw [hK] at g1 g2 hl3 ⊢
    obtain ⟨F,hF⟩:∃ z,fretsOf cs S[k].1=z:=⟨_,rfl⟩
    rw [hF] at g3 g4
    obtain ⟨X,hX⟩:∃ z,S[k]=z:=⟨_,rfl⟩
    rw [hX] at g1 g2 g3 g4 c1 c2
    clear g0 hK hF hX h3 hSl hS0 hCr
    by_cases hf:0 < F
    ·rw [if_pos hf] at g4
     rw [g4] at g2
     have g5:K.set k (putL 1 [.sc (.int .i64 (X.2.1+f))] [.sc (.int .i64 X.1),.sc (.int .i64 X.2.1),.sc (.int .i64 X.2.2.1),.sc (.int .i64 X.2.2.2.1),.sc (.int .i64 X.2.2.2.2)])=(mpK (shF cs f) (k+1) S).map eStp:=g2
     clear g2 g4
     repeat (first|refine WL.vl rfl (WV.nch rfl rfl) ?_|refine W.gob rfl ?_|refine WL.nil ?_|refine WL.bt rfl rfl rfl zqo ?_|refine WL.bf rfl rfl rfl zqo ?_|refine WL.nt rfl rfl rfl zqo ?_|refine WL.nf rfl rfl rfl zqo ?_|refine WL.e1 rfl ?_|refine WL.ar rfl rfl z14i ?_|refine WL.len rfl rfl rfl ?_|refine WL.ixs rfl rfl zqs ?_|refine W.condT rfl ?_|refine W.condF rfl ?_)
     (first|refine (?_:W _ _ _ _ _)|refine (?_:WL _ _ _ _ _ _)|skip)
     try dsimp only [St.put,Nat.reduceAdd]
     refine WL.ldQ rfl rfl rfl rfl h1 (by show 5 < 6;omega) ?_
     repeat (first|refine WL.vl rfl (WV.nch rfl rfl) ?_|refine W.gob rfl ?_|refine WL.nil ?_|refine WL.bt rfl rfl rfl zqo ?_|refine WL.bf rfl rfl rfl zqo ?_|refine WL.nt rfl rfl rfl zqo ?_|refine WL.nf rfl rfl rfl zqo ?_|refine WL.e1 rfl ?_|refine WL.ar rfl rfl z14i ?_|refine WL.len rfl rfl rfl ?_|refine WL.ixs rfl rfl zqs ?_|refine W.condT rfl ?_|refine W.condF rfl ?_)
     (first|refine (?_:W _ _ _ _ _)|refine (?_:WL _ _ _ _ _ _)|skip)
     try dsimp only [St.put,Nat.reduceAdd]
     refine WL.ldQ rfl rfl rfl rfl h1 (by show 5 < 6;omega) ?_
     repeat (first|refine WL.vl rfl (WV.nch rfl rfl) ?_|refine W.gob rfl ?_|refine WL.nil ?_|refine WL.bt rfl rfl rfl zqo ?_|refine WL.bf rfl rfl rfl zqo ?_|refine WL.nt rfl rfl rfl zqo ?_|refine WL.nf rfl rfl rfl zqo ?_|refine WL.e1 rfl ?_|refine WL.ar rfl rfl z14i ?_|refine WL.len rfl rfl rfl ?_|refine WL.ixs rfl rfl zqs ?_|refine W.condT rfl ?_|refine W.condF rfl ?_)
     (first|refine (?_:W _ _ _ _ _)|refine (?_:WL _ _ _ _ _ _)|skip)
     try dsimp only [St.put,Nat.reduceAdd]
     refine W.drawK zqk zqk ?_
     repeat (first|refine DK.vl rfl (WV.nch rfl rfl) ?_|refine DK.bt rfl rfl zqo ?_|refine DK.bf rfl rfl zqo ?_|refine DK.st rfl ?_|refine DK.ar rfl rfl z14i ?_|refine DK.nil ?_)
     refine DK.ldr rfl rfl g1 rfl rfl ?_
     repeat (first|refine DK.vl rfl (WV.nch rfl rfl) ?_|refine DK.bt rfl rfl zqo ?_|refine DK.bf rfl rfl zqo ?_|refine DK.st rfl ?_|refine DK.ar rfl rfl z14i ?_|refine DK.nil ?_)
     refine DK.idx rfl rfl zqo g3 ?_
     repeat (first|refine DK.vl rfl (WV.nch rfl rfl) ?_|refine DK.bt rfl rfl zqo ?_|refine DK.bf rfl rfl zqo ?_|refine DK.st rfl ?_|refine DK.ar rfl rfl z14i ?_|refine DK.nil ?_)
     repeat (first|refine WL.vl rfl (WV.nch rfl rfl) ?_|refine W.gob rfl ?_|refine WL.nil ?_|refine WL.bt rfl rfl rfl zqo ?_|refine WL.bf rfl rfl rfl zqo ?_|refine WL.nt rfl rfl rfl zqo ?_|refine WL.nf rfl rfl rfl zqo ?_|refine WL.e1 rfl ?_|refine WL.ar rfl rfl z14i ?_|refine WL.len rfl rfl rfl ?_|refine WL.ixs rfl rfl zqs ?_|refine W.condT rfl ?_|refine W.condF rfl ?_)
     (first|refine (?_:W _ _ _ _ _)|refine (?_:WL _ _ _ _ _ _)|skip)
     try dsimp only [St.put,Nat.reduceAdd]
     refine WL.ldr rfl rfl g1 rfl rfl ?_
     repeat (first|refine WL.vl rfl (WV.nch rfl rfl) ?_|refine W.gob rfl ?_|refine WL.nil ?_|refine WL.bt rfl rfl rfl zqo ?_|refine WL.bf rfl rfl rfl zqo ?_|refine WL.nt rfl rfl rfl zqo ?_|refine WL.nf rfl rfl rfl zqo ?_|refine WL.e1 rfl ?_|refine WL.ar rfl rfl z14i ?_|refine WL.len rfl rfl rfl ?_|refine WL.ixs rfl rfl zqs ?_|refine W.condT rfl ?_|refine W.condF rfl ?_)
     (first|refine (?_:W _ _ _ _ _)|refine (?_:WL _ _ _ _ _ _)|skip)
     try dsimp only [St.put,Nat.reduceAdd]
     refine WL.sto rfl rfl rfl rfl g1 (by show 1+1≤5;omega) ?_
     repeat (first|refine WL.vl rfl (WV.nch rfl rfl) ?_|refine W.gob rfl ?_|refine WL.nil ?_|refine WL.bt rfl rfl rfl zqo ?_|refine WL.bf rfl rfl rfl zqo ?_|refine WL.nt rfl rfl rfl zqo ?_|refine WL.nf rfl rfl rfl zqo ?_|refine WL.e1 rfl ?_|refine WL.ar rfl rfl z14i ?_|refine WL.len rfl rfl rfl ?_|refine WL.ixs rfl rfl zqs ?_|refine W.condT rfl ?_|refine W.condF rfl ?_)
     (first|refine (?_:W _ _ _ _ _)|refine (?_:WL _ _ _ _ _ _)|skip)
     try dsimp only [St.put,Nat.reduceAdd]
     exact ⟨k+1,by omega,by omega,(zqu (fun q=>q) (by repeat (first|exact trivial|refine ⟨⟨?_,?_,?_⟩,?_⟩|rfl|exact congrArg (fun q=>some (AO.row _ _ q)) g5|exact congrArg (fun q=>some (AO.rwn _ _ q)) g5)) rfl)⟩
    ·rw [if_neg hf] at g4
     rw [g4] at g2
     have g5:K=(mpK (shF cs f) (k+1) S).map eStp:=by
      rw [← g2]
      obtain ⟨hl,e⟩:=List.getElem?_eq_some_iff.1 g1
      exact (by rw [show eStp X=K[k] from e.symm,List.set_getElem_self]:K.set k (eStp X)=K).symm
     clear g2 g4
     repeat (first|refine WL.vl rfl (WV.nch rfl rfl) ?_|refine W.gob rfl ?_|refine WL.nil ?_|refine WL.bt rfl rfl rfl zqo ?_|refine WL.bf rfl rfl rfl zqo ?_|refine WL.nt rfl rfl rfl zqo ?_|refine WL.nf rfl rfl rfl zqo ?_|refine WL.e1 rfl ?_|refine WL.ar rfl rfl z14i ?_|refine WL.len rfl rfl rfl ?_|refine WL.ixs rfl rfl zqs ?_|refine W.condT rfl ?_|refine W.condF rfl ?_)
     (first|refine (?_:W _ _ _ _ _)|refine (?_:WL _ _ _ _ _ _)|skip)
     try dsimp only [St.put,Nat.reduceAdd]
     refine WL.ldQ rfl rfl rfl rfl h1 (by show 5 < 6;omega) ?_
     repeat (first|refine WL.vl rfl (WV.nch rfl rfl) ?_|refine W.gob rfl ?_|refine WL.nil ?_|refine WL.bt rfl rfl rfl zqo ?_|refine WL.bf rfl rfl rfl zqo ?_|refine WL.nt rfl rfl rfl zqo ?_|refine WL.nf rfl rfl rfl zqo ?_|refine WL.e1 rfl ?_|refine WL.ar rfl rfl z14i ?_|refine WL.len rfl rfl rfl ?_|refine WL.ixs rfl rfl zqs ?_|refine W.condT rfl ?_|refine W.condF rfl ?_)
     (first|refine (?_:W _ _ _ _ _)|refine (?_:WL _ _ _ _ _ _)|skip)
     try dsimp only [St.put,Nat.reduceAdd]
     refine WL.ldQ rfl rfl rfl rfl h1 (by show 5 < 6;omega) ?_
     repeat (first|refine WL.vl rfl (WV.nch rfl rfl) ?_|refine W.gob rfl ?_|refine WL.nil ?_|refine WL.bt rfl rfl rfl zqo ?_|refine WL.bf rfl rfl rfl zqo ?_|refine WL.nt rfl rfl rfl zqo ?_|refine WL.nf rfl rfl rfl zqo ?_|refine WL.e1 rfl ?_|refine WL.ar rfl rfl z14i ?_|refine WL.len rfl rfl rfl ?_|refine WL.ixs rfl rfl zqs ?_|refine W.condT rfl ?_|refine W.condF rfl ?_)
     (first|refine (?_:W _ _ _ _ _)|refine (?_:WL _ _ _ _ _ _)|skip)
     try dsimp only [St.put,Nat.reduceAdd]
     refine W.drawK zqk zqk ?_
     repeat (first|refine DK.vl rfl (WV.nch rfl rfl) ?_|refine DK.bt rfl rfl zqo ?_|refine DK.bf rfl rfl zqo ?_|refine DK.st rfl ?_|refine DK.ar rfl rfl z14i ?_|refine DK.nil ?_)
     refine DK.ldr rfl rfl g1 rfl rfl ?_
     repeat (first|refine DK.vl rfl (WV.nch rfl rfl) ?_|refine DK.bt rfl rfl zqo ?_|refine DK.bf rfl rfl zqo ?_|refine DK.st rfl ?_|refine DK.ar rfl rfl z14i ?_|refine DK.nil ?_)
     refine DK.idx rfl rfl zqo g3 ?_
     repeat (first|refine DK.vl rfl (WV.nch rfl rfl) ?_|refine DK.bt rfl rfl zqo ?_|refine DK.bf rfl rfl zqo ?_|refine DK.st rfl ?_|refine DK.ar rfl rfl z14i ?_|refine DK.nil ?_)
     repeat (first|refine WL.vl rfl (WV.nch rfl rfl) ?_|refine W.gob rfl ?_|refine WL.nil ?_|refine WL.bt rfl rfl rfl zqo ?_|refine WL.bf rfl rfl rfl zqo ?_|refine WL.nt rfl rfl rfl zqo ?_|refine WL.nf rfl rfl rfl zqo ?_|refine WL.e1 rfl ?_|refine WL.ar rfl rfl z14i ?_|refine WL.len rfl rfl rfl ?_|refine WL.ixs rfl rfl zqs ?_|refine W.condT rfl ?_|refine W.condF rfl ?_)
     (first|refine (?_:W _ _ _ _ _)|refine (?_:WL _ _ _ _ _ _)|skip)
     try dsimp only [St.put,Nat.reduceAdd]
     exact ⟨k+1,by omega,by omega,(zqu (fun q=>q) (by repeat (first|exact trivial|refine ⟨⟨?_,?_,?_⟩,?_⟩|rfl|exact congrArg (fun q=>some (AO.row _ _ q)) g5|exact congrArg (fun q=>some (AO.rwn _ _ q)) g5)) rfl)⟩
   ·obtain rfl:k=S.length:=by omega
    repeat (first|refine WL.vl rfl (WV.nch rfl rfl) ?_|refine W.gob rfl ?_|refine WL.nil ?_|refine WL.bt rfl rfl rfl zqo ?_|refine WL.bf rfl rfl rfl zqo ?_|refine WL.nt rfl rfl rfl zqo ?_|refine WL.nf rfl rfl rfl zqo ?_|refine WL.e1 rfl ?_|refine WL.ar rfl rfl z14i ?_|refine WL.len rfl rfl rfl ?_|refine WL.ixs rfl rfl zqs ?_|refine W.condT rfl ?_|refine W.condF rfl ?_)
    (first|refine (?_:W _ _ _ _ _)|refine (?_:WL _ _ _ _ _ _)|skip)
    try dsimp only [St.put,Nat.reduceAdd]
    refine WL.ldQ rfl rfl rfl rfl h1 (by show 5 < 6;omega) ?_
    repeat (first|refine WL.vl rfl (WV.nch rfl rfl) ?_|refine W.gob rfl ?_|refine WL.nil ?_|refine WL.bt rfl rfl rfl zqo ?_|refine WL.bf rfl rfl rfl zqo ?_|refine WL.nt rfl rfl rfl zqo ?_|refine WL.nf rfl rfl rfl zqo ?_|refine WL.e1 rfl ?_|refine WL.ar rfl rfl z14i ?_|refine WL.len rfl rfl rfl ?_|refine WL.ixs rfl rfl zqs ?_|refine W.condT rfl ?_|refine W.condF rfl ?_)
    (first|refine (?_:W _ _ _ _ _)|refine (?_:WL _ _ _ _ _ _)|skip)
    try dsimp only [St.put,Nat.reduceAdd]
    refine ⟨i+1,by omega,by omega,?_⟩
    refine Tr.trans (Tr.close_ 4 rfl rfl rfl h1 (by show 5 < 6;omega) h2) ?_
    exact (zqt id)
  ·obtain rfl:i=p.evs.length:=by omega
   rw [hMn] at hl2 ⊢
   repeat (first|refine WL.vl rfl (WV.nch rfl rfl) ?_|refine W.gob rfl ?_|refine WL.nil ?_|refine WL.bt rfl rfl rfl zqo ?_|refine WL.bf rfl rfl rfl zqo ?_|refine WL.nt rfl rfl rfl zqo ?_|refine WL.nf rfl rfl rfl zqo ?_|refine WL.e1 rfl ?_|refine WL.ar rfl rfl z14i ?_|refine WL.len rfl rfl rfl ?_|refine WL.ixs rfl rfl zqs ?_|refine W.condT rfl ?_|refine W.condF rfl ?_)
   (first|refine (?_:W _ _ _ _ _)|refine (?_:WL _ _ _ _ _ _)|skip)
   try dsimp only [St.put,Nat.reduceAdd]
   refine W.tr (Tr.freezeW 4 1 rfl hs1 hz1) ?_
   exact W.ret (finN rfl rfl rfl rfl)
end
section
open Go.RowKit
theorem smallL_FS (p:Pce):Ctr Tryz.prog 13 [ePce p] (.sc (.bool (!longB p))):=by
 refine zqe Tryz.func13 Tryz.ntmps13 fun w0 F0=>?_;dsimp only [St.init,number,Nat.reduceAdd]
 repeat (first|refine W.go rfl ?_|refine WL.ev rfl ?_)
 (first|refine (?_:W _ _ _ _ _)|refine (?_:WL _ _ _ _ _ _)|skip)
 try dsimp only [St.put,Nat.reduceAdd]
 refine WL.vl rfl (WV.call rfl (callF Tryz.func43 rfl rfl) rfl rfl (long_FS p)) ?_
 repeat (first|refine W.go rfl ?_|refine WL.ev rfl ?_)
 (first|refine (?_:W _ _ _ _ _)|refine (?_:WL _ _ _ _ _ _)|skip)
 try dsimp only [St.put,Nat.reduceAdd]
 exact W.ret zqr
theorem noP_okL:PcOk noP:=⟨by decide,by decide,by decide,fun k hk=>by cases hk⟩
theorem rlP_ok {p:Pce} {cs:List (Int×Int×Bool)} {st:List Int} {f:Int} (hO:PcOk p)(h1:cs.length≤64)(h2:st.length≤64):PcOk (rlP p cs st f):=by
 unfold rlP
 split
 ·exact gm_ok hO h1 h2
 ·exact noP_okL
theorem releases_FS (p:Pce) (cs:List (Int×Int×Bool)) (st:List Int) (f:Int):Ctr Tryz.prog 8 [ePce p,.ag (eIns cs st),.sc (.int .i64 f)] (.sc (.bool true)):=by
 show Ctr Tryz.prog 8 [ePce p,.ag [.ls 3 (cs.map eCrs),.ls 1 (st.map eInt)],.sc (.int .i64 f)] (.sc (.bool true))
 have hS:=smallL_FS p
 have hCl:(cs.map eCrs).length=cs.length:=List.length_map _
 have hSl:(st.map eInt).length=st.length:=List.length_map _
 by_cases hl:longB p=true
 ·rw [hl] at hS
  refine zqe Tryz.func8 Tryz.ntmps8 fun w0 F0=>?_;dsimp only [St.init,number,Nat.reduceAdd]
  repeat (first|refine WL.vl rfl (WV.nch rfl rfl) ?_|refine W.gob rfl ?_|refine WL.nil ?_|refine WL.bt rfl rfl rfl zqo ?_|refine WL.bf rfl rfl rfl zqo ?_|refine WL.e1 rfl ?_|refine WL.gyes rfl rfl rfl rfl ?_|refine WL.opno rfl rfl rfl rfl rfl rfl rfl ?_|refine WL.len rfl rfl rfl ?_|refine W.condT rfl ?_|refine W.condF rfl ?_)
  (first|refine (?_:W _ _ _ _ _)|refine (?_:WL _ _ _ _ _ _)|skip)
  try dsimp only [St.put,Nat.reduceAdd]
  refine WL.vl rfl (zqc Tryz.func13 hS) ?_
  repeat (first|refine WL.vl rfl (WV.nch rfl rfl) ?_|refine W.gob rfl ?_|refine WL.nil ?_|refine WL.bt rfl rfl rfl zqo ?_|refine WL.bf rfl rfl rfl zqo ?_|refine WL.e1 rfl ?_|refine WL.gyes rfl rfl rfl rfl ?_|refine WL.opno rfl rfl rfl rfl rfl rfl rfl ?_|refine WL.len rfl rfl rfl ?_|refine W.condT rfl ?_|refine W.condF rfl ?_)
  (first|refine (?_:W _ _ _ _ _)|refine (?_:WL _ _ _ _ _ _)|skip)
  try dsimp only [St.put,Nat.reduceAdd]
  refine WL.vl rfl (zqc Tryz.func14 works04_FS) ?_
  repeat (first|refine WL.vl rfl (WV.nch rfl rfl) ?_|refine W.gob rfl ?_|refine WL.nil ?_|refine WL.bt rfl rfl rfl zqo ?_|refine WL.bf rfl rfl rfl zqo ?_|refine WL.e1 rfl ?_|refine WL.gyes rfl rfl rfl rfl ?_|refine WL.opno rfl rfl rfl rfl rfl rfl rfl ?_|refine WL.len rfl rfl rfl ?_|refine W.condT rfl ?_|refine W.condF rfl ?_)
  (first|refine (?_:W _ _ _ _ _)|refine (?_:WL _ _ _ _ _ _)|skip)
  try dsimp only [St.put,Nat.reduceAdd]
  exact W.ret zqr
 have hl:longB p=false:=by simpa using hl
 have hO:=pcOk_of3 hl
 rw [hl] at hS
 by_cases hbg:64 < cs.length∨(¬ 64 < cs.length∧64 < st.length)
 ·obtain ⟨CS,hCS⟩:∃ z,cs.map eCrs=z:=⟨_,rfl⟩
  obtain ⟨ST,hST⟩:∃ z,st.map eInt=z:=⟨_,rfl⟩
  rw [hCS] at hCl ⊢
  rw [hST] at hSl ⊢
  rcases hbg with hbg|hbg
  all_goals
   refine zqe Tryz.func8 Tryz.ntmps8 fun w0 F0=>?_;dsimp only [St.init,number,Nat.reduceAdd]
   repeat (first|refine WL.vl rfl (WV.nch rfl rfl) ?_|refine W.gob rfl ?_|refine WL.nil ?_|refine WL.bt rfl rfl rfl zqo ?_|refine WL.bf rfl rfl rfl zqo ?_|refine WL.e1 rfl ?_|refine WL.gyes rfl rfl rfl rfl ?_|refine WL.opno rfl rfl rfl rfl rfl rfl rfl ?_|refine WL.len rfl rfl rfl ?_|refine W.condT rfl ?_|refine W.condF rfl ?_)
   (first|refine (?_:W _ _ _ _ _)|refine (?_:WL _ _ _ _ _ _)|skip)
   try dsimp only [St.put,Nat.reduceAdd]
   refine WL.vl rfl (zqc Tryz.func13 hS) ?_
   repeat (first|refine WL.vl rfl (WV.nch rfl rfl) ?_|refine W.gob rfl ?_|refine WL.nil ?_|refine WL.bt rfl rfl rfl zqo ?_|refine WL.bf rfl rfl rfl zqo ?_|refine WL.e1 rfl ?_|refine WL.gyes rfl rfl rfl rfl ?_|refine WL.opno rfl rfl rfl rfl rfl rfl rfl ?_|refine WL.len rfl rfl rfl ?_|refine W.condT rfl ?_|refine W.condF rfl ?_)
   (first|refine (?_:W _ _ _ _ _)|refine (?_:WL _ _ _ _ _ _)|skip)
   try dsimp only [St.put,Nat.reduceAdd]
   refine WL.vl rfl (zqc Tryz.func14 works04_FS) ?_
   repeat (first|refine WL.vl rfl (WV.nch rfl rfl) ?_|refine W.gob rfl ?_|refine WL.nil ?_|refine WL.bt rfl rfl rfl zqo ?_|refine WL.bf rfl rfl rfl zqo ?_|refine WL.e1 rfl ?_|refine WL.gyes rfl rfl rfl rfl ?_|refine WL.opno rfl rfl rfl rfl rfl rfl rfl ?_|refine WL.len rfl rfl rfl ?_|refine W.condT rfl ?_|refine W.condF rfl ?_)
   (first|refine (?_:W _ _ _ _ _)|refine (?_:WL _ _ _ _ _ _)|skip)
   try dsimp only [St.put,Nat.reduceAdd]
   exact W.ret zqr
 have hc1:cs.length≤64:=by omega
 have hc2:st.length≤64:=by omega
 have h1:=pRelease_FS p hO cs st f hc1 hc2
 have h2:=rRelease_FS p hO cs st f hc1 hc2
 have h3:=same_FS (rlP p cs st f) (rlP_ok hO hc1 hc2)
 have h6:=pcCopy_FS p hO
 have h7:=insCopy_FS cs st hc1 hc2
 have h7:Ctr Tryz.prog 35 [.ag [.ls 3 (cs.map eCrs),.ls 1 (st.map eInt)]] (.ag [.ls 3 (cs.map eCrs),.ls 1 (st.map eInt)]):=h7
 obtain ⟨E,hE⟩:∃ z,rlX p cs st f=z:=⟨_,rfl⟩
 rw [hE] at h1 h2
 obtain ⟨R,hR⟩:∃ z,ePce (rlP p cs st f)=z:=⟨_,rfl⟩
 have hRe:R=.ag [.ls 3 ((rlP p cs st f).cs.map eCrs),.ls 1 ((rlP p cs st f).st.map eInt),.ls 6 ((rlP p cs st f).evs.map eEv)]:=hR.symm
 rw [hR] at h1 h2 h3
 rw [hRe] at h1 h2 h3
 have hPe:ePce p=.ag [.ls 3 (p.cs.map eCrs),.ls 1 (p.st.map eInt),.ls 6 (p.evs.map eEv)]:=rfl
 rw [hPe] at hS h1 h2 h6 ⊢
 obtain ⟨CS,hCS⟩:∃ z,cs.map eCrs=z:=⟨_,rfl⟩
 obtain ⟨ST,hST⟩:∃ z,st.map eInt=z:=⟨_,rfl⟩
 rw [hCS] at hCl h1 h2 h7 ⊢
 rw [hST] at hSl h1 h2 h7 ⊢
 clear hR hRe hPe
 refine zqe Tryz.func8 Tryz.ntmps8 fun w0 F0=>?_;dsimp only [St.init,number,Nat.reduceAdd]
 repeat (first|refine WL.vl rfl (WV.nch rfl rfl) ?_|refine W.gob rfl ?_|refine WL.nil ?_|refine WL.bt rfl rfl rfl zqo ?_|refine WL.bf rfl rfl rfl zqo ?_|refine WL.e1 rfl ?_|refine WL.gyes rfl rfl rfl rfl ?_|refine WL.opno rfl rfl rfl rfl rfl rfl rfl ?_|refine WL.len rfl rfl rfl ?_|refine W.condT rfl ?_|refine W.condF rfl ?_)
 (first|refine (?_:W _ _ _ _ _)|refine (?_:WL _ _ _ _ _ _)|skip)
 try dsimp only [St.put,Nat.reduceAdd]
 refine WL.vl rfl (zqc Tryz.func13 hS) ?_
 repeat (first|refine WL.vl rfl (WV.nch rfl rfl) ?_|refine W.gob rfl ?_|refine WL.nil ?_|refine WL.bt rfl rfl rfl zqo ?_|refine WL.bf rfl rfl rfl zqo ?_|refine WL.e1 rfl ?_|refine WL.gyes rfl rfl rfl rfl ?_|refine WL.opno rfl rfl rfl rfl rfl rfl rfl ?_|refine WL.len rfl rfl rfl ?_|refine W.condT rfl ?_|refine W.condF rfl ?_)
 (first|refine (?_:W _ _ _ _ _)|refine (?_:WL _ _ _ _ _ _)|skip)
 try dsimp only [St.put,Nat.reduceAdd]
 refine W.of_wa zqk ?_
 refine WA.dt [false,false,false,false,false,false,false,false,false,true,true,false] [0,1] [0,1] 10 zqk zqk zqk ⟨rfl,rfl,trivial⟩ ⟨rfl,rfl,trivial⟩ ?_
 refine DTK.v0 rfl (stepV_of rfl rfl) ?_
 refine DTK.v0 rfl (zqc Tryz.func15 h6) ?_
 refine DTK.v0 rfl (stepV_of rfl rfl) ?_
 refine DTK.v0 rfl (zqc Tryz.func35 h7) ?_
 refine DTK.v0 rfl (stepV_of rfl rfl) ?_
 refine DTK.v0 rfl (zqc Tryz.func34 h1) ?_
 refine DTK.v0 rfl (stepV_of rfl rfl) ?_
 refine DTK.v0 rfl (stepV_of rfl rfl) ?_
 refine DTK.v0 rfl (stepV_of rfl rfl) ?_
 refine DTK.al rfl rfl rfl rfl ⟨rfl,rfl,trivial⟩ (fun _=>⟨rfl,rfl,trivial⟩) ?_
 refine DTK.sto rfl rfl rfl rfl rfl rfl rfl rfl rfl rfl rfl rfl rfl rfl ⟨rfl,rfl,trivial⟩ (fun h=>by cases h) ?_
 refine DTK.v0 rfl (stepV_of rfl rfl) ?_
 refine DTK.nil ?_
 repeat (first|refine WL.vl rfl (WV.nch rfl rfl) ?_|refine W.gob rfl ?_|refine WL.nil ?_|refine WL.bt rfl rfl rfl zqo ?_|refine WL.bf rfl rfl rfl zqo ?_|refine WL.e1 rfl ?_|refine WL.gyes rfl rfl rfl rfl ?_|refine WL.opno rfl rfl rfl rfl rfl rfl rfl ?_|refine WL.len rfl rfl rfl ?_|refine W.condT rfl ?_|refine W.condF rfl ?_)
 (first|refine (?_:W _ _ _ _ _)|refine (?_:WL _ _ _ _ _ _)|skip)
 try dsimp only [St.put,Nat.reduceAdd]
 refine WL.vl rfl (zqc Tryz.func36 h2) ?_
 repeat (first|refine WL.vl rfl (WV.nch rfl rfl) ?_|refine W.gob rfl ?_|refine WL.nil ?_|refine WL.bt rfl rfl rfl zqo ?_|refine WL.bf rfl rfl rfl zqo ?_|refine WL.e1 rfl ?_|refine WL.gyes rfl rfl rfl rfl ?_|refine WL.opno rfl rfl rfl rfl rfl rfl rfl ?_|refine WL.len rfl rfl rfl ?_|refine W.condT rfl ?_|refine W.condF rfl ?_)
 (first|refine (?_:W _ _ _ _ _)|refine (?_:WL _ _ _ _ _ _)|skip)
 try dsimp only [St.put,Nat.reduceAdd]
 refine WL.vl rfl (zqc Tryz.func18 h3) ?_
 repeat (first|refine WL.vl rfl (WV.nch rfl rfl) ?_|refine W.gob rfl ?_|refine WL.nil ?_|refine WL.bt rfl rfl rfl zqo ?_|refine WL.bf rfl rfl rfl zqo ?_|refine WL.e1 rfl ?_|refine WL.gyes rfl rfl rfl rfl ?_|refine WL.opno rfl rfl rfl rfl rfl rfl rfl ?_|refine WL.len rfl rfl rfl ?_|refine W.condT rfl ?_|refine W.condF rfl ?_)
 (first|refine (?_:W _ _ _ _ _)|refine (?_:WL _ _ _ _ _ _)|skip)
 try dsimp only [St.put,Nat.reduceAdd]
 refine WL.vl rfl (zqc Tryz.func14 works04_FS) ?_
 repeat (first|refine WL.vl rfl (WV.nch rfl rfl) ?_|refine W.gob rfl ?_|refine WL.nil ?_|refine WL.bt rfl rfl rfl zqo ?_|refine WL.bf rfl rfl rfl zqo ?_|refine WL.e1 rfl ?_|refine WL.gyes rfl rfl rfl rfl ?_|refine WL.opno rfl rfl rfl rfl rfl rfl rfl ?_|refine WL.len rfl rfl rfl ?_|refine W.condT rfl ?_|refine W.condF rfl ?_)
 (first|refine (?_:W _ _ _ _ _)|refine (?_:WL _ _ _ _ _ _)|skip)
 try dsimp only [St.put,Nat.reduceAdd]
 exact W.ret zqr
theorem releases_walk (p:Pce) (v:Value) (cs:List (Int×Int×Bool)) (st:List Int) (v2:Value) (f:Int) (w:World) (h:RP (fun q=>w.cell? q) (ePce p) v) (h2:RP (fun q=>w.cell? q) (.ag (eIns cs st)) v2):Calls Tryz.prog 8 #[v,v2,.int .i64 f] w (Ret (.bool true) w):=by
 refine (releases_FS p cs st f w (fun q=>w.cell? q) [v,v2,.int .i64 f] (fun _ _ h=>h) ⟨rfl,fun i av u a b=>?_⟩).mono fun e w' ⟨u,F',he,hb,_,_,_,hr⟩=>⟨?_,hb⟩
 ·match i with
  | 0=>cases a;cases b;exact h
  | 1=>cases a;cases b;exact h2
  | 2=>cases a;cases b;exact .sc _
  | i+3=>simp at a
 ·rw [he,hr.sc_eq]
end
end Go.Proofs.YtaeelcfjkhfpkaaGreat
