/- ConveyCapos: the walk. -/
import Derived.Test.YtaeelcfjkhfpkaaGreatZ4Tq
import Derived.Test.YtaeelcfjkhfpkaaGreatEOTq
set_option maxHeartbeats 8000000
set_option maxRecDepth 100000
set_option linter.unusedVariables false
set_option linter.unusedSimpArgs false
namespace Go.Proofs.YtaeelcfjkhfpkaaGreat
section
open Go.RowKit
theorem z22i {z:Int} (h:I64 z:=by unfold I64;omega):I64 z:=h
theorem capC_ch (cs:List (Int×Int×Bool))(f:Int)(x:Stp):((capC cs f).ch x).1.1=x.1∧((capC cs f).ch x).1.2.2=x.2.2:=⟨rfl,rfl⟩
theorem rCapo_FS (p:Pce) (hO:PcOk p) (f:Int):Ctr Tryz.prog 24 [ePce p,.sc (.int .i64 f)] (.tu [ePce (capP p f),.ls 3 ((capL p f).map eLk),.sc (.int .i64 (capE p f))]):=by
 have hC:=rCheck_FS p hO
 have hPe:ePce p=.ag [.ls 3 (p.cs.map eCrs),.ls 1 (p.st.map eInt),.ls 6 (p.evs.map eEv)]:=rfl
 have hbad:capE p f≠0→ePce (capP p f)=.ag [.ls 3 [],.ls 1 [],.ls 6 []]∧capL p f=[]:=fun h=>⟨by rw [show capP p f=noP from if_neg h];rfl,if_neg h⟩
 have hI:=rCapI_FS p.cs p.st f
 by_cases h0:pceE p=0
 rotate_left
 ·have e:capE p f=pceE p:=if_pos h0
  obtain ⟨e1,e2⟩:=hbad (by rw [e];exact h0)
  rw [e1,e2,e]
  obtain ⟨E,hE⟩:∃ z,pceE p=z:=⟨_,rfl⟩
  rw [hE] at hC h0 ⊢
  rw [hPe] at hC ⊢
  refine zqe Tryz.func24 Tryz.ntmps24 fun w0 F0=>?_;dsimp only [St.init,number,Nat.reduceAdd]
  repeat refine W.go rfl ?_
  refine (?_:WL _ _ _ _ _ _)
  refine WL.vl rfl (zqc Tryz.func20 hC) ?_
  repeat (first|refine W.gob rfl ?_|refine WL.nil ?_|refine WL.nt rfl rfl rfl zqo ?_|refine WL.e1 rfl ?_|refine W.condT rfl ?_)
  refine (?_:W _ _ _ _ _)
  refine W.tr (Tr.nilC 1 0 3 rfl rfl rfl) ?_
  refine W.tr (Tr.nilC 1 1 1 rfl rfl rfl) ?_
  refine W.tr (Tr.nilC 1 2 6 rfl rfl rfl) ?_
  refine W.tr (Tr.nilLs (t:=5) 3 rfl) ?_
  exact W.ret (finN rfl rfl rfl rfl)
 rw [h0] at hC
 have e:capE p f=cpX p.cs p.st f:=if_neg (fun h=>h h0)
 by_cases hx:cpX p.cs p.st f=0
 rotate_left
 ·obtain ⟨e1,e2⟩:=hbad (by rw [e];exact hx)
  rw [e1,e2,e]
  obtain ⟨E,hE⟩:∃ z,cpX p.cs p.st f=z:=⟨_,rfl⟩
  rw [hE] at hI hx ⊢
  rw [hPe] at hC ⊢
  refine zqe Tryz.func24 Tryz.ntmps24 fun w0 F0=>?_;dsimp only [St.init,number,Nat.reduceAdd]
  repeat refine W.go rfl ?_
  refine (?_:WL _ _ _ _ _ _)
  refine WL.vl rfl (zqc Tryz.func20 hC) ?_
  repeat (first|refine W.gob rfl ?_|refine WL.nil ?_|refine WL.nf rfl rfl rfl zqo ?_|refine WL.e1 rfl ?_|refine W.condF rfl ?_)
  refine (?_:WL _ _ _ _ _ _)
  refine WL.vl rfl (zqc Tryz.func74 hI) ?_
  repeat (first|refine W.gob rfl ?_|refine WL.nil ?_|refine WL.nt rfl rfl rfl zqo ?_|refine WL.e1 rfl ?_|refine W.condT rfl ?_)
  refine (?_:W _ _ _ _ _)
  refine W.tr (Tr.nilC 1 0 3 rfl rfl rfl) ?_
  refine W.tr (Tr.nilC 1 1 1 rfl rfl rfl) ?_
  refine W.tr (Tr.nilC 1 2 6 rfl rfl rfl) ?_
  refine W.tr (Tr.nilLs (t:=5) 3 rfl) ?_
  exact W.ret (finN rfl rfl rfl rfl)
 have hb:=cp_bd hx
 have hc1:(cpCs p.cs p.st f).length≤64:=by
  unfold cpCs;rw [if_pos hx];split
  ·exact hO.n1
  ·rw [List.length_map];exact hO.n1
 have hs1:(cpSt p.cs p.st f).length≤64:=by
  unfold cpSt;rw [if_pos hx];split
  ·exact hO.n2
  ·rw [List.length_map,List.length_drop];have:=hO.n2;omega
 have h400:p.evs.length≤400:=(pceE_zero h0).2.1
 have hBg:=bg_G p hO (cpCs p.cs p.st f) (cpSt p.cs p.st f) hc1 hs1
 rw [show p.evs.map bgE=ptL (capC p.cs f) p.evs 0 0 from (ptL_0 _ _).symm,show (p.evs.map fun _=>([]:List Stp))=kpL (capC p.cs f) p.evs 0 0 from (kpL_0 _ _).symm] at hBg
 have hAs:∀ k (hk:k < p.evs.length),p.evs[k].stops.Pairwise fun x y=>x.1 < y.1:=fun k hk=>(evOk_of h0 hk).asc
 have hSt:=settle_G (capC p.cs f) (capC_mvd p.cs f) p hO (fun e he=>by
  obtain ⟨i,hi,rfl⟩:=List.getElem_of_mem he
  exact hAs i hi) h400 (cpCs p.cs p.st f) (cpSt p.cs p.st f) hc1 hs1
 have e1:ePce (capP p f)=ePce ⟨cpCs p.cs p.st f,cpSt p.cs p.st f,fnL (ftH (capN p f)) (capN p f)⟩:=by rw [show capP p f=_ from if_pos (e.trans hx)]
 have e2:capL p f=lsL (capC p.cs f) (ftH (capN p f)) p.evs p.evs.length:=if_pos (e.trans hx)
 rw [e1,e2,e,hx]
 rw [hx] at hI
 have hput:=fun i k (hi:i < p.evs.length) (hk:k < p.evs[i].stops.length) hl=>put_step (capC p.cs f) (capC_ch p.cs f) (cpCs p.cs p.st f) (cpSt p.cs p.st f) p.evs zqo i k hi hk (hAs i hi) (hO.n4 i hi) hl
 unfold capN
 obtain ⟨R,hR⟩:∃ z,ePce ⟨cpCs p.cs p.st f,cpSt p.cs p.st f,fnL (ftH (nwL (capC p.cs f) p.evs)) (nwL (capC p.cs f) p.evs)⟩=z:=⟨_,rfl⟩
 have hRe:R=.ag [.ls 3 ((cpCs p.cs p.st f).map eCrs),.ls 1 ((cpSt p.cs p.st f).map eInt),.ls 6 ((fnL (ftH (nwL (capC p.cs f) p.evs)) (nwL (capC p.cs f) p.evs)).map eEv)]:=hR.symm
 rw [hR] at hSt ⊢
 rw [hRe] at hSt ⊢
 clear hR hRe e1 e2 e
 unfold mvB at hSt hput
 obtain ⟨RE,hRE⟩:∃ z,(fnL (ftH (nwL (capC p.cs f) p.evs)) (nwL (capC p.cs f) p.evs)).map eEv=z:=⟨_,rfl⟩
 obtain ⟨RL,hRL⟩:∃ z,(lsL (capC p.cs f) (ftH (nwL (capC p.cs f) p.evs)) p.evs p.evs.length).map eLk=z:=⟨_,rfl⟩
 obtain ⟨RC,hRC⟩:∃ z,(cpCs p.cs p.st f).map eCrs=z:=⟨_,rfl⟩
 obtain ⟨RS,hRS⟩:∃ z,(cpSt p.cs p.st f).map eInt=z:=⟨_,rfl⟩
 rw [hRE,hRL,hRC,hRS] at hSt
 rw [hRE,hRL,hRC,hRS]
 rw [hRC,hRS] at hBg hI hput
 have hStp:∀ i (hi:i < p.evs.length) k (hk:k < p.evs[i].stops.length),((1≤p.evs[i].stops[k].1∧p.evs[i].stops[k].1≤p.cs.length)∧0≤p.evs[i].stops[k].2.1)∧p.evs[i].stops[k].2.1≤18:=fun i hi k hk=>by
  have hS:=(evOk_of h0 hi).stops _ (List.getElem_mem hk)
  exact ⟨⟨hS.crs,hS.fret.1⟩,hS.f18⟩
 rw [hPe] at hC hBg hSt ⊢
 have hcl:p.cs.length≤64:=hO.n1
 have hCl:(p.cs.map eCrs).length=p.cs.length:=List.length_map _
 have hCr:=fun (c:Int) (h:1≤c∧c≤p.cs.length)=>fretsOf_row (cs:=p.cs) h
 have hEv:∀ k (h:k < p.evs.length),(p.evs.map eEv)[((k:Nat):Int).toNat]?=some [.sc (.bool p.evs[k].bar),.sc (.int .i64 p.evs[k].val),.sc (.bool p.evs[k].dot),.sc (.bool p.evs[k].three),.sc (.bool p.evs[k].tie),.ls 5 (p.evs[k].stops.map eStp)]:=fun k h=>by
  rw [Int.toNat_natCast,List.getElem?_map,List.getElem?_eq_getElem h];rfl
 have hEl:(p.evs.map eEv).length=p.evs.length:=List.length_map _
 obtain ⟨EV,hEV⟩:∃ z,p.evs.map eEv=z:=⟨_,rfl⟩
 rw [hEV] at hC hBg hSt hEv hEl ⊢
 obtain ⟨CS,hCS⟩:∃ z,p.cs.map eCrs=z:=⟨_,rfl⟩
 rw [hCS] at hC hBg hSt hI hCl hCr ⊢
 clear hRE hRL hRC hRS hEV hbad
 refine zqe Tryz.func24 Tryz.ntmps24 fun w0 F0=>?_;dsimp only [St.init,number,Nat.reduceAdd]
 repeat refine W.go rfl ?_
 refine (?_:WL _ _ _ _ _ _)
 refine WL.vl rfl (zqc Tryz.func20 hC) ?_
 repeat (first|refine W.gob rfl ?_|refine WL.nil ?_|refine WL.nf rfl rfl rfl zqo ?_|refine WL.e1 rfl ?_|refine W.condF rfl ?_)
 refine (?_:WL _ _ _ _ _ _)
 refine WL.vl rfl (zqc Tryz.func74 hI) ?_
 repeat (first|refine W.gob rfl ?_|refine WL.nil ?_|refine WL.nf rfl rfl rfl zqo ?_|refine WL.e1 rfl ?_|refine W.condF rfl ?_)
 refine (?_:WL _ _ _ _ _ _)
 refine WL.cto (truH _) [] rfl rfl (callF Tryz.func59 rfl rfl) hBg rfl rfl rfl trivial rfl rfl rfl rfl ?_
 repeat (first|refine W.gob rfl ?_|refine WL.nil ?_|refine WL.e1 rfl ?_)
 refine (?_:W _ _ _ _ _)
 refine W.loop (fun i:Nat=>i≤p.evs.length) (fun i=>⟨[(1,.sc (.int .i64 f)),(2,.pt 0 0 0),(4,.pt 1 0 0),(9,.pt 6 0 0),(10,.sc (.int .i64 i))],[(0,.box 29 [.ls 3 CS,.ls 1 (p.st.map eInt),.ls 6 EV]),(1,.box 29 [.sc (.slice none 0 0),.sc (.slice none 0 0),.sc (.slice none 0 0)]),(3,.rwn 45 6 ((ptL (capC p.cs f) p.evs i 0).map eEvO)),(4,.rwn 43 1 ((kpL (capC p.cs f) p.evs i 0).map eFr)),(6,.box 100 [.ls 3 RC,.ls 1 RS,.sl 3,.sl 4])],7⟩) (fun i=>p.evs.length - i) 0 (by omega) (zqt id) fun i hi=>?_
 by_cases hlt:i < p.evs.length
 ·have h1:=hEv i hlt
  have h2:=hput i
  have h3:=hStp i hlt
  have h20:=hO.n4 i hlt
  have hSl:(p.evs[i].stops.map eStp).length=p.evs[i].stops.length:=List.length_map _
  have hSt2:∀ k (h:k < p.evs[i].stops.length),(p.evs[i].stops.map eStp)[((k:Nat):Int).toNat]?=some [.sc (.int .i64 p.evs[i].stops[k].1),.sc (.int .i64 p.evs[i].stops[k].2.1),.sc (.int .i64 p.evs[i].stops[k].2.2.1),.sc (.int .i64 p.evs[i].stops[k].2.2.2.1),.sc (.int .i64 p.evs[i].stops[k].2.2.2.2)]:=fun k h=>by
   rw [Int.toNat_natCast,List.getElem?_map,List.getElem?_eq_getElem h];rfl
  obtain ⟨SE,hSE⟩:∃ z,p.evs[i].stops.map eStp=z:=⟨_,rfl⟩
  rw [hSE] at h1 hSl hSt2
  clear hSE
  repeat (first|refine W.gob rfl ?_|refine WL.nil ?_|refine WL.bt rfl rfl rfl zqo ?_|refine WL.e1 rfl ?_|refine WL.len rfl rfl zql ?_|refine W.condT rfl ?_)
  refine (?_:W _ _ _ _ _)
  refine W.loop (fun k:Nat=>k≤p.evs[i].stops.length) (fun k=>⟨[(1,.sc (.int .i64 f)),(2,.pt 0 0 0),(4,.pt 1 0 0),(9,.pt 6 0 0),(10,.sc (.int .i64 i)),(11,.sc (.int .i64 k))],[(0,.box 29 [.ls 3 CS,.ls 1 (p.st.map eInt),.ls 6 EV]),(1,.box 29 [.sc (.slice none 0 0),.sc (.slice none 0 0),.sc (.slice none 0 0)]),(3,.rwn 45 6 ((ptL (capC p.cs f) p.evs i k).map eEvO)),(4,.rwn 43 1 ((kpL (capC p.cs f) p.evs i k).map eFr)),(6,.box 100 [.ls 3 RC,.ls 1 RS,.sl 3,.sl 4])],7⟩) (fun k=>p.evs[i].stops.length - k) 0 (by omega) (zqt id) fun k hk=>?_
  by_cases hkl:k < p.evs[i].stops.length
  ·have g1:=hSt2 k hkl
   have g2:=hCr _ (h3 k hkl).1.1
   have g3:=h3 k hkl
   by_cases hF:0 < fretsOf p.cs p.evs[i].stops[k].1
   ·have hcap:capF p.cs f p.evs[i].stops[k]=p.evs[i].stops[k].2.1 - f:=if_pos hF
    by_cases hn:p.evs[i].stops[k].2.1 - f < 0
    ·obtain ⟨q1,q2⟩:=pl_lost (C:=capC p.cs f) hlt hkl (by show decide (capF p.cs f _ < 0)=true;rw [hcap];exact decide_eq_true hn)
     repeat (first|refine W.gob rfl ?_|refine WL.e1 rfl ?_)
     refine (?_:WL _ _ _ _ _ _)
     refine WL.idx rfl rfl zqo h1 ?_
     repeat (first|refine W.gob rfl ?_|refine WL.nil ?_|refine WL.bt rfl rfl rfl zqo ?_|refine WL.e1 rfl ?_|refine WL.len rfl rfl zql ?_|refine W.condT rfl ?_)
     refine (?_:WL _ _ _ _ _ _)
     refine WL.idx rfl rfl zqo h1 ?_
     repeat refine WL.e1 rfl ?_
     refine (?_:WL _ _ _ _ _ _)
     refine WL.idx rfl rfl zqo g1 ?_
     repeat (first|refine W.gob rfl ?_|refine WL.nil ?_|refine WL.e1 rfl ?_|refine WL.ar rfl rfl z22i ?_)
     refine (?_:WL _ _ _ _ _ _)
     refine WL.idx rfl rfl zqo g2 ?_
     repeat (first|refine W.gob rfl ?_|refine WL.nil ?_|refine WL.bt rfl rfl rfl zqo ?_|refine WL.bf rfl rfl rfl zqo ?_|refine WL.e1 rfl ?_|refine WL.ar rfl rfl z22i ?_|refine W.condT rfl ?_|refine W.condF rfl ?_)
     refine ⟨k+1,by omega,by omega,?_⟩
     rw [q1,q2]
     exact (zqt id)
    ·have hp:=h2 k hlt hkl (by show decide (capF p.cs f _ < 0)=false;rw [hcap];exact decide_eq_false hn)
     rw [show ((capC p.cs f).ch p.evs[i].stops[k]).1.2.1=p.evs[i].stops[k].2.1 - f from hcap] at hp
     repeat (first|refine W.gob rfl ?_|refine WL.e1 rfl ?_)
     refine (?_:WL _ _ _ _ _ _)
     refine WL.idx rfl rfl zqo h1 ?_
     repeat (first|refine W.gob rfl ?_|refine WL.nil ?_|refine WL.bt rfl rfl rfl zqo ?_|refine WL.e1 rfl ?_|refine WL.len rfl rfl zql ?_|refine W.condT rfl ?_)
     refine (?_:WL _ _ _ _ _ _)
     refine WL.idx rfl rfl zqo h1 ?_
     repeat refine WL.e1 rfl ?_
     refine (?_:WL _ _ _ _ _ _)
     refine WL.idx rfl rfl zqo g1 ?_
     repeat (first|refine W.gob rfl ?_|refine WL.nil ?_|refine WL.e1 rfl ?_|refine WL.ar rfl rfl z22i ?_)
     refine (?_:WL _ _ _ _ _ _)
     refine WL.idx rfl rfl zqo g2 ?_
     repeat (first|refine W.gob rfl ?_|refine WL.nil ?_|refine WL.bt rfl rfl rfl zqo ?_|refine WL.e1 rfl ?_|refine WL.ar rfl rfl z22i ?_|refine W.condT rfl ?_)
     refine (?_:WL _ _ _ _ _ _)
     refine WL.cto (truH _) [6,3,4] rfl rfl (callF Tryz.func61 rfl rfl) hp rfl rfl rfl ⟨⟨rfl,rfl,rfl⟩,⟨rfl,rfl,rfl⟩,⟨rfl,rfl,rfl⟩,trivial⟩ rfl rfl rfl rfl ?_
     repeat (first|refine W.gob rfl ?_|refine WL.nil ?_|refine WL.e1 rfl ?_|refine WL.ar rfl rfl z22i ?_)
     exact ⟨k+1,by omega,by omega,(zqt id)⟩
   ·have hcap:capF p.cs f p.evs[i].stops[k]=p.evs[i].stops[k].2.1:=if_neg hF
    by_cases hn:p.evs[i].stops[k].2.1 < 0
    ·omega
    ·have hp:=h2 k hlt hkl (by show decide (capF p.cs f _ < 0)=false;rw [hcap];exact decide_eq_false hn)
     rw [show ((capC p.cs f).ch p.evs[i].stops[k]).1.2.1=p.evs[i].stops[k].2.1 from hcap] at hp
     repeat (first|refine W.gob rfl ?_|refine WL.e1 rfl ?_)
     refine (?_:WL _ _ _ _ _ _)
     refine WL.idx rfl rfl zqo h1 ?_
     repeat (first|refine W.gob rfl ?_|refine WL.nil ?_|refine WL.bt rfl rfl rfl zqo ?_|refine WL.e1 rfl ?_|refine WL.len rfl rfl zql ?_|refine W.condT rfl ?_)
     refine (?_:WL _ _ _ _ _ _)
     refine WL.idx rfl rfl zqo h1 ?_
     repeat refine WL.e1 rfl ?_
     refine (?_:WL _ _ _ _ _ _)
     refine WL.idx rfl rfl zqo g1 ?_
     repeat (first|refine W.gob rfl ?_|refine WL.nil ?_|refine WL.e1 rfl ?_|refine WL.ar rfl rfl z22i ?_)
     refine (?_:WL _ _ _ _ _ _)
     refine WL.idx rfl rfl zqo g2 ?_
     repeat (first|refine W.gob rfl ?_|refine WL.nil ?_|refine WL.bt rfl rfl rfl zqo ?_|refine WL.bf rfl rfl rfl zqo ?_|refine WL.e1 rfl ?_|refine W.condT rfl ?_|refine W.condF rfl ?_)
     refine (?_:WL _ _ _ _ _ _)
     refine WL.cto (truH _) [6,3,4] rfl rfl (callF Tryz.func61 rfl rfl) hp rfl rfl rfl ⟨⟨rfl,rfl,rfl⟩,⟨rfl,rfl,rfl⟩,⟨rfl,rfl,rfl⟩,trivial⟩ rfl rfl rfl rfl ?_
     repeat (first|refine W.gob rfl ?_|refine WL.nil ?_|refine WL.e1 rfl ?_|refine WL.ar rfl rfl z22i ?_)
     exact ⟨k+1,by omega,by omega,(zqt id)⟩
  ·obtain rfl:k=p.evs[i].stops.length:=by omega
   rw [ptL_next hlt rfl,kpL_next hlt rfl]
   repeat (first|refine W.gob rfl ?_|refine WL.e1 rfl ?_)
   refine (?_:WL _ _ _ _ _ _)
   refine WL.idx rfl rfl zqo h1 ?_
   repeat (first|refine W.gob rfl ?_|refine WL.nil ?_|refine WL.bf rfl rfl rfl zqo ?_|refine WL.e1 rfl ?_|refine WL.ar rfl rfl z22i ?_|refine WL.len rfl rfl zql ?_|refine W.condF rfl ?_)
   exact ⟨i+1,by omega,by omega,(zqt id)⟩
 ·obtain rfl:i=p.evs.length:=by omega
  rw [ptL_all,kpL_all]
  repeat (first|refine W.gob rfl ?_|refine WL.nil ?_|refine WL.bf rfl rfl rfl zqo ?_|refine WL.e1 rfl ?_|refine WL.len rfl rfl zql ?_|refine W.condF rfl ?_)
  refine (?_:WL _ _ _ _ _ _)
  refine WL.cto (truH _) [6,3,4] rfl rfl (callF Tryz.func75 rfl rfl) hSt rfl rfl rfl ⟨⟨rfl,rfl,rfl⟩,⟨rfl,rfl,rfl⟩,⟨rfl,rfl,rfl⟩,trivial⟩ rfl rfl rfl rfl ?_
  repeat (first|refine WL.nil ?_|refine WL.e1 rfl ?_)
  refine (?_:W _ _ _ _ _)
  exact W.ret (finN rfl rfl rfl rfl)
end
section
open Go.RowKit
theorem smallC_FS (p:Pce):Ctr Tryz.prog 13 [ePce p] (.sc (.bool (!longB p))):=by
 refine zqe Tryz.func13 Tryz.ntmps13 fun w0 F0=>?_;dsimp only [St.init,number,Nat.reduceAdd]
 repeat refine W.go rfl ?_
 refine (?_:WL _ _ _ _ _ _)
 refine WL.vl rfl (WV.call rfl (callF Tryz.func43 rfl rfl) rfl rfl (long_FS p)) ?_
 repeat refine WL.ev rfl ?_
 refine (?_:W _ _ _ _ _)
 exact W.ret zqr
theorem fnw_20 {C:Cg} {H:Nat→Stp→Int} {evs:List Ev} (h:∀ k (hk:k<evs.length),evs[k].stops.length≤20):∀ k (hk:k<(fnL H (nwL C evs)).length),((fnL H (nwL C evs))[k]'hk).stops.length≤20:=fun k hk=>by
 have hk2:k<(nwL C evs).length:=by rw [fnL_len]at hk;exact hk
 have hk3:k<evs.length:=by rw [nwL_len]at hk2;exact hk2
 rw [fnL_get hk2,nwL_get hk3]
 show ((nwS C evs[k].stops).map _).length≤20
 rw [List.length_map]
 have:=nwS_len C evs[k].stops
 have:=h k hk3
 omega
theorem capP_ok {p:Pce} {f:Int} (hO:PcOk p):PcOk (capP p f):=by
 unfold capP
 split
 ·rename_i he
  have hx:cpX p.cs p.st f=0:=by
   unfold capE at he
   split at he
   ·exact absurd he (by assumption)
   ·exact he
  refine⟨?_,?_,?_,fnw_20 fun k hk=>hO.n4 k hk⟩
  ·show (cpCs p.cs p.st f).length≤64
   unfold cpCs;rw [if_pos hx];split
   ·exact hO.n1
   ·rw [List.length_map];exact hO.n1
  ·show (cpSt p.cs p.st f).length≤64
   unfold cpSt;rw [if_pos hx];split
   ·exact hO.n2
   ·rw [List.length_map,List.length_drop];have:=hO.n2;omega
  ·show (fnL _ _).length≤420
   rw [fnL_len]
   unfold capN
   rw [nwL_len]
   exact hO.n3
 ·exact⟨by decide,by decide,by decide,fun k hk=>by cases hk⟩
theorem capL_len {p:Pce} {f:Int} (hO:PcOk p):(capL p f).length≤30000:=by
 unfold capL
 split
 ·have h20:∀ e∈p.evs,e.stops.length≤20:=fun e he=>by
   obtain ⟨i,hi,rfl⟩:=List.getElem_of_mem he
   exact hO.n4 i hi
  have:=lsL_len (C:=capC p.cs f) (H:=ftH (capN p f)) (capC_ml p.cs f) h20 p.evs.length (Nat.le_refl _)
  have:=hO.n3
  omega
 ·simp
theorem capos_FS (p:Pce) (f:Int):Ctr Tryz.prog 5 [ePce p,.sc (.int .i64 f)] (.sc (.bool true)):=by
 by_cases hl:longB p=true
 ·have hS:=smallC_FS p
  rw [hl] at hS
  refine zqe Tryz.func5 Tryz.ntmps5 fun w0 F0=>?_;dsimp only [St.init,number,Nat.reduceAdd]
  repeat refine W.go rfl ?_
  refine (?_:WL _ _ _ _ _ _)
  refine WL.vl rfl (zqc Tryz.func13 hS) ?_
  repeat (first|refine W.go rfl ?_|refine WL.ev rfl ?_|refine W.condT rfl ?_)
  refine (?_:WL _ _ _ _ _ _)
  refine WL.vl rfl (zqc Tryz.func14 works04_FS) ?_
  repeat refine WL.ev rfl ?_
  refine (?_:W _ _ _ _ _)
  exact W.ret zqr
 have hl:longB p=false:=by simpa using hl
 have hO:=pcOk_of3 hl
 have hS:=smallC_FS p
 rw [hl] at hS
 have h1:=pCapo_FS p hO f
 have h2:=rCapo_FS p hO f
 have h3:=same_FS (capP p f) (capP_ok hO)
 have h4:=sameLk_FS (capL p f) (capL_len hO)
 have h6:=pcCopy_FS p hO
 obtain ⟨E,hE⟩:∃ z,capE p f=z:=⟨_,rfl⟩
 obtain ⟨LL,hLL⟩:∃ z,(capL p f).map eLk=z:=⟨_,rfl⟩
 rw [hE,hLL] at h1 h2
 rw [hLL] at h4
 refine zqe Tryz.func5 Tryz.ntmps5 fun w0 F0=>?_;dsimp only [St.init,number,Nat.reduceAdd]
 repeat refine W.go rfl ?_
 refine (?_:WL _ _ _ _ _ _)
 refine WL.vl rfl (zqc Tryz.func13 hS) ?_
 repeat (first|refine W.go rfl ?_|refine WL.ev rfl ?_|refine W.condF rfl ?_)
 refine (?_:WL _ _ _ _ _ _)
 refine WL.vl rfl (zqc Tryz.func15 h6) ?_
 repeat refine WL.ev rfl ?_
 refine (?_:WL _ _ _ _ _ _)
 refine WL.vl rfl (zqc Tryz.func23 h1) ?_
 repeat (first|refine W.go rfl ?_|refine WL.ev rfl ?_)
 refine (?_:WL _ _ _ _ _ _)
 refine WL.vl rfl (zqc Tryz.func24 h2) ?_
 repeat (first|refine W.go rfl ?_|refine WL.ev rfl ?_)
 refine (?_:WL _ _ _ _ _ _)
 refine WL.vl rfl (zqc Tryz.func18 h3) ?_
 repeat (first|refine WL.e1 rfl ?_|refine WL.gyes rfl rfl rfl rfl ?_)
 refine (?_:WL _ _ _ _ _ _)
 refine WL.vl rfl (zqc Tryz.func19 h4) ?_
 repeat (first|refine WL.bt rfl rfl rfl zqo ?_|refine WL.e1 rfl ?_|refine WL.gyes rfl rfl rfl rfl ?_)
 refine (?_:WL _ _ _ _ _ _)
 refine WL.vl rfl (zqc Tryz.func14 works04_FS) ?_
 repeat (first|refine WL.nil ?_|refine WL.e1 rfl ?_)
 refine (?_:W _ _ _ _ _)
 exact W.ret zqr
theorem capos_walk (p:Pce) (v:Value) (f:Int) (w:World) (h:RP (fun q=>w.cell? q) (ePce p) v):Calls Tryz.prog 5 #[v,.int .i64 f] w (Ret (.bool true) w):=by
 refine (capos_FS p f w (fun q=>w.cell? q) [v,.int .i64 f] (fun _ _ h=>h) ⟨rfl,fun i av u a b=>?_⟩).mono fun e w' ⟨u,F',he,hb,_,_,_,hr⟩=>⟨?_,hb⟩
 ·match i with
  | 0=>cases a;cases b;exact h
  | 1=>cases a;cases b;exact .sc _
  | i+2=>simp at a
 ·rw [he,hr.sc_eq]
end
end Go.Proofs.YtaeelcfjkhfpkaaGreat
