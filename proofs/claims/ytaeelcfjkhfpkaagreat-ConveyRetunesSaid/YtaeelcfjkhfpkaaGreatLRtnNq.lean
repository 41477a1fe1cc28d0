/- ConveyRetunes: the walk. -/
import Derived.Test.YtaeelcfjkhfpkaaGreatLo4Nq
import Derived.Test.YtaeelcfjkhfpkaaGreatREeNq
import Derived.Test.YtaeelcfjkhfpkaaGreatUDNq
import Derived.Test.YtaeelcfjkhfpkaaGreatW04Nq
set_option maxHeartbeats 8000000
set_option maxRecDepth 100000
set_option linter.unusedVariables false
set_option linter.unusedSimpArgs false
namespace Go.Proofs.YtaeelcfjkhfpkaaGreat
section
open Go.RowKit
theorem z16i {z:Int} (h:I64 z:=by unfold I64;omega):I64 z:=h
theorem eFr_fz (l:List Stp):(eFr l).map (AV.fz 1)=eFl l:=by
 show [AV.ls 5 ((l.map eStp).map fun r=>r.map (AV.fz 0))]=_
 rw [fz0_rows];rfl
theorem eFr_rows (l:List (List Stp)):((l.map eFr).map fun r=>r.map (AV.fz 1))=l.map eFl:=by
 rw [List.map_map]
 exact List.map_congr_left fun e _=>eFr_fz e
theorem eFr_shal (l:List (List Stp)):∀ r∈l.map eFr,∀ av∈r,av.shal 1=true:=fun r hr av hav=>by
 obtain⟨e,_,rfl⟩:=List.mem_map.1 hr
 simp only [eFr,List.mem_cons,List.not_mem_nil,or_false]at hav
 rcases hav with rfl
 show ((e.map eStp).all fun r=>r.all (AV.shal 0))=true
 rw [List.all_eq_true]
 intro q hq
 rw [List.all_eq_true]
 exact fun x hx=>own_shal (eStp_own _ q hq x hx)
structure CgMv (C:Cg):Prop where
 ls:CgLs C
 ml:∀ y,(C.ml y).length≤2
 mr:∀ y,C.mr y=y
 tie:∀ i e,C.tie i e=e.tie
 bare:∀ i,C.bare i=decide (0<i)
theorem settle_G (C:Cg) (hC:CgMv C) (p:Pce) (hO:PcOk p) (hA:∀ e∈p.evs,e.stops.Pairwise fun x y=>x.1 < y.1) (h400:p.evs.length≤400) (cs:List (Int×Int×Bool)) (st:List Int) (h1:cs.length≤64) (h2:st.length≤64) :
  Cto truB 0 Tryz.prog 75 [.pt 0 0 0,ePce p]
   [(0,mvB cs st),(1,.rwn 45 6 ((pcL C p.evs).map eEvO)),(2,.rwn 43 1 ((kpA C p.evs).map eFr))] 3
   (.tu [ePce ⟨cs,st,fnL (ftH (nwL C p.evs)) (nwL C p.evs)⟩,.ls 3 ((lsL C (ftH (nwL C p.evs)) p.evs p.evs.length).map eLk),.sc (.int .i64 0)])
   [(3,.box 29 [.ls 3 (cs.map eCrs),.ls 1 (st.map eInt),.ls 6 ((fnL (ftH (nwL C p.evs)) (nwL C p.evs)).map eEv)])] 4:=by
 have hba:=bare_G C true p hO cs st ((kpA C p.evs).map eFr)
 rw [baA_nw hC.mr hC.tie (fun i=>by rw [hC.bare,Bool.and_true]) p.evs] at hba
 have h20:∀ e∈nwL C p.evs,e.stops.length≤20:=fun e he=>by
  obtain ⟨i,hi,rfl⟩:=List.getElem_of_mem he
  have hi2:i < p.evs.length:=by rw [nwL_len] at hi;exact hi
  rw [nwL_get hi2]
  have:=nwS_len C p.evs[i].stops
  have:=hO.n4 i hi2
  show (nwS C p.evs[i].stops).length≤20
  omega
 have hft:=fit_G (nwL C p.evs) cs st h1 h2 (by rw [nwL_len];exact h400) h20 ((kpA C p.evs).map eFr)
 have hlo:=rLoss_FS C hC.ls hC.ml (ftH (nwL C p.evs)) p hO hA cs st
 have hPe:ePce p=.ag [.ls 3 (p.cs.map eCrs),.ls 1 (p.st.map eInt),.ls 6 (p.evs.map eEv)]:=rfl
 have hRe:ePce ⟨cs,st,fnL (ftH (nwL C p.evs)) (nwL C p.evs)⟩=.ag [.ls 3 (cs.map eCrs),.ls 1 (st.map eInt),.ls 6 ((fnL (ftH (nwL C p.evs)) (nwL C p.evs)).map eEv)]:=rfl
 unfold mvB at hba hft ⊢
 have hz1:=eEvO_rows (fnL (ftH (nwL C p.evs)) (nwL C p.evs))
 have hs1:=List.all_eq_true.2 fun r hr=>List.all_eq_true.2 (eEvO_shal (fnL (ftH (nwL C p.evs)) (nwL C p.evs)) r hr)
 have hz2:=eFr_rows (kpA C p.evs)
 have hs2:=List.all_eq_true.2 fun r hr=>List.all_eq_true.2 (eFr_shal (kpA C p.evs) r hr)
 rw [hPe] at hba hlo ⊢
 rw [hRe]
 obtain ⟨FE,hFE⟩:∃ z,(fnL (ftH (nwL C p.evs)) (nwL C p.evs)).map eEvO=z:=⟨_,rfl⟩
 obtain ⟨FF,hFF⟩:∃ z,(kpA C p.evs).map eFr=z:=⟨_,rfl⟩
 obtain ⟨RE,hRE⟩:∃ z,(fnL (ftH (nwL C p.evs)) (nwL C p.evs)).map eEv=z:=⟨_,rfl⟩
 obtain ⟨RF,hRF⟩:∃ z,(kpA C p.evs).map eFl=z:=⟨_,rfl⟩
 obtain ⟨LL,hLL⟩:∃ z,(lsL C (ftH (nwL C p.evs)) p.evs p.evs.length).map eLk=z:=⟨_,rfl⟩
 obtain ⟨PE,hPE⟩:∃ z,(pcL C p.evs).map eEvO=z:=⟨_,rfl⟩
 obtain ⟨NE,hNE⟩:∃ z,(nwL C p.evs).map eEvO=z:=⟨_,rfl⟩
 obtain ⟨EV,hEV⟩:∃ z,p.evs.map eEv=z:=⟨_,rfl⟩
 rw [hFE,hRE] at hz1
 rw [hFE] at hs1 hft
 rw [hFF,hRF] at hz2
 rw [hFF] at hs2 hft hba ⊢
 rw [hRE,hRF,hLL,hEV] at hlo
 rw [hPE,hEV,hNE] at hba
 rw [hNE] at hft
 rw [hPE,hEV,hRE,hLL]
 clear hFE hFF hRE hRF hLL hPE hNE hEV hPe hRe
 refine Cto.intro truS Tryz.func75 rfl Tryz.ntmps75 (Nat.le_of_ble_eq_true rfl) rfl fun w0 F0 fp pg hB=>?_
 dsimp only [number,Nat.reduceAdd]
 repeat refine W.go rfl ?_
 refine (?_:WL _ _ _ _ _ _)
 refine WL.cto (truH _) [0,1,2] rfl rfl (callF Tryz.func62 rfl rfl) hba rfl rfl rfl ⟨⟨rfl,rfl,rfl⟩,⟨rfl,rfl,rfl⟩,⟨rfl,rfl,rfl⟩,trivial⟩ rfl rfl rfl rfl ?_
 repeat (first|refine W.go rfl ?_|refine WL.nil ?_)
 refine (?_:WL _ _ _ _ _ _)
 refine WL.cto (truH _) [0,1,2] rfl rfl (callF Tryz.func65 rfl rfl) hft rfl rfl rfl ⟨⟨rfl,rfl,rfl⟩,⟨rfl,rfl,rfl⟩,⟨rfl,rfl,rfl⟩,trivial⟩ rfl rfl rfl rfl ?_
 repeat (first|refine W.go rfl ?_|refine WL.nil ?_)
 refine (?_:W _ _ _ _ _)
 refine W.tr (Tr.freezeW 1 1 rfl hs1 hz1) ?_
 refine W.tr (Tr.freezeW 2 1 rfl hs2 hz2) ?_
 refine W.tr (Tr.freezeB 0 rfl rfl) ?_
 refine W.tr (σ':=⟨[(0,.pr [.ls 3 (cs.map eCrs),.ls 1 (st.map eInt),.ls 6 RE,.ls 1 RF]),(3,.pt 3 0 0),(4,.pt 4 0 0)],[(3,.box 29 [.ls 3 (p.cs.map eCrs),.ls 1 (p.st.map eInt),.ls 6 EV]),(4,.box 29 [.sc (.slice none 0 0),.sc (.slice none 0 0),.sc (.slice none 0 0)])],5⟩) (zqt id) ?_
 refine W.dkT 7 zqk zqk zqk zqk ?_
 repeat refine DK.st rfl ?_
 refine DK.vl rfl (WV.nchP rfl rfl) ?_
 repeat refine DK.st rfl ?_
 refine DK.vl rfl (zqc Tryz.func67 hlo) ?_
 repeat refine DK.nil ?_
 refine ⟨rfl,?_⟩
 repeat (first|refine WL.nil ?_|refine WL.e1 rfl ?_)
 refine (?_:W _ _ _ _ _)
 refine W.tr (σ':=⟨[(4,.pt 3 0 0),(5,.ls 3 LL),(6,.sc (.int .i64 0))],[(3,.box 29 [.ls 3 (cs.map eCrs),.ls 1 (st.map eInt),.ls 6 RE])],4⟩) (zqt (fun q=>bif Nat.beq q 3 then 4 else q)) ?_
 exact W.ret (finM rfl rfl rfl rfl rfl)
end
section
open Go.RowKit
def hd1(s i:Int)(e:Ev):List Lck:=if s=4∧e.three=true then [(i,0,5)]else []
def hd2(s i:Int)(e:Ev):List Lck:=if s=4∧e.val=0 then [(i,0,6)]else []
end
section
open Go.RowKit
theorem put_step (C:Cg) (hC:∀ x,(C.ch x).1.1=x.1∧(C.ch x).1.2.2=x.2.2) (cs:List (Int×Int×Bool)) (st:List Int) (evs:List Ev) (hn:evs.length≤1000) (i k:Nat) (h:i<evs.length) (hk:k<evs[i].stops.length) (hA:evs[i].stops.Pairwise fun x y=>x.1<y.1) (h20:evs[i].stops.length≤20) (hl:(C.ch evs[i].stops[k]).2=false) :
  Cto truB 0 Tryz.prog 61 [.pt 0 0 0,.sc (.int .i64 i),.ag (eStp evs[i].stops[k]),.ag [.sc (.int .i64 evs[i].stops[k].1),.sc (.int .i64 (C.ch evs[i].stops[k]).1.2.1)]]
   [(0,mvB cs st),(1,.rwn 45 6 ((ptL C evs i k).map eEvO)),(2,.rwn 43 1 ((kpL C evs i k).map eFr))] 3 (.tu [])
   [(0,mvB cs st),(1,.rwn 45 6 ((ptL C evs i (k+1)).map eEvO)),(2,.rwn 43 1 ((kpL C evs i (k+1)).map eFr))] 3:=by
 have he:((ptL C evs i k).map eEvO)[i]?=some (eEvO { evs[i] with stops:=pcS C (evs[i].stops.take k) }):=by rw [List.getElem?_map,ptL_at h];rfl
 have hf:((kpL C evs i k).map eFr)[i]?=some (eFr (kpS C (evs[i].stops.take k))):=by rw [List.getElem?_map,kpL_at h];rfl
 have hc:∀ y∈pcS C (evs[i].stops.take k),y.1<evs[i].stops[k].1:=fun y hy=>by
  rw [pcS_fr] at hy
  obtain ⟨z,hz,rfl⟩:=List.mem_map.1 hy
  have hz2:=(List.mem_filter.1 hz).1
  obtain ⟨j,hj,rfl⟩:=List.getElem_of_mem hz2
  rw [List.length_take] at hj
  rw [(hC _).1,List.getElem_take]
  exact List.pairwise_iff_getElem.1 hA j k (by omega) hk (by omega)
 have hp:=put_G cs st _ _ i _ _ evs[i].stops[k] evs[i].stops[k].1 (C.ch evs[i].stops[k]).1.2.1 he hf (by rw [List.length_map,ptL_len];exact hn) (by rw [List.length_map,kpL_len];exact hn)
  (pcS_frl C _).symm (by have:=pcS_len C (evs[i].stops.take k);rw [List.length_take] at this;show (pcS C (evs[i].stops.take k)).length≤20;omega) hc
 obtain ⟨e1,e2⟩:=pl_kept h hk hl
 have e3:(evs[i].stops[k].1,(C.ch evs[i].stops[k]).1.2.1,evs[i].stops[k].2.2)=(C.ch evs[i].stops[k]).1:=by
  obtain ⟨q1,q2⟩:=hC evs[i].stops[k]
  rw [← q1,← q2]
 rw [e1,e2,List.map_set,List.map_set,← e3]
 exact hp
end
section
open Go.RowKit
theorem rtC_mvd (cs0 cs:List (Int×Int×Bool))(st:List Int)(c:Int):CgMv (rtC cs0 cs st c):=⟨rtC_ls cs0 cs st c,fun _=>Nat.zero_le _,fun _=>rfl,fun _ _=>rfl,fun _=>rfl⟩
theorem rRetune_FS (p:Pce) (hO:PcOk p) (c b:Int):Ctr Tryz.prog 40 [ePce p,.sc (.int .i64 c),.sc (.int .i64 b)] (.tu [ePce (rtP p c b),.ls 3 ((rtL p c b).map eLk),.sc (.int .i64 (rtE p c b))]):=by
 have hC:=rCheck_FS p hO
 have hPe:ePce p=.ag [.ls 3 (p.cs.map eCrs),.ls 1 (p.st.map eInt),.ls 6 (p.evs.map eEv)]:=rfl
 have hbad:rtE p c b≠0→ePce (rtP p c b)=.ag [.ls 3 [],.ls 1 [],.ls 6 []]∧rtL p c b=[]:=fun h=>⟨by rw [show rtP p c b=noP from if_neg h];rfl,if_neg h⟩
 have hI:=urTune_FS p.cs p.st c b
 by_cases h0:pceE p=0
 rotate_left
 ·have e:rtE p c b=pceE p:=if_pos h0
  obtain ⟨e1,e2⟩:=hbad (by rw [e];exact h0)
  rw [e1,e2,e]
  obtain ⟨E,hE⟩:∃ z,pceE p=z:=⟨_,rfl⟩
  rw [hE] at hC h0 ⊢
  rw [hPe] at hC ⊢
  refine zqe Tryz.func40 Tryz.ntmps40 fun w0 F0=>?_;dsimp only [St.init,number,Nat.reduceAdd]
  repeat (first|refine WL.vl rfl (WV.nch rfl rfl) ?_|refine W.gob rfl ?_|refine WL.nil ?_|refine WL.bt rfl rfl rfl zqo ?_|refine WL.bf rfl rfl rfl zqo ?_|refine WL.nt rfl rfl rfl zqo ?_|refine WL.nf rfl rfl rfl zqo ?_|refine WL.e1 rfl ?_|refine WL.ar rfl rfl z16i ?_|refine WL.len rfl rfl rfl ?_|refine W.condT rfl ?_|refine W.condF rfl ?_)
  (first|refine (?_:W _ _ _ _ _)|refine (?_:WL _ _ _ _ _ _)|skip)
  try dsimp only [St.put,Nat.reduceAdd]
  refine WL.vl rfl (zqc Tryz.func20 hC) ?_
  repeat (first|refine WL.vl rfl (WV.nch rfl rfl) ?_|refine W.gob rfl ?_|refine WL.nil ?_|refine WL.bt rfl rfl rfl zqo ?_|refine WL.bf rfl rfl rfl zqo ?_|refine WL.nt rfl rfl rfl zqo ?_|refine WL.nf rfl rfl rfl zqo ?_|refine WL.e1 rfl ?_|refine WL.ar rfl rfl z16i ?_|refine WL.len rfl rfl rfl ?_|refine W.condT rfl ?_|refine W.condF rfl ?_)
  (first|refine (?_:W _ _ _ _ _)|refine (?_:WL _ _ _ _ _ _)|skip)
  try dsimp only [St.put,Nat.reduceAdd]
  refine W.tr (Tr.nilC 1 0 3 rfl rfl rfl) ?_
  refine W.tr (Tr.nilC 1 1 1 rfl rfl rfl) ?_
  refine W.tr (Tr.nilC 1 2 6 rfl rfl rfl) ?_
  refine W.tr (Tr.nilLs (t:=7) 3 rfl) ?_
  exact W.ret (finN rfl rfl rfl rfl)
 rw [h0] at hC
 have e:rtE p c b=tnX p.cs p.st c b:=if_neg (fun h=>h h0)
 by_cases hx:tnX p.cs p.st c b=0
 rotate_left
 ·obtain ⟨e1,e2⟩:=hbad (by rw [e];exact hx)
  rw [e1,e2,e]
  obtain ⟨E,hE⟩:∃ z,tnX p.cs p.st c b=z:=⟨_,rfl⟩
  rw [hE] at hI hx ⊢
  rw [hPe] at hC ⊢
  refine zqe Tryz.func40 Tryz.ntmps40 fun w0 F0=>?_;dsimp only [St.init,number,Nat.reduceAdd]
  repeat (first|refine WL.vl rfl (WV.nch rfl rfl) ?_|refine W.gob rfl ?_|refine WL.nil ?_|refine WL.bt rfl rfl rfl zqo ?_|refine WL.bf rfl rfl rfl zqo ?_|refine WL.nt rfl rfl rfl zqo ?_|refine WL.nf rfl rfl rfl zqo ?_|refine WL.e1 rfl ?_|refine WL.ar rfl rfl z16i ?_|refine WL.len rfl rfl rfl ?_|refine W.condT rfl ?_|refine W.condF rfl ?_)
  (first|refine (?_:W _ _ _ _ _)|refine (?_:WL _ _ _ _ _ _)|skip)
  try dsimp only [St.put,Nat.reduceAdd]
  refine WL.vl rfl (zqc Tryz.func20 hC) ?_
  repeat (first|refine WL.vl rfl (WV.nch rfl rfl) ?_|refine W.gob rfl ?_|refine WL.nil ?_|refine WL.bt rfl rfl rfl zqo ?_|refine WL.bf rfl rfl rfl zqo ?_|refine WL.nt rfl rfl rfl zqo ?_|refine WL.nf rfl rfl rfl zqo ?_|refine WL.e1 rfl ?_|refine WL.ar rfl rfl z16i ?_|refine WL.len rfl rfl rfl ?_|refine W.condT rfl ?_|refine W.condF rfl ?_)
  (first|refine (?_:W _ _ _ _ _)|refine (?_:WL _ _ _ _ _ _)|skip)
  try dsimp only [St.put,Nat.reduceAdd]
  refine WL.vl rfl (zqc Tryz.func86 hI) ?_
  repeat (first|refine WL.vl rfl (WV.nch rfl rfl) ?_|refine W.gob rfl ?_|refine WL.nil ?_|refine WL.bt rfl rfl rfl zqo ?_|refine WL.bf rfl rfl rfl zqo ?_|refine WL.nt rfl rfl rfl zqo ?_|refine WL.nf rfl rfl rfl zqo ?_|refine WL.e1 rfl ?_|refine WL.ar rfl rfl z16i ?_|refine WL.len rfl rfl rfl ?_|refine W.condT rfl ?_|refine W.condF rfl ?_)
  (first|refine (?_:W _ _ _ _ _)|refine (?_:WL _ _ _ _ _ _)|skip)
  try dsimp only [St.put,Nat.reduceAdd]
  refine W.tr (Tr.nilC 1 0 3 rfl rfl rfl) ?_
  refine W.tr (Tr.nilC 1 1 1 rfl rfl rfl) ?_
  refine W.tr (Tr.nilC 1 2 6 rfl rfl rfl) ?_
  refine W.tr (Tr.nilLs (t:=7) 3 rfl) ?_
  exact W.ret (finN rfl rfl rfl rfl)
 obtain ⟨hI1,hc,hb,hI2⟩:=tnX_0 hx
 have hc1:(tnC p.cs c b).length≤64:=by rw [tnC_len];exact hO.n1
 have hc2:1≤c∧c≤(tnC p.cs c b).length:=by rw [tnC_len];exact hc
 have h400:p.evs.length≤400:=(pceE_zero h0).2.1
 have hBg:=bg_G p hO (tnC p.cs c b) p.st hc1 hO.n2
 rw [show p.evs.map bgE=ptL (rtC p.cs (tnC p.cs c b) p.st c) p.evs 0 0 from (ptL_0 _ _).symm,show (p.evs.map fun _=>([]:List Stp))=kpL (rtC p.cs (tnC p.cs c b) p.st c) p.evs 0 0 from (kpL_0 _ _).symm] at hBg
 have hAs:∀ k (hk:k < p.evs.length),p.evs[k].stops.Pairwise fun x y=>x.1 < y.1:=fun k hk=>(evOk_of h0 hk).asc
 have hSt:=settle_G (rtC p.cs (tnC p.cs c b) p.st c) (rtC_mvd _ _ _ _) p hO (fun e he=>by
  obtain ⟨i,hi,rfl⟩:=List.getElem_of_mem he
  exact hAs i hi) h400 (tnC p.cs c b) p.st hc1 hO.n2
 have e1:ePce (rtP p c b)=ePce ⟨tnC p.cs c b,p.st,fnL (ftH (rtN p c b)) (rtN p c b)⟩:=by rw [show rtP p c b=_ from if_pos (e.trans hx)]
 have e2:rtL p c b=lsL (rtC p.cs (tnC p.cs c b) p.st c) (ftH (rtN p c b)) p.evs p.evs.length:=if_pos (e.trans hx)
 have e3:tnCs p.cs p.st c b=tnC p.cs c b:=if_pos hx
 have e4:tnSt p.cs p.st c b=p.st:=if_pos hx
 rw [e1,e2,e,hx]
 rw [hx,e3,e4] at hI
 have hput:=fun i k (hi:i < p.evs.length) (hk:k < p.evs[i].stops.length) hl=>put_step (rtC p.cs (tnC p.cs c b) p.st c) (rtC_ch _ _ _ _) (tnC p.cs c b) p.st p.evs zqo i k hi hk (hAs i hi) (hO.n4 i hi) hl
 unfold rtN
 have hFo:=fun q=>uFretOn_FS (tnC p.cs c b) p.st c q hI2 hc2
 have hTg:=fun i (hi:i < p.evs.length)=>uTargets_FS p hO h0 i hi
 have hchN:∀ x:Stp,x.1≠c→(rtC p.cs (tnC p.cs c b) p.st c).ch x=(x,false):=fun x h=>if_neg h
 have hchS:∀ x:Stp,x.1=c→∀ f:Nat,frN (tnC p.cs c b) p.st c (pitN p.cs p.st x.1 x.2.1)=some f→(rtC p.cs (tnC p.cs c b) p.st c).ch x=((x.1,(f:Int),x.2.2),false):=fun x h f hf=>by
  show (if x.1=c then rtF p.cs (tnC p.cs c b) p.st c x else (x,false))=_
  rw [if_pos h];unfold rtF;rw [h] at hf ⊢;rw [hf]
 have hch0:∀ x:Stp,x.1=c→frN (tnC p.cs c b) p.st c (pitN p.cs p.st x.1 x.2.1)=none→(rtC p.cs (tnC p.cs c b) p.st c).ch x=(x,true):=fun x h hf=>by
  show (if x.1=c then rtF p.cs (tnC p.cs c b) p.st c x else (x,false))=_
  rw [if_pos h];unfold rtF;rw [h] at hf;rw [hf]
 obtain ⟨C,hCg⟩:∃ z,rtC p.cs (tnC p.cs c b) p.st c=z:=⟨_,rfl⟩
 rw [hCg] at hBg hSt hchN hchS hch0 ⊢
 simp only [hCg] at hput
 obtain ⟨R,hR⟩:∃ z,ePce ⟨tnC p.cs c b,p.st,fnL (ftH (nwL C p.evs)) (nwL C p.evs)⟩=z:=⟨_,rfl⟩
 have hRe:R=.ag [.ls 3 ((tnC p.cs c b).map eCrs),.ls 1 (p.st.map eInt),.ls 6 ((fnL (ftH (nwL C p.evs)) (nwL C p.evs)).map eEv)]:=hR.symm
 rw [hR] at hSt ⊢
 rw [hRe] at hSt ⊢
 clear hR hRe e1 e2 e e3 e4
 unfold mvB at hSt hput
 obtain ⟨RE,hRE⟩:∃ z,(fnL (ftH (nwL C p.evs)) (nwL C p.evs)).map eEv=z:=⟨_,rfl⟩
 obtain ⟨RL,hRL⟩:∃ z,(lsL C (ftH (nwL C p.evs)) p.evs p.evs.length).map eLk=z:=⟨_,rfl⟩
 obtain ⟨RC,hRC⟩:∃ z,(tnC p.cs c b).map eCrs=z:=⟨_,rfl⟩
 rw [hRE,hRL,hRC] at hSt
 rw [hRE,hRL,hRC]
 rw [hRC] at hBg hI
 simp only [hRC] at hput hFo
 have hStp:∀ i (hi:i < p.evs.length) k (hk:k < p.evs[i].stops.length),0≤p.evs[i].stops[k].2.1:=fun i hi k hk=>by
  have hS:=(evOk_of h0 hi).stops _ (List.getElem_mem hk)
  exact hS.fret.1
 rw [hPe] at hC hBg hSt ⊢
 simp only [hPe] at hTg
 have hEv:∀ k (h:k < p.evs.length),(p.evs.map eEv)[((k:Nat):Int).toNat]?=some [.sc (.bool p.evs[k].bar),.sc (.int .i64 p.evs[k].val),.sc (.bool p.evs[k].dot),.sc (.bool p.evs[k].three),.sc (.bool p.evs[k].tie),.ls 5 (p.evs[k].stops.map eStp)]:=fun k h=>by
  rw [Int.toNat_natCast,List.getElem?_map,List.getElem?_eq_getElem h];rfl
 have hEl:(p.evs.map eEv).length=p.evs.length:=List.length_map _
 obtain ⟨EV,hEV⟩:∃ z,p.evs.map eEv=z:=⟨_,rfl⟩
 rw [hEV] at hC hBg hSt hEl ⊢
 simp only [hEV] at hTg hEv
 clear hRE hRL hbad
 refine zqe Tryz.func40 Tryz.ntmps40 fun w0 F0=>?_;dsimp only [St.init,number,Nat.reduceAdd]
 repeat (first|refine WL.vl rfl (WV.nch rfl rfl) ?_|refine W.gob rfl ?_|refine WL.nil ?_|refine WL.bt rfl rfl rfl zqo ?_|refine WL.bf rfl rfl rfl zqo ?_|refine WL.nt rfl rfl rfl zqo ?_|refine WL.nf rfl rfl rfl zqo ?_|refine WL.e1 rfl ?_|refine WL.ar rfl rfl z16i ?_|refine WL.len rfl rfl rfl ?_|refine W.condT rfl ?_|refine W.condF rfl ?_)
 (first|refine (?_:W _ _ _ _ _)|refine (?_:WL _ _ _ _ _ _)|skip)
 try dsimp only [St.put,Nat.reduceAdd]
 refine WL.vl rfl (zqc Tryz.func20 hC) ?_
 repeat (first|refine WL.vl rfl (WV.nch rfl rfl) ?_|refine W.gob rfl ?_|refine WL.nil ?_|refine WL.bt rfl rfl rfl zqo ?_|refine WL.bf rfl rfl rfl zqo ?_|refine WL.nt rfl rfl rfl zqo ?_|refine WL.nf rfl rfl rfl zqo ?_|refine WL.e1 rfl ?_|refine WL.ar rfl rfl z16i ?_|refine WL.len rfl rfl rfl ?_|refine W.condT rfl ?_|refine W.condF rfl ?_)
 (first|refine (?_:W _ _ _ _ _)|refine (?_:WL _ _ _ _ _ _)|skip)
 try dsimp only [St.put,Nat.reduceAdd]
 refine WL.vl rfl (zqc Tryz.func86 hI) ?_
 repeat (first|refine WL.vl rfl (WV.nch rfl rfl) ?_|refine W.gob rfl ?_|refine WL.nil ?_|refine WL.bt rfl rfl rfl zqo ?_|refine WL.bf rfl rfl rfl zqo ?_|refine WL.nt rfl rfl rfl zqo ?_|refine WL.nf rfl rfl rfl zqo ?_|refine WL.e1 rfl ?_|refine WL.ar rfl rfl z16i ?_|refine WL.len rfl rfl rfl ?_|refine W.condT rfl ?_|refine W.condF rfl ?_)
 (first|refine (?_:W _ _ _ _ _)|refine (?_:WL _ _ _ _ _ _)|skip)
 try dsimp only [St.put,Nat.reduceAdd]
 refine WL.cto (truH _) [] rfl rfl (callF Tryz.func59 rfl rfl) hBg rfl rfl rfl trivial rfl rfl rfl rfl ?_
 repeat (first|refine WL.vl rfl (WV.nch rfl rfl) ?_|refine W.gob rfl ?_|refine WL.nil ?_|refine WL.bt rfl rfl rfl zqo ?_|refine WL.bf rfl rfl rfl zqo ?_|refine WL.nt rfl rfl rfl zqo ?_|refine WL.nf rfl rfl rfl zqo ?_|refine WL.e1 rfl ?_|refine WL.ar rfl rfl z16i ?_|refine WL.len rfl rfl rfl ?_|refine W.condT rfl ?_|refine W.condF rfl ?_)
 (first|refine (?_:W _ _ _ _ _)|refine (?_:WL _ _ _ _ _ _)|skip)
 try dsimp only [St.put,Nat.reduceAdd]
 refine W.loop (fun i:Nat=>i≤p.evs.length) (fun i=>⟨[(1,.sc (.int .i64 c)),(3,.pt 0 0 0),(6,.pt 1 0 0),(10,.pt 2 0 0),(11,.pt 6 0 0),(12,.sc (.int .i64 i))],[(0,.box 29 [.ls 3 (p.cs.map eCrs),.ls 1 (p.st.map eInt),.ls 6 EV]),(1,.box 29 [.sc (.slice none 0 0),.sc (.slice none 0 0),.sc (.slice none 0 0)]),(2,.box 26 [.ls 3 RC,.ls 1 (p.st.map eInt)]),(3,.rwn 45 6 ((ptL C p.evs i 0).map eEvO)),(4,.rwn 43 1 ((kpL C p.evs i 0).map eFr)),(6,.box 100 [.ls 3 RC,.ls 1 (p.st.map eInt),.sl 3,.sl 4])],7⟩) (fun i=>p.evs.length - i) 0 (by omega) (zqt id) fun i hi=>?_
 by_cases hlt:i < p.evs.length
 ·have h1:=hEv i hlt
  have h2:=hput i
  have h3:=hStp i hlt
  have hT:=hTg i hlt
  have h20:=hO.n4 i hlt
  have hSl:(p.evs[i].stops.map eStp).length=p.evs[i].stops.length:=List.length_map _
  have hSt2:∀ k (h:k < p.evs[i].stops.length),(p.evs[i].stops.map eStp)[((k:Nat):Int).toNat]?=some [.sc (.int .i64 p.evs[i].stops[k].1),.sc (.int .i64 p.evs[i].stops[k].2.1),.sc (.int .i64 p.evs[i].stops[k].2.2.1),.sc (.int .i64 p.evs[i].stops[k].2.2.2.1),.sc (.int .i64 p.evs[i].stops[k].2.2.2.2)]:=fun k h=>by
   rw [Int.toNat_natCast,List.getElem?_map,List.getElem?_eq_getElem h];rfl
  have hTl:((p.evs[i].stops.map fun x=>pitN p.cs p.st x.1 x.2.1).map eInt).length=p.evs[i].stops.length:=by rw [List.length_map,List.length_map]
  have hTt:∀ k (h:k < p.evs[i].stops.length),((p.evs[i].stops.map fun x=>pitN p.cs p.st x.1 x.2.1).map eInt)[((k:Nat):Int).toNat]?=some [.sc (.int .i64 (pitN p.cs p.st p.evs[i].stops[k].1 p.evs[i].stops[k].2.1))]:=fun k h=>by
   rw [Int.toNat_natCast,List.getElem?_map,List.getElem?_map,List.getElem?_eq_getElem h];rfl
  obtain ⟨SE,hSE⟩:∃ z,p.evs[i].stops.map eStp=z:=⟨_,rfl⟩
  rw [hSE] at h1 hSl
  simp only [hSE] at hSt2
  obtain ⟨TG,hTG⟩:∃ z,(p.evs[i].stops.map fun x=>pitN p.cs p.st x.1 x.2.1).map eInt=z:=⟨_,rfl⟩
  rw [hTG] at hT hTl
  simp only [hTG] at hTt
  clear hEv hput hStp hTg hBg hI
  repeat (first|refine WL.vl rfl (WV.nch rfl rfl) ?_|refine W.gob rfl ?_|refine WL.nil ?_|refine WL.bt rfl rfl rfl zqo ?_|refine WL.bf rfl rfl rfl zqo ?_|refine WL.nt rfl rfl rfl zqo ?_|refine WL.nf rfl rfl rfl zqo ?_|refine WL.e1 rfl ?_|refine WL.ar rfl rfl z16i ?_|refine WL.len rfl rfl rfl ?_|refine W.condT rfl ?_|refine W.condF rfl ?_)
  (first|refine (?_:W _ _ _ _ _)|refine (?_:WL _ _ _ _ _ _)|skip)
  try dsimp only [St.put,Nat.reduceAdd]
  refine WL.vl rfl (zqc Tryz.func87 hT) ?_
  repeat (first|refine WL.vl rfl (WV.nch rfl rfl) ?_|refine W.gob rfl ?_|refine WL.nil ?_|refine WL.bt rfl rfl rfl zqo ?_|refine WL.bf rfl rfl rfl zqo ?_|refine WL.nt rfl rfl rfl zqo ?_|refine WL.nf rfl rfl rfl zqo ?_|refine WL.e1 rfl ?_|refine WL.ar rfl rfl z16i ?_|refine WL.len rfl rfl rfl ?_|refine W.condT rfl ?_|refine W.condF rfl ?_)
  (first|refine (?_:W _ _ _ _ _)|refine (?_:WL _ _ _ _ _ _)|skip)
  try dsimp only [St.put,Nat.reduceAdd]
  refine W.loop (fun k:Nat=>k≤p.evs[i].stops.length) (fun k=>⟨[(1,.sc (.int .i64 c)),(3,.pt 0 0 0),(6,.pt 1 0 0),(10,.pt 2 0 0),(11,.pt 6 0 0),(12,.sc (.int .i64 i)),(13,.ls 1 TG),(14,.sc (.int .i64 k))],[(0,.box 29 [.ls 3 (p.cs.map eCrs),.ls 1 (p.st.map eInt),.ls 6 EV]),(1,.box 29 [.sc (.slice none 0 0),.sc (.slice none 0 0),.sc (.slice none 0 0)]),(2,.box 26 [.ls 3 RC,.ls 1 (p.st.map eInt)]),(3,.rwn 45 6 ((ptL C p.evs i k).map eEvO)),(4,.rwn 43 1 ((kpL C p.evs i k).map eFr)),(6,.box 100 [.ls 3 RC,.ls 1 (p.st.map eInt),.sl 3,.sl 4])],7⟩) (fun k=>p.evs[i].stops.length - k) 0 (by omega) (zqt id) fun k hk=>?_
  by_cases hkl:k < p.evs[i].stops.length
  ·have g1:=hSt2 k hkl
   have gt:=hTt k hkl
   have g3:=h3 k hkl
   have gp:=h2 k hlt hkl
   have gl:=pl_lost (C:=C) hlt hkl
   have gF:=hFo (pitN p.cs p.st p.evs[i].stops[k].1 p.evs[i].stops[k].2.1)
   have kN:=hchN p.evs[i].stops[k]
   have kS:=hchS p.evs[i].stops[k]
   have k0:=hch0 p.evs[i].stops[k]
   clear h2 h3 hSt2 hTt hFo hchN hchS hch0
   by_cases hxc:p.evs[i].stops[k].1=c
   rotate_left
   ·have ke:=kN hxc
    have gp:=gp (by rw [ke])
    rw [show (C.ch p.evs[i].stops[k]).1.2.1=p.evs[i].stops[k].2.1 by rw [ke]] at gp
    clear gl kN kS k0 gF gt
    obtain ⟨X,hX⟩:∃ z,p.evs[i].stops[k]=z:=⟨_,rfl⟩
    rw [hX] at g1 g3 gp hxc
    have gp:Cto truB 0 Tryz.prog 61 [.pt 0 0 0,.sc (.int .i64 i),.ag [.sc (.int .i64 X.1),.sc (.int .i64 X.2.1),.sc (.int .i64 X.2.2.1),.sc (.int .i64 X.2.2.2.1),.sc (.int .i64 X.2.2.2.2)],.ag [.sc (.int .i64 X.1),.sc (.int .i64 X.2.1)]] _ 3 _ _ 3:=gp
    repeat (first|refine WL.vl rfl (WV.nch rfl rfl) ?_|refine W.gob rfl ?_|refine WL.nil ?_|refine WL.bt rfl rfl rfl zqo ?_|refine WL.bf rfl rfl rfl zqo ?_|refine WL.nt rfl rfl rfl zqo ?_|refine WL.nf rfl rfl rfl zqo ?_|refine WL.e1 rfl ?_|refine WL.ar rfl rfl z16i ?_|refine WL.len rfl rfl rfl ?_|refine W.condT rfl ?_|refine W.condF rfl ?_)
    (first|refine (?_:W _ _ _ _ _)|refine (?_:WL _ _ _ _ _ _)|skip)
    try dsimp only [St.put,Nat.reduceAdd]
    refine WL.idx rfl rfl zqo h1 ?_
    repeat (first|refine WL.vl rfl (WV.nch rfl rfl) ?_|refine W.gob rfl ?_|refine WL.nil ?_|refine WL.bt rfl rfl rfl zqo ?_|refine WL.bf rfl rfl rfl zqo ?_|refine WL.nt rfl rfl rfl zqo ?_|refine WL.nf rfl rfl rfl zqo ?_|refine WL.e1 rfl ?_|refine WL.ar rfl rfl z16i ?_|refine WL.len rfl rfl rfl ?_|refine W.condT rfl ?_|refine W.condF rfl ?_)
    (first|refine (?_:W _ _ _ _ _)|refine (?_:WL _ _ _ _ _ _)|skip)
    try dsimp only [St.put,Nat.reduceAdd]
    refine WL.idx rfl rfl zqo g1 ?_
    repeat (first|refine WL.vl rfl (WV.nch rfl rfl) ?_|refine W.gob rfl ?_|refine WL.nil ?_|refine WL.bt rfl rfl rfl zqo ?_|refine WL.bf rfl rfl rfl zqo ?_|refine WL.nt rfl rfl rfl zqo ?_|refine WL.nf rfl rfl rfl zqo ?_|refine WL.e1 rfl ?_|refine WL.ar rfl rfl z16i ?_|refine WL.len rfl rfl rfl ?_|refine W.condT rfl ?_|refine W.condF rfl ?_)
    (first|refine (?_:W _ _ _ _ _)|refine (?_:WL _ _ _ _ _ _)|skip)
    try dsimp only [St.put,Nat.reduceAdd]
    first|rw [decide_eq_false hxc]|skip
    repeat (first|refine WL.vl rfl (WV.nch rfl rfl) ?_|refine W.gob rfl ?_|refine WL.nil ?_|refine WL.bt rfl rfl rfl zqo ?_|refine WL.bf rfl rfl rfl zqo ?_|refine WL.nt rfl rfl rfl zqo ?_|refine WL.nf rfl rfl rfl zqo ?_|refine WL.e1 rfl ?_|refine WL.ar rfl rfl z16i ?_|refine WL.len rfl rfl rfl ?_|refine W.condT rfl ?_|refine W.condF rfl ?_)
    (first|refine (?_:W _ _ _ _ _)|refine (?_:WL _ _ _ _ _ _)|skip)
    try dsimp only [St.put,Nat.reduceAdd]
    refine WL.cto (truH _) [6,3,4] rfl rfl (callF Tryz.func61 rfl rfl) gp rfl rfl rfl ⟨⟨rfl,rfl,rfl⟩,⟨rfl,rfl,rfl⟩,⟨rfl,rfl,rfl⟩,trivial⟩ rfl rfl rfl rfl ?_
    repeat (first|refine WL.vl rfl (WV.nch rfl rfl) ?_|refine W.gob rfl ?_|refine WL.nil ?_|refine WL.bt rfl rfl rfl zqo ?_|refine WL.bf rfl rfl rfl zqo ?_|refine WL.nt rfl rfl rfl zqo ?_|refine WL.nf rfl rfl rfl zqo ?_|refine WL.e1 rfl ?_|refine WL.ar rfl rfl z16i ?_|refine WL.len rfl rfl rfl ?_|refine W.condT rfl ?_|refine W.condF rfl ?_)
    (first|refine (?_:W _ _ _ _ _)|refine (?_:WL _ _ _ _ _ _)|skip)
    try dsimp only [St.put,Nat.reduceAdd]
    exact ⟨k+1,by omega,by omega,(zqt id)⟩
   ·obtain ⟨q,hq⟩:∃ z,pitN p.cs p.st p.evs[i].stops[k].1 p.evs[i].stops[k].2.1=z:=⟨_,rfl⟩
    rw [hq] at gt gF kS k0
    have kS:=kS hxc
    have k0:=k0 hxc
    cases hfn:frN (tnC p.cs c b) p.st c q with
    | none =>
     have ke:=k0 hfn
     obtain ⟨q1,q2⟩:=gl (by rw [ke])
     rw [hfn] at gF
     have gF:Ctr Tryz.prog 88 [.ag [.ls 3 RC,.ls 1 (p.st.map eInt)],.sc (.int .i64 c),.sc (.int .i64 q)] (.sc (.int .i64 (-1))):=gF
     clear gp kN kS k0 hq
     obtain ⟨X,hX⟩:∃ z,p.evs[i].stops[k]=z:=⟨_,rfl⟩
     rw [hX] at g1 g3 hxc
     repeat (first|refine WL.vl rfl (WV.nch rfl rfl) ?_|refine W.gob rfl ?_|refine WL.nil ?_|refine WL.bt rfl rfl rfl zqo ?_|refine WL.bf rfl rfl rfl zqo ?_|refine WL.nt rfl rfl rfl zqo ?_|refine WL.nf rfl rfl rfl zqo ?_|refine WL.e1 rfl ?_|refine WL.ar rfl rfl z16i ?_|refine WL.len rfl rfl rfl ?_|refine W.condT rfl ?_|refine W.condF rfl ?_)
     (first|refine (?_:W _ _ _ _ _)|refine (?_:WL _ _ _ _ _ _)|skip)
     try dsimp only [St.put,Nat.reduceAdd]
     refine WL.idx rfl rfl zqo h1 ?_
     repeat (first|refine WL.vl rfl (WV.nch rfl rfl) ?_|refine W.gob rfl ?_|refine WL.nil ?_|refine WL.bt rfl rfl rfl zqo ?_|refine WL.bf rfl rfl rfl zqo ?_|refine WL.nt rfl rfl rfl zqo ?_|refine WL.nf rfl rfl rfl zqo ?_|refine WL.e1 rfl ?_|refine WL.ar rfl rfl z16i ?_|refine WL.len rfl rfl rfl ?_|refine W.condT rfl ?_|refine W.condF rfl ?_)
     (first|refine (?_:W _ _ _ _ _)|refine (?_:WL _ _ _ _ _ _)|skip)
     try dsimp only [St.put,Nat.reduceAdd]
     refine WL.idx rfl rfl zqo g1 ?_
     repeat (first|refine WL.vl rfl (WV.nch rfl rfl) ?_|refine W.gob rfl ?_|refine WL.nil ?_|refine WL.bt rfl rfl rfl zqo ?_|refine WL.bf rfl rfl rfl zqo ?_|refine WL.nt rfl rfl rfl zqo ?_|refine WL.nf rfl rfl rfl zqo ?_|refine WL.e1 rfl ?_|refine WL.ar rfl rfl z16i ?_|refine WL.len rfl rfl rfl ?_|refine W.condT rfl ?_|refine W.condF rfl ?_)
     (first|refine (?_:W _ _ _ _ _)|refine (?_:WL _ _ _ _ _ _)|skip)
     try dsimp only [St.put,Nat.reduceAdd]
     first|rw [decide_eq_true hxc]|skip
     repeat (first|refine WL.vl rfl (WV.nch rfl rfl) ?_|refine W.gob rfl ?_|refine WL.nil ?_|refine WL.bt rfl rfl rfl zqo ?_|refine WL.bf rfl rfl rfl zqo ?_|refine WL.nt rfl rfl rfl zqo ?_|refine WL.nf rfl rfl rfl zqo ?_|refine WL.e1 rfl ?_|refine WL.ar rfl rfl z16i ?_|refine WL.len rfl rfl rfl ?_|refine W.condT rfl ?_|refine W.condF rfl ?_)
     (first|refine (?_:W _ _ _ _ _)|refine (?_:WL _ _ _ _ _ _)|skip)
     try dsimp only [St.put,Nat.reduceAdd]
     refine W.drawK zqk zqk ?_
     repeat (first|refine DK.st rfl ?_|refine DK.idx rfl rfl zqo gt ?_|refine DK.vl rfl (zqc Tryz.func88 gF) ?_|refine DK.nil ?_)
     repeat (first|refine WL.vl rfl (WV.nch rfl rfl) ?_|refine W.gob rfl ?_|refine WL.nil ?_|refine WL.bt rfl rfl rfl zqo ?_|refine WL.bf rfl rfl rfl zqo ?_|refine WL.nt rfl rfl rfl zqo ?_|refine WL.nf rfl rfl rfl zqo ?_|refine WL.e1 rfl ?_|refine WL.ar rfl rfl z16i ?_|refine WL.len rfl rfl rfl ?_|refine W.condT rfl ?_|refine W.condF rfl ?_)
     (first|refine (?_:W _ _ _ _ _)|refine (?_:WL _ _ _ _ _ _)|skip)
     try dsimp only [St.put,Nat.reduceAdd]
     refine ⟨k+1,by omega,by omega,?_⟩
     rw [q1,q2]
     exact (zqt id)
    | some f =>
     have ke:=kS f hfn
     have gp:=gp (by rw [ke])
     rw [show (C.ch p.evs[i].stops[k]).1.2.1=(f:Int) by rw [ke]] at gp
     rw [hfn] at gF
     have gF:Ctr Tryz.prog 88 [.ag [.ls 3 RC,.ls 1 (p.st.map eInt)],.sc (.int .i64 c),.sc (.int .i64 q)] (.sc (.int .i64 (f:Int))):=gF
     clear gl kN kS k0 hq
     obtain ⟨X,hX⟩:∃ z,p.evs[i].stops[k]=z:=⟨_,rfl⟩
     rw [hX] at g1 g3 gp hxc
     have gp:Cto truB 0 Tryz.prog 61 [.pt 0 0 0,.sc (.int .i64 i),.ag [.sc (.int .i64 X.1),.sc (.int .i64 X.2.1),.sc (.int .i64 X.2.2.1),.sc (.int .i64 X.2.2.2.1),.sc (.int .i64 X.2.2.2.2)],.ag [.sc (.int .i64 X.1),.sc (.int .i64 (f:Int))]] _ 3 _ _ 3:=gp
     repeat (first|refine WL.vl rfl (WV.nch rfl rfl) ?_|refine W.gob rfl ?_|refine WL.nil ?_|refine WL.bt rfl rfl rfl zqo ?_|refine WL.bf rfl rfl rfl zqo ?_|refine WL.nt rfl rfl rfl zqo ?_|refine WL.nf rfl rfl rfl zqo ?_|refine WL.e1 rfl ?_|refine WL.ar rfl rfl z16i ?_|refine WL.len rfl rfl rfl ?_|refine W.condT rfl ?_|refine W.condF rfl ?_)
     (first|refine (?_:W _ _ _ _ _)|refine (?_:WL _ _ _ _ _ _)|skip)
     try dsimp only [St.put,Nat.reduceAdd]
     refine WL.idx rfl rfl zqo h1 ?_
     repeat (first|refine WL.vl rfl (WV.nch rfl rfl) ?_|refine W.gob rfl ?_|refine WL.nil ?_|refine WL.bt rfl rfl rfl zqo ?_|refine WL.bf rfl rfl rfl zqo ?_|refine WL.nt rfl rfl rfl zqo ?_|refine WL.nf rfl rfl rfl zqo ?_|refine WL.e1 rfl ?_|refine WL.ar rfl rfl z16i ?_|refine WL.len rfl rfl rfl ?_|refine W.condT rfl ?_|refine W.condF rfl ?_)
     (first|refine (?_:W _ _ _ _ _)|refine (?_:WL _ _ _ _ _ _)|skip)
     try dsimp only [St.put,Nat.reduceAdd]
     refine WL.idx rfl rfl zqo g1 ?_
     repeat (first|refine WL.vl rfl (WV.nch rfl rfl) ?_|refine W.gob rfl ?_|refine WL.nil ?_|refine WL.bt rfl rfl rfl zqo ?_|refine WL.bf rfl rfl rfl zqo ?_|refine WL.nt rfl rfl rfl zqo ?_|refine WL.nf rfl rfl rfl zqo ?_|refine WL.e1 rfl ?_|refine WL.ar rfl rfl z16i ?_|refine WL.len rfl rfl rfl ?_|refine W.condT rfl ?_|refine W.condF rfl ?_)
     (first|refine (?_:W _ _ _ _ _)|refine (?_:WL _ _ _ _ _ _)|skip)
     try dsimp only [St.put,Nat.reduceAdd]
     first|rw [decide_eq_true hxc]|skip
     repeat (first|refine WL.vl rfl (WV.nch rfl rfl) ?_|refine W.gob rfl ?_|refine WL.nil ?_|refine WL.bt rfl rfl rfl zqo ?_|refine WL.bf rfl rfl rfl zqo ?_|refine WL.nt rfl rfl rfl zqo ?_|refine WL.nf rfl rfl rfl zqo ?_|refine WL.e1 rfl ?_|refine WL.ar rfl rfl z16i ?_|refine WL.len rfl rfl rfl ?_|refine W.condT rfl ?_|refine W.condF rfl ?_)
     (first|refine (?_:W _ _ _ _ _)|refine (?_:WL _ _ _ _ _ _)|skip)
     try dsimp only [St.put,Nat.reduceAdd]
     refine W.drawK zqk zqk ?_
     repeat (first|refine DK.st rfl ?_|refine DK.idx rfl rfl zqo gt ?_|refine DK.vl rfl (zqc Tryz.func88 gF) ?_|refine DK.nil ?_)
     repeat (first|refine WL.vl rfl (WV.nch rfl rfl) ?_|refine W.gob rfl ?_|refine WL.nil ?_|refine WL.bt rfl rfl rfl zqo ?_|refine WL.bf rfl rfl rfl zqo ?_|refine WL.nt rfl rfl rfl zqo ?_|refine WL.nf rfl rfl rfl zqo ?_|refine WL.e1 rfl ?_|refine WL.ar rfl rfl z16i ?_|refine WL.len rfl rfl rfl ?_|refine W.condT rfl ?_|refine W.condF rfl ?_)
     (first|refine (?_:W _ _ _ _ _)|refine (?_:WL _ _ _ _ _ _)|skip)
     try dsimp only [St.put,Nat.reduceAdd]
     refine WL.cto (truH _) [6,3,4] rfl rfl (callF Tryz.func61 rfl rfl) gp rfl rfl rfl ⟨⟨rfl,rfl,rfl⟩,⟨rfl,rfl,rfl⟩,⟨rfl,rfl,rfl⟩,trivial⟩ rfl rfl rfl rfl ?_
     repeat (first|refine WL.vl rfl (WV.nch rfl rfl) ?_|refine W.gob rfl ?_|refine WL.nil ?_|refine WL.bt rfl rfl rfl zqo ?_|refine WL.bf rfl rfl rfl zqo ?_|refine WL.nt rfl rfl rfl zqo ?_|refine WL.nf rfl rfl rfl zqo ?_|refine WL.e1 rfl ?_|refine WL.ar rfl rfl z16i ?_|refine WL.len rfl rfl rfl ?_|refine W.condT rfl ?_|refine W.condF rfl ?_)
     (first|refine (?_:W _ _ _ _ _)|refine (?_:WL _ _ _ _ _ _)|skip)
     try dsimp only [St.put,Nat.reduceAdd]
     exact ⟨k+1,by omega,by omega,(zqt id)⟩
  ·obtain rfl:k=p.evs[i].stops.length:=by omega
   rw [ptL_next hlt rfl,kpL_next hlt rfl]
   repeat (first|refine WL.vl rfl (WV.nch rfl rfl) ?_|refine W.gob rfl ?_|refine WL.nil ?_|refine WL.bt rfl rfl rfl zqo ?_|refine WL.bf rfl rfl rfl zqo ?_|refine WL.nt rfl rfl rfl zqo ?_|refine WL.nf rfl rfl rfl zqo ?_|refine WL.e1 rfl ?_|refine WL.ar rfl rfl z16i ?_|refine WL.len rfl rfl rfl ?_|refine W.condT rfl ?_|refine W.condF rfl ?_)
   (first|refine (?_:W _ _ _ _ _)|refine (?_:WL _ _ _ _ _ _)|skip)
   try dsimp only [St.put,Nat.reduceAdd]
   exact ⟨i+1,by omega,by omega,(zqt id)⟩
 ·obtain rfl:i=p.evs.length:=by omega
  rw [ptL_all,kpL_all]
  repeat (first|refine WL.vl rfl (WV.nch rfl rfl) ?_|refine W.gob rfl ?_|refine WL.nil ?_|refine WL.bt rfl rfl rfl zqo ?_|refine WL.bf rfl rfl rfl zqo ?_|refine WL.nt rfl rfl rfl zqo ?_|refine WL.nf rfl rfl rfl zqo ?_|refine WL.e1 rfl ?_|refine WL.ar rfl rfl z16i ?_|refine WL.len rfl rfl rfl ?_|refine W.condT rfl ?_|refine W.condF rfl ?_)
  (first|refine (?_:W _ _ _ _ _)|refine (?_:WL _ _ _ _ _ _)|skip)
  try dsimp only [St.put,Nat.reduceAdd]
  refine WL.cto (truH _) [6,3,4] rfl rfl (callF Tryz.func75 rfl rfl) hSt rfl rfl rfl ⟨⟨rfl,rfl,rfl⟩,⟨rfl,rfl,rfl⟩,⟨rfl,rfl,rfl⟩,trivial⟩ rfl rfl rfl rfl ?_
  repeat (first|refine WL.vl rfl (WV.nch rfl rfl) ?_|refine W.gob rfl ?_|refine WL.nil ?_|refine WL.bt rfl rfl rfl zqo ?_|refine WL.bf rfl rfl rfl zqo ?_|refine WL.nt rfl rfl rfl zqo ?_|refine WL.nf rfl rfl rfl zqo ?_|refine WL.e1 rfl ?_|refine WL.ar rfl rfl z16i ?_|refine WL.len rfl rfl rfl ?_|refine W.condT rfl ?_|refine W.condF rfl ?_)
  (first|refine (?_:W _ _ _ _ _)|refine (?_:WL _ _ _ _ _ _)|skip)
  try dsimp only [St.put,Nat.reduceAdd]
  exact W.ret (finN rfl rfl rfl rfl)
end
section
open Go.RowKit
theorem smallT_FS (p:Pce):Ctr Tryz.prog 13 [ePce p] (.sc (.bool (!longB p))):=by
 refine zqe Tryz.func13 Tryz.ntmps13 fun w0 F0=>?_;dsimp only [St.init,number,Nat.reduceAdd]
 repeat (first|refine W.go rfl ?_|refine WL.ev rfl ?_)
 (first|refine (?_:W _ _ _ _ _)|refine (?_:WL _ _ _ _ _ _)|skip)
 try dsimp only [St.put,Nat.reduceAdd]
 refine WL.vl rfl (WV.call rfl (callF Tryz.func43 rfl rfl) rfl rfl (long_FS p)) ?_
 repeat (first|refine W.go rfl ?_|refine WL.ev rfl ?_)
 (first|refine (?_:W _ _ _ _ _)|refine (?_:WL _ _ _ _ _ _)|skip)
 try dsimp only [St.put,Nat.reduceAdd]
 exact W.ret zqr
theorem fnw_20t {C:Cg} {H:Nat→Stp→Int} {evs:List Ev} (h:∀ k (hk:k<evs.length),evs[k].stops.length≤20):∀ k (hk:k<(fnL H (nwL C evs)).length),((fnL H (nwL C evs))[k]'hk).stops.length≤20:=fun k hk=>by
 have hk2:k<(nwL C evs).length:=by rw [fnL_len]at hk;exact hk
 have hk3:k<evs.length:=by rw [nwL_len]at hk2;exact hk2
 rw [fnL_get hk2,nwL_get hk3]
 show ((nwS C evs[k].stops).map _).length≤20
 rw [List.length_map]
 have:=nwS_len C evs[k].stops
 have:=h k hk3
 omega
theorem rtP_ok {p:Pce} {c b:Int} (hO:PcOk p):PcOk (rtP p c b):=by
 unfold rtP
 split
 ·refine⟨?_,hO.n2,?_,fnw_20t fun k hk=>hO.n4 k hk⟩
  ·show (tnC p.cs c b).length≤64
   rw [tnC_len];exact hO.n1
  ·show (fnL _ _).length≤420
   rw [fnL_len]
   unfold rtN
   rw [nwL_len]
   exact hO.n3
 ·exact⟨by decide,by decide,by decide,fun k hk=>by cases hk⟩
theorem rtL_len {p:Pce} {c b:Int} (hO:PcOk p):(rtL p c b).length≤30000:=by
 unfold rtL
 split
 ·have h20:∀ e∈p.evs,e.stops.length≤20:=fun e he=>by
   obtain ⟨i,hi,rfl⟩:=List.getElem_of_mem he
   exact hO.n4 i hi
  have:=lsL_len (C:=rtC p.cs (tnC p.cs c b) p.st c) (H:=ftH (rtN p c b)) (fun _=>Nat.zero_le _) h20 p.evs.length (Nat.le_refl _)
  have:=hO.n3
  omega
 ·simp
theorem retunes_FS (p:Pce) (c b:Int):Ctr Tryz.prog 10 [ePce p,.sc (.int .i64 c),.sc (.int .i64 b)] (.sc (.bool true)):=by
 have hS:=smallT_FS p
 by_cases hl:longB p=true
 ·rw [hl] at hS
  refine zqe Tryz.func10 Tryz.ntmps10 fun w0 F0=>?_;dsimp only [St.init,number,Nat.reduceAdd]
  repeat (first|refine WL.vl rfl (WV.nch rfl rfl) ?_|refine W.gob rfl ?_|refine WL.nil ?_|refine WL.bt rfl rfl rfl zqo ?_|refine WL.e1 rfl ?_|refine WL.gyes rfl rfl rfl rfl ?_|refine W.condT rfl ?_|refine W.condF rfl ?_)
  (first|refine (?_:W _ _ _ _ _)|refine (?_:WL _ _ _ _ _ _)|skip)
  try dsimp only [St.put,Nat.reduceAdd]
  refine WL.vl rfl (zqc Tryz.func13 hS) ?_
  repeat (first|refine WL.vl rfl (WV.nch rfl rfl) ?_|refine W.gob rfl ?_|refine WL.nil ?_|refine WL.bt rfl rfl rfl zqo ?_|refine WL.e1 rfl ?_|refine WL.gyes rfl rfl rfl rfl ?_|refine W.condT rfl ?_|refine W.condF rfl ?_)
  (first|refine (?_:W _ _ _ _ _)|refine (?_:WL _ _ _ _ _ _)|skip)
  try dsimp only [St.put,Nat.reduceAdd]
  refine WL.vl rfl (zqc Tryz.func14 works04_FS) ?_
  repeat (first|refine WL.vl rfl (WV.nch rfl rfl) ?_|refine W.gob rfl ?_|refine WL.nil ?_|refine WL.bt rfl rfl rfl zqo ?_|refine WL.e1 rfl ?_|refine WL.gyes rfl rfl rfl rfl ?_|refine W.condT rfl ?_|refine W.condF rfl ?_)
  (first|refine (?_:W _ _ _ _ _)|refine (?_:WL _ _ _ _ _ _)|skip)
  try dsimp only [St.put,Nat.reduceAdd]
  exact W.ret zqr
 have hl:longB p=false:=by simpa using hl
 have hO:=pcOk_of3 hl
 rw [hl] at hS
 have h1:=pRetune_FS p hO c b
 have h2:=rRetune_FS p hO c b
 have h3:=same_FS (rtP p c b) (rtP_ok hO)
 have h4:=sameLk_FS (rtL p c b) (rtL_len hO)
 have h6:=pcCopy_FS p hO
 obtain ⟨E,hE⟩:∃ z,rtE p c b=z:=⟨_,rfl⟩
 obtain ⟨LL,hLL⟩:∃ z,(rtL p c b).map eLk=z:=⟨_,rfl⟩
 rw [hE,hLL] at h1 h2
 rw [hLL] at h4
 refine zqe Tryz.func10 Tryz.ntmps10 fun w0 F0=>?_;dsimp only [St.init,number,Nat.reduceAdd]
 repeat (first|refine WL.vl rfl (WV.nch rfl rfl) ?_|refine W.gob rfl ?_|refine WL.nil ?_|refine WL.bt rfl rfl rfl zqo ?_|refine WL.e1 rfl ?_|refine WL.gyes rfl rfl rfl rfl ?_|refine W.condT rfl ?_|refine W.condF rfl ?_)
 (first|refine (?_:W _ _ _ _ _)|refine (?_:WL _ _ _ _ _ _)|skip)
 try dsimp only [St.put,Nat.reduceAdd]
 refine WL.vl rfl (zqc Tryz.func13 hS) ?_
 repeat (first|refine WL.vl rfl (WV.nch rfl rfl) ?_|refine W.gob rfl ?_|refine WL.nil ?_|refine WL.bt rfl rfl rfl zqo ?_|refine WL.e1 rfl ?_|refine WL.gyes rfl rfl rfl rfl ?_|refine W.condT rfl ?_|refine W.condF rfl ?_)
 (first|refine (?_:W _ _ _ _ _)|refine (?_:WL _ _ _ _ _ _)|skip)
 try dsimp only [St.put,Nat.reduceAdd]
 refine WL.vl rfl (zqc Tryz.func15 h6) ?_
 repeat (first|refine WL.vl rfl (WV.nch rfl rfl) ?_|refine W.gob rfl ?_|refine WL.nil ?_|refine WL.bt rfl rfl rfl zqo ?_|refine WL.e1 rfl ?_|refine WL.gyes rfl rfl rfl rfl ?_|refine W.condT rfl ?_|refine W.condF rfl ?_)
 (first|refine (?_:W _ _ _ _ _)|refine (?_:WL _ _ _ _ _ _)|skip)
 try dsimp only [St.put,Nat.reduceAdd]
 refine WL.vl rfl (zqc Tryz.func39 h1) ?_
 repeat (first|refine WL.vl rfl (WV.nch rfl rfl) ?_|refine W.gob rfl ?_|refine WL.nil ?_|refine WL.bt rfl rfl rfl zqo ?_|refine WL.e1 rfl ?_|refine WL.gyes rfl rfl rfl rfl ?_|refine W.condT rfl ?_|refine W.condF rfl ?_)
 (first|refine (?_:W _ _ _ _ _)|refine (?_:WL _ _ _ _ _ _)|skip)
 try dsimp only [St.put,Nat.reduceAdd]
 refine WL.vl rfl (zqc Tryz.func40 h2) ?_
 repeat (first|refine WL.vl rfl (WV.nch rfl rfl) ?_|refine W.gob rfl ?_|refine WL.nil ?_|refine WL.bt rfl rfl rfl zqo ?_|refine WL.e1 rfl ?_|refine WL.gyes rfl rfl rfl rfl ?_|refine W.condT rfl ?_|refine W.condF rfl ?_)
 (first|refine (?_:W _ _ _ _ _)|refine (?_:WL _ _ _ _ _ _)|skip)
 try dsimp only [St.put,Nat.reduceAdd]
 refine WL.vl rfl (zqc Tryz.func18 h3) ?_
 repeat (first|refine WL.vl rfl (WV.nch rfl rfl) ?_|refine W.gob rfl ?_|refine WL.nil ?_|refine WL.bt rfl rfl rfl zqo ?_|refine WL.e1 rfl ?_|refine WL.gyes rfl rfl rfl rfl ?_|refine W.condT rfl ?_|refine W.condF rfl ?_)
 (first|refine (?_:W _ _ _ _ _)|refine (?_:WL _ _ _ _ _ _)|skip)
 try dsimp only [St.put,Nat.reduceAdd]
 refine WL.vl rfl (zqc Tryz.func19 h4) ?_
 repeat (first|refine WL.vl rfl (WV.nch rfl rfl) ?_|refine W.gob rfl ?_|refine WL.nil ?_|refine WL.bt rfl rfl rfl zqo ?_|refine WL.e1 rfl ?_|refine WL.gyes rfl rfl rfl rfl ?_|refine W.condT rfl ?_|refine W.condF rfl ?_)
 (first|refine (?_:W _ _ _ _ _)|refine (?_:WL _ _ _ _ _ _)|skip)
 try dsimp only [St.put,Nat.reduceAdd]
 refine WL.vl rfl (zqc Tryz.func14 works04_FS) ?_
 repeat (first|refine WL.vl rfl (WV.nch rfl rfl) ?_|refine W.gob rfl ?_|refine WL.nil ?_|refine WL.bt rfl rfl rfl zqo ?_|refine WL.e1 rfl ?_|refine WL.gyes rfl rfl rfl rfl ?_|refine W.condT rfl ?_|refine W.condF rfl ?_)
 (first|refine (?_:W _ _ _ _ _)|refine (?_:WL _ _ _ _ _ _)|skip)
 try dsimp only [St.put,Nat.reduceAdd]
 exact W.ret zqr
theorem retunes_walk (p:Pce) (v:Value) (c b:Int) (w:World) (h:RP (fun q=>w.cell? q) (ePce p) v):Calls Tryz.prog 10 #[v,.int .i64 c,.int .i64 b] w (Ret (.bool true) w):=by
 refine (retunes_FS p c b w (fun q=>w.cell? q) [v,.int .i64 c,.int .i64 b] (fun _ _ h=>h) ⟨rfl,fun i av u a b=>?_⟩).mono fun e w' ⟨u,F',he,hb,_,_,_,hr⟩=>⟨?_,hb⟩
 ·match i with
  | 0=>cases a;cases b;exact h
  | 1=>cases a;cases b;exact .sc _
  | 2=>cases a;cases b;exact .sc _
  | i+3=>simp at a
 ·rw [he,hr.sc_eq]
end
end Go.Proofs.YtaeelcfjkhfpkaaGreat
