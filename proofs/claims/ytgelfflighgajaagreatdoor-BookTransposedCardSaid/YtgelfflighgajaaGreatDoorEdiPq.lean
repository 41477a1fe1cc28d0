/- book.Edition: the program. -/
import Derived.Test.YtgelfflighgajaaGreatDoorEdPPq
set_option maxHeartbeats 8000000
set_option maxRecDepth 100000
set_option linter.unusedVariables false
set_option linter.unusedSimpArgs false
namespace Go.Proofs.YtgelfflighgajaaGreatDoor
open Go.RowKit
theorem z16o {p:Prop} (h:p:=by omega):p:=h
theorem pSysName_bad (s:Int) (hs:¬ (1≤s∧s≤4)):Ctr Tryz.prog 69 [.sc (.int .u8 s)] (.tu [.sc (.string (bs [])),.sc (.int .i64 30)]):=by
 have h:=of_FS s
 rw [decide_eq_false hs] at h
 refine Ctr.intro Tryz.func69 rfl Tryz.ntmps69 (Nat.le_of_ble_eq_true rfl) (bd_all rfl) fun w0 F0=>?_;dsimp only [St.init,number,Nat.reduceAdd]
 repeat refine W.go rfl ?_
 refine (?_:WL _ _ _ _ _ _)
 refine WL.vl rfl (WV.call rfl (callF Tryz.func122 rfl rfl) rfl rfl h) ?_
 repeat (first|refine W.gob rfl ?_|refine WL.nil ?_|refine WL.e1 rfl ?_|refine W.condT rfl ?_)
 refine (?_:W _ _ _ _ _)
 exact W.ret (fin2 rfl rfl rfl rfl rfl rfl rfl)
theorem pSysName_ok (s:Int) (hs:1≤s∧s≤4):Ctr Tryz.prog 69 [.sc (.int .u8 s)] (.tu [.sc (.string (bs (snmT s))),.sc (.int .i64 0)]):=by
 have h:=of_FS s
 rw [decide_eq_true hs] at h
 have hnm:=name_FS s hs
 refine Ctr.intro Tryz.func69 rfl Tryz.ntmps69 (Nat.le_of_ble_eq_true rfl) (bd_all rfl) fun w0 F0=>?_;dsimp only [St.init,number,Nat.reduceAdd]
 repeat refine W.go rfl ?_
 refine (?_:WL _ _ _ _ _ _)
 refine WL.vl rfl (WV.call rfl (callF Tryz.func122 rfl rfl) rfl rfl h) ?_
 repeat (first|refine W.gob rfl ?_|refine WL.nil ?_|refine WL.e1 rfl ?_|refine W.condF rfl ?_)
 refine (?_:WL _ _ _ _ _ _)
 refine WL.vl rfl (WV.sys hs nameF rfl rfl (fun vs w=>by kernel_rfl) (fun vs w=>by kernel_rfl) (fun vs w=>by kernel_rfl) (fun vs w=>by kernel_rfl) rfl rfl hnm) ?_
 repeat (first|refine WL.nil ?_|refine WL.e1 rfl ?_)
 refine (?_:W _ _ _ _ _)
 exact W.ret (fin2 rfl rfl rfl rfl rfl rfl rfl)
theorem ed_sys {s:Int} {p:Pce} {key:Int} (h:¬ (1≤s∧s≤4)):edX s p key=30∧edT s p key=[]:=by
 have:edX s p key=30:=if_neg h
 exact⟨this,by unfold edT;rw [this];rfl⟩
theorem ed_eng {s:Int} {p:Pce} {key:Int} (h:1≤s∧s≤4)(h2:engX p key≠0):edX s p key=engX p key∧edT s p key=[]:=by
 have:edX s p key=engX p key:=by unfold edX;rw [if_pos h,if_pos h2]
 exact⟨this,by unfold edT;rw [this,if_neg h2]⟩
theorem ed_no {s:Int} {p:Pce} {key:Int} (h:1≤s∧s≤4)(h2:engX p key=0)(h3:lksR s p≠[]):edX s p key=31∧edT s p key=[]:=by
 have:edX s p key=31:=by unfold edX;rw [if_pos h,if_neg (by simp [h2]),if_neg h3]
 exact⟨this,by unfold edT;rw [this];rfl⟩
theorem ed_ok {s:Int} {p:Pce} {key:Int} (h:1≤s∧s≤4) (h2:engX p key=0) (h3:lksR s p=[]):edX s p key=0∧edT s p key=edB s p (mea p.evs p.evs.length) (engL p key) p.evs.length:=by
 have:edX s p key=0:=by unfold edX;rw [if_pos h,if_neg (by simp [h2]),if_pos h3]
 exact ⟨this,by unfold edT;rw [this];rfl⟩
theorem pEdition_G1 (s:Int) (p:Pce) (hO:PcOk p) (key:Int) (hne:0 < p.evs.length):Ctg tabB Tryz.prog 50 [ePce p,.sc (.int .i64 key),.sc (.int .u8 s)] (.tu [.sc (.string (bs (edT s p key))),.sc (.int .i64 (edX s p key))]):=by
 have hn3:=hO.n3
 by_cases hs:1≤s∧s≤4
 rotate_left
 ·rw [(ed_sys hs).1,(ed_sys hs).2]
  refine Ctg.intro stabB Tryz.func50 rfl Tryz.ntmps50 (Nat.le_of_ble_eq_true rfl) (bd_all rfl) fun w0 F0 hB=>?_;dsimp only [St.init,number,Nat.reduceAdd]
  repeat refine W.go rfl ?_
  refine (?_:WL _ _ _ _ _ _)
  refine WL.vl rfl (WV.call rfl (callF Tryz.func69 rfl rfl) rfl rfl (pSysName_bad s hs)) ?_
  repeat (first|refine W.gob rfl ?_|refine WL.nil ?_|refine WL.nt rfl rfl rfl z16o ?_|refine WL.e1 rfl ?_|refine W.condT rfl ?_)
  refine (?_:W _ _ _ _ _)
  exact W.ret (fin2 rfl rfl rfl rfl rfl rfl rfl)
 have hE:=pEngrave_FS p hO key
 by_cases hx:engX p key=0
 rotate_left
 ·rw [(ed_eng hs hx).1,(ed_eng hs hx).2]
  obtain ⟨E,hEq⟩:∃ E,engX p key=E:=⟨_,rfl⟩
  rw [hEq] at hx hE ⊢
  refine Ctg.intro stabB Tryz.func50 rfl Tryz.ntmps50 (Nat.le_of_ble_eq_true rfl) (bd_all rfl) fun w0 F0 hB=>?_;dsimp only [St.init,number,Nat.reduceAdd]
  repeat refine W.go rfl ?_
  refine (?_:WL _ _ _ _ _ _)
  refine WL.vl rfl (WV.call rfl (callF Tryz.func69 rfl rfl) rfl rfl (pSysName_ok s hs)) ?_
  repeat (first|refine W.gob rfl ?_|refine WL.nil ?_|refine WL.nf rfl rfl rfl z16o ?_|refine WL.e1 rfl ?_|refine W.condF rfl ?_)
  refine (?_:WL _ _ _ _ _ _)
  refine WL.vl rfl (WV.callG hB rfl (callF Tryz.func110 rfl rfl) rfl rfl hE) ?_
  repeat (first|refine W.gob rfl ?_|refine WL.nil ?_|refine WL.nt rfl rfl rfl z16o ?_|refine WL.e1 rfl ?_|refine W.condT rfl ?_)
  refine (?_:W _ _ _ _ _)
  exact W.ret (fin2 rfl rfl rfl rfl rfl rfl rfl)
 obtain ⟨h0,hsf,hsl⟩:=engL_ok hO hx
 have hlE:=(lks_ok hs h0).2
 have hlR:=(lks_ok hs h0).1
 have hc:=pCan_FS s p hO
 rw [hlE] at hc
 rw [hx] at hE
 by_cases hl:lksR s p=[]
 rotate_left
 ·rw [(ed_no hs hx hl).1,(ed_no hs hx hl).2]
  have hb:((0:Int) == 0 && ((lksR s p).length:Int) == 0)=false:=by
   have:(lksR s p).length≠0:=fun h=>hl (List.eq_nil_of_length_eq_zero h)
   simp;omega
  rw [hb] at hc
  refine Ctg.intro stabB Tryz.func50 rfl Tryz.ntmps50 (Nat.le_of_ble_eq_true rfl) (bd_all rfl) fun w0 F0 hB=>?_;dsimp only [St.init,number,Nat.reduceAdd]
  repeat refine W.go rfl ?_
  refine (?_:WL _ _ _ _ _ _)
  refine WL.vl rfl (WV.call rfl (callF Tryz.func69 rfl rfl) rfl rfl (pSysName_ok s hs)) ?_
  repeat (first|refine W.gob rfl ?_|refine WL.nil ?_|refine WL.nf rfl rfl rfl z16o ?_|refine WL.e1 rfl ?_|refine W.condF rfl ?_)
  refine (?_:WL _ _ _ _ _ _)
  refine WL.vl rfl (WV.callG hB rfl (callF Tryz.func110 rfl rfl) rfl rfl hE) ?_
  repeat (first|refine W.gob rfl ?_|refine WL.nil ?_|refine WL.nf rfl rfl rfl z16o ?_|refine WL.e1 rfl ?_|refine W.condF rfl ?_)
  refine (?_:WL _ _ _ _ _ _)
  refine WL.vl rfl (WV.call rfl (callF Tryz.func70 rfl rfl) rfl rfl hc) ?_
  repeat (first|refine W.gob rfl ?_|refine WL.nil ?_|refine WL.e1 rfl ?_|refine W.condT rfl ?_)
  refine (?_:W _ _ _ _ _)
  exact W.ret (fin2 rfl rfl rfl rfl rfl rfl rfl)
 rw [(ed_ok hs hx hl).1,(ed_ok hs hx hl).2]
 have hb:((0:Int) == 0 && ((lksR s p).length:Int) == 0)=true:=by rw [hl];rfl
 rw [hb] at hc
 have hOn:=pOnsets_FS p hO
 rw [if_pos h0,h0] at hOn
 have hMe:=pMeasures_FS p hO
 have e4:meaR p=mea p.evs p.evs.length:=if_pos h0
 rw [e4,h0] at hMe
 have hml:=mea_length p.evs p.evs.length
 have hmb:=mea_bd p.evs p.evs.length
 have hol:=onsL_length p.evs p.evs.length
 have hnil:∀ i (h:i < p.evs.length),lackE s p i p.evs[i]=[]:=fun i h=>lksTo_none p.evs.length (Nat.le_refl _) (by rw [← hlR];exact hl) i h h
 have hMh:∃ x r,mea p.evs p.evs.length=x::r∧x.1=0:=by
  obtain ⟨n,hn⟩:∃ n,p.evs.length=n+1:=⟨p.evs.length - 1,by omega⟩
  rw [hn];exact mea_head p.evs n
 obtain ⟨MS,hMS⟩:∃ L,mea p.evs p.evs.length=L:=⟨_,rfl⟩
 obtain ⟨L,hL⟩:∃ L,engL p key=L:=⟨_,rfl⟩
 rw [hMS] at hMe hml hmb hMh ⊢
 rw [hL] at hE hsf hsl ⊢
 refine Ctg.intro stabB Tryz.func50 rfl Tryz.ntmps50 (Nat.le_of_ble_eq_true rfl) (bd_all rfl) fun w0 F0 hB=>?_;dsimp only [St.init,number,Nat.reduceAdd]
 repeat refine W.go rfl ?_
 refine (?_:WL _ _ _ _ _ _)
 refine WL.vl rfl (WV.call rfl (callF Tryz.func69 rfl rfl) rfl rfl (pSysName_ok s hs)) ?_
 repeat (first|refine W.gob rfl ?_|refine WL.nil ?_|refine WL.nf rfl rfl rfl z16o ?_|refine WL.e1 rfl ?_|refine W.condF rfl ?_)
 refine (?_:WL _ _ _ _ _ _)
 refine WL.vl rfl (WV.callG hB rfl (callF Tryz.func110 rfl rfl) rfl rfl hE) ?_
 repeat (first|refine W.gob rfl ?_|refine WL.nil ?_|refine WL.nf rfl rfl rfl z16o ?_|refine WL.e1 rfl ?_|refine W.condF rfl ?_)
 refine (?_:WL _ _ _ _ _ _)
 refine WL.vl rfl (WV.call rfl (callF Tryz.func70 rfl rfl) rfl rfl hc) ?_
 repeat (first|refine W.gob rfl ?_|refine WL.nil ?_|refine WL.e1 rfl ?_|refine W.condF rfl ?_)
 refine (?_:WL _ _ _ _ _ _)
 refine WL.vl rfl (WV.call rfl (callF Tryz.func111 rfl rfl) rfl rfl hOn) ?_
 repeat (first|refine W.gob rfl ?_|refine WL.nil ?_|refine WL.e1 rfl ?_)
 refine (?_:WL _ _ _ _ _ _)
 refine WL.vl rfl (WV.call rfl (callF Tryz.func112 rfl rfl) rfl rfl hMe) ?_
 repeat (first|refine W.gob rfl ?_|refine WL.nil ?_|refine WL.e1 rfl ?_|refine WL.len rfl rfl zql ?_)
 refine (?_:W _ _ _ _ _)
 first|refine W.tr (Tr.bld 1 5 rfl) ?_|refine WL.tr (Tr.bld 1 5 rfl) ?_
 dsimp only [St.upd]
 refine (?_:W _ _ _ _ _)
 refine W.loop (fun k:Nat=>k≤p.evs.length∧mAt MS k≤MS.length∧(mAt MS k≠0→∃ x,MS[mAt MS k - 1]?=some x∧x.1≤k)∧(edB s p MS L k).length≤1300000*k) (fun k=>⟨[(2,.sc (.int .u8 s)),(3,.pt 0 0 0),(10,.ls 4 ((rsT L k).map eSf)),(12,.ls 1 ((onsL p.evs p.evs.length).map eInt)),(14,.ls 3 (MS.map eMea)),(16,.pt 1 0 0),(17,.sc (.int .i64 (mAt MS k:Nat))),(57,.ls 6 (p.evs.map eEv)),(58,.sc (.int .i64 p.evs.length)),(59,.sc (.int .i64 k))],[(0,.box 28 (ePce p).cells),(1,.bld 109 5 (edB s p MS L k))],2⟩) (fun k=>p.evs.length - k) 0 ⟨by omega,Nat.zero_le _,fun h=>absurd rfl h,by simp [edB]⟩ (zqt id) fun k hk=>?_
 obtain ⟨hk1,hmL,hmF,hBl⟩:=hk
 by_cases hlt:k < p.evs.length
 rotate_left
 ·obtain rfl:k=p.evs.length:=by omega
  have hBn:edB s p MS L p.evs.length≠[]:=by
   obtain ⟨n,hn⟩:∃ n,p.evs.length=n+1:=⟨p.evs.length - 1,by omega⟩
   rw [hn]
   unfold edB
   rw [edN_at (by omega)]
   unfold edR
   simp
  repeat (first|refine W.gob rfl ?_|refine WL.nil ?_|refine WL.bf rfl rfl rfl z16o ?_|refine W.condF rfl ?_)
  refine (?_:WL _ _ _ _ _ _)
  refine WL.bs rfl rfl rfl (callF Tryz.func59 rfl rfl) bldS_ok hBn ?_
  repeat (first|refine WL.nil ?_|refine WL.e1 rfl ?_)
  refine (?_:W _ _ _ _ _)
  exact W.ret (fin2 rfl rfl rfl rfl rfl rfl rfl)
 obtain ⟨ev,hev⟩:∃ e,p.evs[k]=e:=⟨_,rfl⟩
 have hcx:=colX_ok hs z16o hlt (hnil k hlt)
 have hcol:=pColumn_FS s p hO k
 rw [hcx.1,hcx.2] at hcol
 have hcl:=colS_len hs hO h0 k hlt
 have hNk:=edN_at (s:=s) (p:=p) (MS:=MS) (L:=L) hlt
 rw [hev] at hcol hcl hNk
 repeat (first|refine W.gob rfl ?_|refine WL.nil ?_|refine WL.bt rfl rfl rfl z16o ?_|refine WL.e1 rfl ?_|refine WL.idx rfl rfl z16o zqm ?_|refine W.condT rfl ?_)
 refine (?_:W _ _ _ _ _)
 rw [hev]
 obtain ⟨B,hBq⟩:∃ B,edB s p MS L k=B:=⟨_,rfl⟩
 have hBs:edB s p MS L (k+1)=B++edN s p MS L k:=by rw [← hBq];rfl
 rw [hBq] at hBl ⊢
 refine W.loop (fun m:Nat=>m≤MS.length∧nextF MS k (mAt MS k)=nextF MS k m∧(m≠0→∃ x,MS[m - 1]?=some x∧x.1≤k)) (fun m=>⟨[(2,.sc (.int .u8 s)),(3,.pt 0 0 0),(10,.ls 4 ((rsT L k).map eSf)),(12,.ls 1 ((onsL p.evs p.evs.length).map eInt)),(14,.ls 3 (MS.map eMea)),(16,.pt 1 0 0),(17,.sc (.int .i64 (m:Nat))),(18,.sc (.int .i64 k)),(19,.pt 2 0 0),(57,.ls 6 (p.evs.map eEv)),(58,.sc (.int .i64 p.evs.length)),(59,.sc (.int .i64 k))],[(0,.box 28 (ePce p).cells),(1,.bld 109 5 B),(2,.box 36 (eEv ev))],3⟩) (fun m=>MS.length - m) (mAt MS k) ⟨hmL,rfl,hmF⟩ (zqt id) fun m hm=>?_
 obtain ⟨hm1,hm3,hm4⟩:=hm
 by_cases hgo:∃ h:m < MS.length,MS[m].1≤k
 ·obtain ⟨h1,h2⟩:=hgo
  repeat (first|refine W.gob rfl ?_|refine WL.nil ?_|refine WL.bt rfl rfl rfl z16o ?_|refine WL.e1 rfl ?_|refine WL.gyes rfl rfl rfl rfl ?_|refine WL.ar rfl rfl (by unfold I64;omega) ?_|refine WL.len rfl rfl zql ?_|refine WL.idx rfl rfl z16o zqm ?_|refine W.condT rfl ?_)
  refine ⟨m+1,⟨by omega,hm3.trans (nextF_step h1 h2),fun _=>⟨MS[m],by simp [h1],h2⟩⟩,by omega,?_⟩
  exact (zqt id)
 have hm0:m≠0:=fun h=>by
  obtain ⟨y,r,hy1,hy2⟩:=hMh
  subst hy1 h
  exact hgo ⟨by simp,by show y.1≤_;omega⟩
 obtain ⟨x,hx1,hx2⟩:=hm4 hm0
 have hmA:mAt MS (k+1)=m:=by
  show nextF MS k (mAt MS k)=m
  rw [hm3]
  by_cases h:m < MS.length
  ·exact nextF_no h (fun h2=>hgo ⟨h,h2⟩)
  ·exact nextF_end z16o
 have hxb:=(hmb x (List.mem_of_getElem? hx1)).1
 refine W.seq ?_
 refine W.seqM ⟨[(76,.sc (.bool false)),(2,.sc (.int .u8 s)),(3,.pt 0 0 0),(10,.ls 4 ((rsT L k).map eSf)),(12,.ls 1 ((onsL p.evs p.evs.length).map eInt)),(14,.ls 3 (MS.map eMea)),(16,.pt 1 0 0),(17,.sc (.int .i64 (m:Nat))),(18,.sc (.int .i64 k)),(19,.pt 2 0 0),(57,.ls 6 (p.evs.map eEv)),(58,.sc (.int .i64 p.evs.length)),(59,.sc (.int .i64 k))],[(0,.box 28 (ePce p).cells),(1,.bld 109 5 B),(2,.box 36 (eEv ev))],3⟩ ?_ ?_
 ·have hno:MS.length≤m∨(∃ h:m < MS.length,¬ MS[m].1≤k):=by
   by_cases h:m < MS.length
   ·exact .inr ⟨h,fun h2=>hgo ⟨h,h2⟩⟩
   ·exact .inl z16o
  rcases hno with h|⟨h1,h2⟩
  all_goals
   repeat (first|refine W.gob rfl ?_|refine WL.nil ?_|refine WL.bt rfl rfl rfl z16o ?_|refine WL.bf rfl rfl rfl z16o ?_|refine WL.e1 rfl ?_|refine WL.gyes rfl rfl rfl rfl ?_|refine WL.opno rfl rfl rfl rfl rfl rfl rfl ?_|refine WL.len rfl rfl zql ?_|refine WL.idx rfl rfl z16o zqm ?_)
   refine (?_:Tr _ _ _)
   exact (zqt id)
 repeat (first|refine W.go rfl ?_|refine W.condF rfl ?_)
 refine (?_:W _ _ _ _ _)
 obtain ⟨t0,ht0⟩:∃ t:List UInt8,(if ev.tie=true then [126] else [37])=t:=⟨_,rfl⟩
 have ht0l:t0.length≤1:=by rw [← ht0];split<;>simp
 refine W.meet ⟨[(20,.sc (.string (bs t0))),(2,.sc (.int .u8 s)),(3,.pt 0 0 0),(10,.ls 4 ((rsT L k).map eSf)),(12,.ls 1 ((onsL p.evs p.evs.length).map eInt)),(14,.ls 3 (MS.map eMea)),(16,.pt 1 0 0),(17,.sc (.int .i64 (m:Nat))),(18,.sc (.int .i64 k)),(19,.pt 2 0 0),(57,.ls 6 (p.evs.map eEv)),(58,.sc (.int .i64 p.evs.length)),(59,.sc (.int .i64 k))],[(0,.box 28 (ePce p).cells),(1,.bld 109 5 B),(2,.box 36 (eEv ev))],3⟩ ?_ ?_
 ·(refine W.cond rfl (fun hif=>?_) (fun hif=>?_)<;>(try simp only [decide_eq_true_eq,decide_eq_false_iff_not,Int.not_lt,Int.not_le,Bool.not_eq_true',Bool.not_eq_false'] at hif))
  ·have hif2:ev.tie=true:=hif
   rw [if_pos hif2] at ht0
   subst ht0
   repeat refine W.go rfl ?_
   refine (?_:Tr _ _ _)
   exact (zqt id)
  ·have hif2:¬ ev.tie=true:=by simpa using hif
   rw [if_neg hif2] at ht0
   subst ht0
   repeat refine W.go rfl ?_
   refine (?_:Tr _ _ _)
   exact (zqt id)
 repeat refine W.go rfl ?_
 refine (?_:W _ _ _ _ _)
 refine W.tr (Tr.nil (t:=21) 9 1 rfl rfl) ?_
 dsimp only [St.put,St.new,St.upd,Nat.reduceAdd]
 obtain ⟨rs,hrs⟩:∃ r,rsT L k=r:=⟨_,rfl⟩
 have hrsub:=rsT_sub L k
 rw [hrs] at hrsub ⊢
 refine W.loop (fun q:Nat=>q≤rs.length∧∀ y∈rs.take q,y.1=(k:Int)) (fun q=>⟨[(20,.sc (.string (bs t0))),(21,.sl 3),(2,.sc (.int .u8 s)),(3,.pt 0 0 0),(10,.ls 4 ((rs.drop q).map eSf)),(12,.ls 1 ((onsL p.evs p.evs.length).map eInt)),(14,.ls 3 (MS.map eMea)),(16,.pt 1 0 0),(17,.sc (.int .i64 (m:Nat))),(18,.sc (.int .i64 k)),(19,.pt 2 0 0),(57,.ls 6 (p.evs.map eEv)),(58,.sc (.int .i64 p.evs.length)),(59,.sc (.int .i64 k))],[(0,.box 28 (ePce p).cells),(1,.bld 109 5 B),(2,.box 36 (eEv ev)),(3,.row 9 1 (((rs.take q).map sfT).map eStr))],4⟩) (fun q=>rs.length - q) 0 ⟨Nat.zero_le _,by simp⟩ (zqt id) fun q hq=>?_
 obtain ⟨hq1,hq2⟩:=hq
 obtain ⟨R,hR⟩:∃ R,rs.drop q=R:=⟨_,rfl⟩
 have hRl:R.length=rs.length - q:=by rw [← hR,List.length_drop]
 by_cases hgo2:∃ y r,R=y::r∧y.1=(k:Int)
 ·obtain ⟨y,r,rfl,hy⟩:=hgo2
  have hqq:q < rs.length:=by simp only [List.length_cons] at hRl;omega
  have hcons:=List.drop_eq_getElem_cons hqq
  rw [hR] at hcons
  obtain ⟨hy1,hr1⟩:=List.cons.inj hcons
  have htk:=List.take_succ_eq_append_getElem hqq
  rw [← hy1] at htk
  have hySf:SfOk y:=hsf y (hrsub.1 y (by rw [hy1];exact List.getElem_mem hqq))
  have hrow:((rs.take q).map sfT).map eStr++[eStr (sfT y)]=((rs.take (q+1)).map sfT).map eStr:=by rw [htk];simp
  have hpr:prt (eSf y::r.map eSf) 1 ((eSf y::r.map eSf).length:Nat)=r.map eSf:=by unfold prt;simp;rw [List.take_of_length_le (by simp)]
  have hst:=staffed_G y hySf
  have hlc:(eSf y::r.map eSf).length=r.length+1:=by simp
  have hrowl:(rs.take q).length=q:=by rw [List.length_take];omega
  have hrlen:rs.length≤8400:=by omega
  rw [hR,List.map_cons]
  repeat (first|refine W.gob rfl ?_|refine WL.bt rfl rfl rfl z16o ?_|refine WL.e1 rfl ?_|refine WL.gyes rfl rfl rfl rfl ?_|refine WL.len rfl rfl zql ?_)
  refine (?_:WL _ _ _ _ _ _)
  refine WL.idx rfl rfl (by decide) (r:=eSf y) rfl ?_
  repeat (first|refine W.gob rfl ?_|refine WL.nil ?_|refine WL.bt rfl rfl rfl z16o ?_|refine WL.e1 rfl ?_|refine WL.gyes rfl rfl rfl rfl ?_|refine W.condT rfl ?_)
  refine (?_:WL _ _ _ _ _ _)
  refine WL.idx rfl rfl (by decide) (r:=eSf y) rfl ?_
  repeat refine WL.e1 rfl ?_
  refine (?_:WL _ _ _ _ _ _)
  refine WL.vl rfl (WV.callG hB rfl (callF Tryz.func113 rfl rfl) rfl rfl hst) ?_
  repeat (first|refine W.gob rfl ?_|refine WL.nil ?_|refine WL.e1 rfl ?_|refine WL.app rfl rfl rfl (by first|omega|(simp;done)|(simp;omega)) ?_)
  refine (?_:WL _ _ _ _ _ _)
  refine WL.part_ rfl rfl ⟨by decide,by simp;omega,Int.le_refl _⟩ hpr ?_
  repeat (first|refine WL.nil ?_|refine WL.e1 rfl ?_)
  refine ⟨q+1,⟨by omega,fun z hz=>?_⟩,by omega,?_⟩
  ·rw [htk] at hz
   rcases List.mem_append.1 hz with hz|hz
   ·exact hq2 z hz
   ·rw [List.mem_singleton] at hz;rw [hz];exact hy
  rw [← hr1]
  exact (zqu (fun q=>bif Nat.beq q 3 then 5 else q) (by repeat (first|exact trivial|refine ⟨⟨?_,?_,?_⟩,?_⟩|rfl|exact congrArg (fun q=>some (AO.row _ _ q)) hrow)) rfl)
 have htd:=take_drop_while (f:=fun z:Sf=>decide (z.1=(k:Int))) hq1 (fun z hz=>by simpa using hq2 z hz) (fun h=>by
  have:=List.drop_eq_getElem_cons h
  rw [hR] at this
  simp only [decide_eq_false_iff_not]
  intro hz
  exact hgo2 ⟨_,_,this,hz⟩)
 have hnm:nmK L k=(rs.take q).map sfT:=by unfold nmK;rw [hrs,htd.1]
 have hrs1:rsT L (k+1)=R:=by
  show (rsT L k).dropWhile _=_
  rw [hrs,htd.2,hR]
 refine W.seq ?_
 refine W.seqM ⟨[(91,.sc (.bool false)),(20,.sc (.string (bs t0))),(21,.sl 3),(2,.sc (.int .u8 s)),(3,.pt 0 0 0),(10,.ls 4 (R.map eSf)),(12,.ls 1 ((onsL p.evs p.evs.length).map eInt)),(14,.ls 3 (MS.map eMea)),(16,.pt 1 0 0),(17,.sc (.int .i64 (m:Nat))),(18,.sc (.int .i64 k)),(19,.pt 2 0 0),(57,.ls 6 (p.evs.map eEv)),(58,.sc (.int .i64 p.evs.length)),(59,.sc (.int .i64 k))],[(0,.box 28 (ePce p).cells),(1,.bld 109 5 B),(2,.box 36 (eEv ev)),(3,.row 9 1 (((rs.take q).map sfT).map eStr))],4⟩ ?_ ?_
 ·have hno:R=[]∨(∃ y r,R=y::r∧¬ y.1=(k:Int)):=by
   cases hRc:R with
   | nil=>exact .inl rfl
   | cons y r=>exact .inr ⟨y,r,rfl,fun h=>hgo2 ⟨y,r,hRc,h⟩⟩
  rw [hR]
  rcases hno with h|⟨y,r,h1,h2⟩
  ·subst h
   rw [List.map_nil]
   repeat (first|refine W.gob rfl ?_|refine WL.nil ?_|refine WL.e1 rfl ?_|refine WL.opno rfl rfl rfl rfl rfl rfl rfl ?_|refine WL.len rfl rfl zql ?_)
   refine (?_:Tr _ _ _)
   exact (zqt id)
  ·subst h1
   have hlc:(eSf y::r.map eSf).length=r.length+1:=by simp
   rw [List.map_cons]
   repeat (first|refine W.gob rfl ?_|refine WL.bt rfl rfl rfl z16o ?_|refine WL.e1 rfl ?_|refine WL.gyes rfl rfl rfl rfl ?_|refine WL.len rfl rfl zql ?_)
   refine (?_:WL _ _ _ _ _ _)
   refine WL.idx rfl rfl (by decide) (r:=eSf y) rfl ?_
   repeat (first|refine WL.nil ?_|refine WL.bf rfl rfl rfl z16o ?_|refine WL.e1 rfl ?_|refine WL.gyes rfl rfl rfl rfl ?_)
   refine (?_:Tr _ _ _)
   exact (zqt id)
 have hrowl:(rs.take q).length=q:=by rw [List.length_take];omega
 have hrsl:rs.length≤8400:=by omega
 have hevl:=evT_len hsf hsl k ev
 have hjl:=join_len [43] (by simp) (nmK L k) (nmK_len hsf hsl k).2
 have hnl:=(nmK_len hsf hsl k).1
 have hJ:=joinS_FS [43] (nmK L k) z16o z16o
 have hevT:evT L k ev=if nmK L k=[] then t0 else Lib.join (nmK L k) [43]:=by unfold evT;rw [ht0]
 rw [← hnm]
 obtain ⟨nm,hnmq⟩:∃ z,nmK L k=z:=⟨_,rfl⟩
 rw [hnmq] at hjl hnl hJ hevT ⊢
 repeat (first|refine W.gob rfl ?_|refine WL.nil ?_|refine WL.e1 rfl ?_|refine WL.len rfl rfl zql ?_|refine W.condF rfl ?_)
 refine (?_:W _ _ _ _ _)
 refine W.meet ⟨[(20,.sc (.string (bs (evT L k ev)))),(2,.sc (.int .u8 s)),(3,.pt 0 0 0),(10,.ls 4 (R.map eSf)),(12,.ls 1 ((onsL p.evs p.evs.length).map eInt)),(14,.ls 3 (MS.map eMea)),(16,.pt 1 0 0),(17,.sc (.int .i64 (m:Nat))),(18,.sc (.int .i64 k)),(19,.pt 2 0 0),(57,.ls 6 (p.evs.map eEv)),(58,.sc (.int .i64 p.evs.length)),(59,.sc (.int .i64 k))],[(0,.box 28 (ePce p).cells),(1,.bld 109 5 B),(2,.box 36 (eEv ev))],4⟩ ?_ ?_
 ·(refine W.cond rfl (fun hif=>?_) (fun hif=>?_)<;>(try simp only [decide_eq_true_eq,decide_eq_false_iff_not,Int.not_lt,Int.not_le,Bool.not_eq_true',Bool.not_eq_false'] at hif))
  ·have hn0:nm≠[]:=fun h=>by rw [h] at hif;simp at hif
   rw [hevT,if_neg hn0]
   obtain ⟨jt,hjt⟩:∃ z,Lib.join nm [43]=z:=⟨_,rfl⟩
   rw [hjt] at hJ ⊢
   repeat (first|refine W.gob rfl ?_|refine WL.e1 rfl ?_)
   refine (?_:WL _ _ _ _ _ _)
   refine WL.tr (Tr.freeze 3 rfl) ?_
   refine WL.vl rfl (WV.call rfl (callF Tryz.func114 rfl rfl) rfl rfl hJ) ?_
   repeat (first|refine WL.nil ?_|refine WL.e1 rfl ?_)
   refine (?_:Tr _ _ _)
   exact (zqt id)
  ·have hn0:nm=[]:=List.eq_nil_of_length_eq_zero (by first|omega|(simp at hif;omega)|(simpa using hif))
   rw [hevT,if_pos hn0]
   repeat refine W.gob rfl ?_
   refine (?_:Tr _ _ _)
   exact (zqt id)
 repeat (first|refine W.gob rfl ?_|refine WL.e1 rfl ?_)
 refine (?_:WL _ _ _ _ _ _)
 refine WL.vl rfl (WV.call rfl (callF Tryz.func115 rfl rfl) rfl rfl hcol) ?_
 repeat (first|refine W.gob rfl ?_|refine WL.nil ?_|refine WL.nf rfl rfl rfl z16o ?_|refine WL.e1 rfl ?_|refine W.condF rfl ?_)
 refine (?_:W _ _ _ _ _)
 have hoK:=onsAt_le p.evs k
 have hoF:=onsAt_le p.evs x.1.toNat
 have hm420:m≤420:=by omega
 have hMx:(MS.map eMea)[((m:Int) - 1).toNat]?=some (eMea x):=by
  rw [show ((m:Int) - 1).toNat=m - 1 by omega,List.getElem?_map,hx1];rfl
 have hok1:((onsL p.evs p.evs.length).map eInt)[((k:Nat):Int).toNat]?=some (eInt (onsAt p.evs k)):=by
  rw [Int.toNat_natCast,List.getElem?_map,onsL_at (by omega)];rfl
 have hok2:((onsL p.evs p.evs.length).map eInt)[x.1.toNat]?=some (eInt (onsAt p.evs x.1.toNat)):=by
  rw [List.getElem?_map,onsL_at (by omega)];rfl
 have hfst:fstK MS k=x.1.toNat:=by unfold fstK;rw [hmA,hx1];rfl
 have hsin:sinK p.evs MS k=onsAt p.evs k - onsAt p.evs x.1.toNat:=by unfold sinK;rw [hfst]
 have hR1:edN s p MS L k=Lib.itoa (m:Nat)++[58]++Lib.itoa (onsAt p.evs k - onsAt p.evs x.1.toNat)++[32]++evT L k ev++[32,59,32]++colS s p k ev++[10]:=by
  rw [hNk];unfold edR;rw [hsin,hmA]
 have hsI:I64 (onsAt p.evs k - onsAt p.evs x.1.toNat):=by unfold I64;omega
 have hI1:=itoa_G (m:Nat) (by unfold I64;omega)
 have hI2:=itoa_G _ hsI
 have hl1:=itoa_len (n:=(m:Nat)) z16o
 have hl2:=itoa_len (n:=onsAt p.evs k - onsAt p.evs x.1.toNat) z16o
 obtain ⟨oK,hoKq⟩:∃ z,onsAt p.evs k=z:=⟨_,rfl⟩
 obtain ⟨oF,hoFq⟩:∃ z,onsAt p.evs x.1.toNat=z:=⟨_,rfl⟩
 rw [hoKq] at hoK hok1 hR1 hI2 hl2
 rw [hoFq] at hoF hok2 hR1 hI2 hl2
 obtain ⟨a1,ha1⟩:∃ z,Lib.itoa (m:Nat)=z:=⟨_,rfl⟩
 obtain ⟨a2,ha2⟩:∃ z,Lib.itoa (oK - oF)=z:=⟨_,rfl⟩
 obtain ⟨et,het⟩:∃ z,evT L k ev=z:=⟨_,rfl⟩
 obtain ⟨co,hco⟩:∃ z,colS s p k ev=z:=⟨_,rfl⟩
 rw [ha1] at hI1 hl1 hR1
 rw [ha2] at hI2 hl2 hR1
 rw [het] at hevl hR1 ⊢
 rw [hco] at hcl hR1 ⊢
 have c1:(a1++[58]).length≤21:=by simp only [List.length_append,List.length_cons,List.length_nil];omega
 have c2:(a1++[58]++a2).length≤41:=by rw [List.length_append];omega
 have c3:(a1++[58]++a2++[32]).length≤42:=by rw [List.length_append];simp only [List.length_cons,List.length_nil];omega
 have c4:(a1++[58]++a2++[32]++et).length≤200042:=by rw [List.length_append];omega
 have c5:(a1++[58]++a2++[32]++et++[32,59,32]).length≤200045:=by rw [List.length_append];simp only [List.length_cons,List.length_nil];omega
 have c6:(a1++[58]++a2++[32]++et++[32,59,32]++co).length≤1200045:=by rw [List.length_append];omega
 have c7:(a1++[58]++a2++[32]++et++[32,59,32]++co++[10]).length≤1200046:=by rw [List.length_append];simp only [List.length_cons,List.length_nil];omega
 have hm3':1≤m:=by omega
 have hmL2:=Lib.hid hm1
 clear hol hm1 hm4 hm3
 refine W.drawK (by kernel_rfl) (by kernel_rfl) ?_
 repeat refine DK.st rfl ?_
 refine DK.idx rfl rfl z16o hok1 ?_
 repeat (first|refine DK.st rfl ?_|refine DK.ar rfl rfl (by unfold I64;omega) ?_)
 refine DK.idx rfl rfl z16o hMx ?_
 repeat refine DK.st rfl ?_
 refine DK.idx rfl rfl z16o hok2 ?_
 repeat (first|refine DK.st rfl ?_|refine DK.ar rfl rfl (by unfold I64;omega) ?_|refine DK.nil ?_)
 repeat (first|refine W.gob rfl ?_|refine WL.e1 rfl ?_)
 refine (?_:WL _ _ _ _ _ _)
 refine WL.vl rfl (WV.callG hB rfl (callF Tryz.func116 rfl rfl) rfl rfl hI1) ?_
 repeat (first|refine WL.e1 rfl ?_|refine WL.cat rfl rfl (by first|omega|(simp;done)|(simp;omega)) ?_)
 refine (?_:WL _ _ _ _ _ _)
 refine WL.vl rfl (WV.callG hB rfl (callF Tryz.func116 rfl rfl) rfl rfl hI2) ?_
 repeat (first|refine WL.e1 rfl ?_|refine WL.cat rfl rfl (by first|omega|(simp;done)|(simp;omega)) ?_)
 refine (?_:WL _ _ _ _ _ _)
 have hrow:B++(a1++[58]++a2++[32]++et++[32,59,32]++co++[10])=edB s p MS L (k+1):=by rw [hBs,hR1]
 have hBn:(edB s p MS L (k+1)).length≤1300000*(k+1):=by rw [← hrow,List.length_append];omega
 refine WL.bw rfl rfl rfl (callF Tryz.func58 rfl rfl) bldW_ok z16o hrow ?_
 repeat (first|refine W.gob rfl ?_|refine WL.nil ?_|refine WL.e1 rfl ?_|refine WL.ar rfl rfl (by unfold I64;omega) ?_)
 refine ⟨k+1,⟨by omega,by rw [hmA];exact hmL2,fun _=>⟨x,by rw [hmA];exact hx1,by omega⟩,hBn⟩,by omega,?_⟩
 rw [hrs1,hmA]
 exact (zqu (fun q=>q) (by repeat (first|exact trivial|refine ⟨⟨?_,?_,?_⟩,?_⟩|rfl|exact congrArg (fun q=>some (AO.row _ _ q)) (by first|rfl|(simp;done)|(simp [eInt];done)|(simp [eLk];done)))) rfl)
end Go.Proofs.YtgelfflighgajaaGreatDoor
