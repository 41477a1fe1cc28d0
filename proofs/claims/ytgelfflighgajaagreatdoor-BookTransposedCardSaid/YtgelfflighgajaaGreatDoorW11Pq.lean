/- The look at an example of chapter 11. -/
import Derived.Test.YtgelfflighgajaaGreatDoorEdiPq
import Derived.Test.YtgelfflighgajaaGreatDoorEd0Pq
set_option maxHeartbeats 8000000
set_option maxRecDepth 100000
set_option linter.unusedVariables false
set_option linter.unusedSimpArgs false
namespace Go.Proofs.YtgelfflighgajaaGreatDoor
section
open Go.RowKit
theorem pEdition_G0 (s:Int) (p:Pce) (hO:PcOk p) (key:Int) (hne:p.evs.length=0):Ctg tabB Tryz.prog 50 [ePce p,.sc (.int .i64 key),.sc (.int .u8 s)] (.tu [.sc (.string (bs (edT s p key))),.sc (.int .i64 (edX s p key))]):=by
 have hn3:=hO.n3
 by_cases hs:1≤s∧s≤4
 rotate_left
 ·rw [(ed_sys hs).1,(ed_sys hs).2]
  refine Ctg.intro stabB Tryz.func50 rfl Tryz.ntmps50 (Nat.le_of_ble_eq_true rfl) (bd_all rfl) fun w0 F0 hB=>?_;dsimp only [St.init,number,Nat.reduceAdd]
  repeat refine W.go rfl ?_
  refine (?_:WL _ _ _ _ _ _)
  refine WL.vl rfl (WV.call rfl (callF Tryz.func69 rfl rfl) rfl rfl (pSysName_bad s hs)) ?_
  repeat (first|refine W.gob rfl ?_|refine WL.nil ?_|refine WL.nt rfl rfl rfl (by omega) ?_|refine WL.e1 rfl ?_|refine W.condT rfl ?_)
  refine (?_:W _ _ _ _ _)
  exact W.ret (fin2 rfl rfl rfl rfl rfl rfl rfl)
 have hE:=pEngrave_FS p hO key
 by_cases hx:engX p key=0
 rotate_left
 ·rw [(ed_eng hs hx).1,(ed_eng hs hx).2]
  obtain ⟨E,hEq⟩:∃ E,engX p key=E:=⟨_,rfl⟩
  rw [hEq] at hx hE ⊢
  refine Ctg.intro stabB Tryz.func50 rfl Tryz.ntmps50 (Nat.le_of_ble_eq_true rfl) (bd_all rfl) fun w0 F0 hB=>?_;dsimp only [St.init,number,Nat.reduceAdd]
  repeat refine W.go rfl ?_
  refine (?_:WL _ _ _ _ _ _)
  refine WL.vl rfl (WV.call rfl (callF Tryz.func69 rfl rfl) rfl rfl (pSysName_ok s hs)) ?_
  repeat (first|refine W.gob rfl ?_|refine WL.nil ?_|refine WL.nf rfl rfl rfl (by omega) ?_|refine WL.e1 rfl ?_|refine W.condF rfl ?_)
  refine (?_:WL _ _ _ _ _ _)
  refine WL.vl rfl (WV.callG hB rfl (callF Tryz.func110 rfl rfl) rfl rfl hE) ?_
  repeat (first|refine W.gob rfl ?_|refine WL.nil ?_|refine WL.nt rfl rfl rfl (by omega) ?_|refine WL.e1 rfl ?_|refine W.condT rfl ?_)
  refine (?_:W _ _ _ _ _)
  exact W.ret (fin2 rfl rfl rfl rfl rfl rfl rfl)
 obtain ⟨h0,hsf,hsl⟩:=engL_ok hO hx
 have hlE:=(lks_ok hs h0).2
 have hlR:=(lks_ok hs h0).1
 have hc:=pCan_FS s p hO
 rw [hlE] at hc
 rw [hx] at hE
 by_cases hl:lksR s p=[]
 rotate_left
 ·rw [(ed_no hs hx hl).1,(ed_no hs hx hl).2]
  have hb:((0:Int) == 0 && ((lksR s p).length:Int) == 0)=false:=by
   have:(lksR s p).length≠0:=fun h=>hl (List.eq_nil_of_length_eq_zero h)
   simp;omega
  rw [hb] at hc
  refine Ctg.intro stabB Tryz.func50 rfl Tryz.ntmps50 (Nat.le_of_ble_eq_true rfl) (bd_all rfl) fun w0 F0 hB=>?_;dsimp only [St.init,number,Nat.reduceAdd]
  repeat refine W.go rfl ?_
  refine (?_:WL _ _ _ _ _ _)
  refine WL.vl rfl (WV.call rfl (callF Tryz.func69 rfl rfl) rfl rfl (pSysName_ok s hs)) ?_
  repeat (first|refine W.gob rfl ?_|refine WL.nil ?_|refine WL.nf rfl rfl rfl (by omega) ?_|refine WL.e1 rfl ?_|refine W.condF rfl ?_)
  refine (?_:WL _ _ _ _ _ _)
  refine WL.vl rfl (WV.callG hB rfl (callF Tryz.func110 rfl rfl) rfl rfl hE) ?_
  repeat (first|refine W.gob rfl ?_|refine WL.nil ?_|refine WL.nf rfl rfl rfl (by omega) ?_|refine WL.e1 rfl ?_|refine W.condF rfl ?_)
  refine (?_:WL _ _ _ _ _ _)
  refine WL.vl rfl (WV.call rfl (callF Tryz.func70 rfl rfl) rfl rfl hc) ?_
  repeat (first|refine W.gob rfl ?_|refine WL.nil ?_|refine WL.e1 rfl ?_|refine W.condT rfl ?_)
  refine (?_:W _ _ _ _ _)
  exact W.ret (fin2 rfl rfl rfl rfl rfl rfl rfl)
 rw [(ed_ok hs hx hl).1,(ed_ok hs hx hl).2]
 have hb:((0:Int) == 0 && ((lksR s p).length:Int) == 0)=true:=by rw [hl];rfl
 rw [hb] at hc
 have hOn:=pOnsets_FS p hO
 rw [if_pos h0,h0] at hOn
 have hMe:=pMeasures_FS p hO
 have e4:meaR p=mea p.evs p.evs.length:=if_pos h0
 rw [e4,h0] at hMe
 have hml:=mea_length p.evs p.evs.length
 have hmb:=mea_bd p.evs p.evs.length
 have hol:=onsL_length p.evs p.evs.length
 have hnil:∀ i (h:i < p.evs.length),lackE s p i p.evs[i]=[]:=fun i h=>lksTo_none p.evs.length (Nat.le_refl _) (by rw [← hlR];exact hl) i h h
 obtain ⟨MS,hMS⟩:∃ L,mea p.evs p.evs.length=L:=⟨_,rfl⟩
 obtain ⟨L,hL⟩:∃ L,engL p key=L:=⟨_,rfl⟩
 rw [hMS] at hMe hml hmb ⊢
 rw [hL] at hE hsf hsl ⊢
 refine Ctg.intro stabB Tryz.func50 rfl Tryz.ntmps50 (Nat.le_of_ble_eq_true rfl) (bd_all rfl) fun w0 F0 hB=>?_;dsimp only [St.init,number,Nat.reduceAdd]
 repeat refine W.go rfl ?_
 refine (?_:WL _ _ _ _ _ _)
 refine WL.vl rfl (WV.call rfl (callF Tryz.func69 rfl rfl) rfl rfl (pSysName_ok s hs)) ?_
 repeat (first|refine W.gob rfl ?_|refine WL.nil ?_|refine WL.nf rfl rfl rfl (by omega) ?_|refine WL.e1 rfl ?_|refine W.condF rfl ?_)
 refine (?_:WL _ _ _ _ _ _)
 refine WL.vl rfl (WV.callG hB rfl (callF Tryz.func110 rfl rfl) rfl rfl hE) ?_
 repeat (first|refine W.gob rfl ?_|refine WL.nil ?_|refine WL.nf rfl rfl rfl (by omega) ?_|refine WL.e1 rfl ?_|refine W.condF rfl ?_)
 refine (?_:WL _ _ _ _ _ _)
 refine WL.vl rfl (WV.call rfl (callF Tryz.func70 rfl rfl) rfl rfl hc) ?_
 repeat (first|refine W.gob rfl ?_|refine WL.nil ?_|refine WL.e1 rfl ?_|refine W.condF rfl ?_)
 refine (?_:WL _ _ _ _ _ _)
 refine WL.vl rfl (WV.call rfl (callF Tryz.func111 rfl rfl) rfl rfl hOn) ?_
 repeat (first|refine W.gob rfl ?_|refine WL.nil ?_|refine WL.e1 rfl ?_)
 refine (?_:WL _ _ _ _ _ _)
 refine WL.vl rfl (WV.call rfl (callF Tryz.func112 rfl rfl) rfl rfl hMe) ?_
 have hev0:p.evs=[]:=List.eq_nil_of_length_eq_zero hne
 have hB0:edB s p MS L p.evs.length=[]:=by rw [hne];rfl
 rw [hB0]
 repeat (first|refine W.gob rfl ?_|refine WL.nil ?_|refine WL.e1 rfl ?_|refine WL.len rfl rfl zql ?_)
 refine (?_:W _ _ _ _ _)
 refine W.loop (fun k:Nat=>k=0) (fun k=>⟨[(2,.sc (.int .u8 s)),(3,.pt 0 0 0),(16,.pt 1 0 0),(57,.ls 6 (p.evs.map eEv)),(58,.sc (.int .i64 p.evs.length)),(59,.sc (.int .i64 k))],[(0,.box 28 (ePce p).cells),(1,.box 109 [.sc (.pointer none),.sc (.slice none 0 0)])],2⟩) (fun k=>k) 0 rfl (zqt id) fun k hk=>?_
 subst hk
 repeat (first|refine W.gob rfl ?_|refine WL.nil ?_|refine WL.bf rfl rfl rfl (by omega) ?_|refine W.condF rfl ?_)
 refine (?_:WL _ _ _ _ _ _)
 refine WL.vl rfl (WV.box2 rfl (callF Tryz.func59 rfl rfl) rfl rfl fun w b=>bldS0 w b _) ?_
 repeat (first|refine WL.nil ?_|refine WL.e1 rfl ?_)
 refine (?_:W _ _ _ _ _)
 exact W.ret (fin2 rfl rfl rfl rfl rfl rfl rfl)
theorem pEdition_G (s:Int)(p:Pce)(hO:PcOk p)(key:Int):Ctg tabB Tryz.prog 50 [ePce p,.sc (.int .i64 key),.sc (.int .u8 s)] (.tu [.sc (.string (bs (edT s p key))),.sc (.int .i64 (edX s p key))]):=by
 by_cases h:p.evs.length=0
 ·exact pEdition_G0 s p hO key h
 ·exact pEdition_G1 s p hO key (by omega)
end
section
open Go.RowKit
def p11:Pce:=⟨[(67,3,false)],[1,2,3],[⟨false,4,false,false,false,[(1,1,0,0,0)]⟩,⟨false,0,false,false,false,[(1,0,0,0,0)]⟩]⟩
theorem p11_ok:PcOk p11:=pcOk_of2 (by decide +kernel)
theorem inc11:incE p11 4=0∧incL p11 4=[-1]:=by decide +kernel
theorem edx11:edX 1 p11 0=0:=by decide +kernel
theorem edt11:edT 1 p11 0=[49,58,48,32,71,35,52,32,59,32,67,32,98,10,49,58,52,56,32,71,61,52,32,59,32,45,32,97,10]:=by decide +kernel
theorem works11_G:Ctg tabB Tryz.prog 15 [] (.sc (.bool true)):=by
 have hE:=pEdition_G 1 p11 p11_ok 0
 have hI:=pIncipit_FS p11 p11_ok 4
 rw [edt11,edx11] at hE
 rw [inc11.1,inc11.2] at hI
 refine Ctg.intro stabB Tryz.func15 rfl Tryz.ntmps15 (Nat.le_of_ble_eq_true rfl) (bd_all rfl) fun w0 F0 hB=>?_;dsimp only [St.init,number,Nat.reduceAdd]
 repeat refine W.go rfl ?_
 refine (?_:WL _ _ _ _ _ _)
 refine WL.tr (Tr.freeze 0 rfl) ?_
 refine WL.tr (Tr.freeze 1 rfl) ?_
 refine WL.tr (Tr.freeze 3 rfl) ?_
 refine WL.tr (Tr.freeze 4 rfl) ?_
 repeat (first|refine W.go rfl ?_|refine WL.ev rfl ?_)
 refine (?_:WL _ _ _ _ _ _)
 refine WL.tr (Tr.freeze 5 rfl) ?_
 refine WL.vl rfl (WV.callG hB rfl (callF Tryz.func50 rfl rfl) rfl rfl hE) ?_
 repeat (first|refine W.go rfl ?_|refine WL.ev rfl ?_)
 refine (?_:WL _ _ _ _ _ _)
 refine WL.vl rfl (WV.call rfl (callF Tryz.func48 rfl rfl) rfl rfl hI) ?_
 repeat (first|refine W.gob rfl ?_|refine WL.nil ?_|refine WL.bt rfl rfl rfl (by omega) ?_|refine WL.e1 rfl ?_|refine WL.gyes rfl rfl rfl rfl ?_|refine WL.len rfl rfl zql ?_)
 refine (?_:WL _ _ _ _ _ _)
 refine WL.idx rfl rfl (by omega) rfl ?_
 repeat (first|refine WL.nil ?_|refine WL.bt rfl rfl rfl (by omega) ?_|refine WL.e1 rfl ?_|refine WL.gyes rfl rfl rfl rfl ?_)
 refine (?_:W _ _ _ _ _)
 exact W.ret (fin1 rfl rfl rfl rfl)
end
end Go.Proofs.YtgelfflighgajaaGreatDoor
