/- slices.DeleteFunc, plain: over any kind of element. -/
import Derived.Test.YtgelfflighgajaaGreatDoorEdiSq
import Derived.Test.YtgelfflighgajaaGreatDoorG6Sq
set_option maxHeartbeats 8000000
set_option maxRecDepth 100000
set_option linter.unusedVariables false
set_option linter.unusedSimpArgs false
namespace Go.Proofs.YtgelfflighgajaaGreatDoor
section
open Go.RowKit
theorem z11o {p:Prop} (h:p:=by omega):p:=h
theorem pEdition_G0 (s:Int) (p:Pce) (hO:PcOk p) (key:Int) (hne:p.evs.length=0):Ctg tabB Tryz.prog 50 [ePce p,.sc (.int .i64 key),.sc (.int .u8 s)] (.tu [.sc (.string (bs (edT s p key))),.sc (.int .i64 (edX s p key))]):=by
 have hn3:=hO.n3
 by_cases hs:1≤s∧s≤4
 rotate_left
 ·rw [(ed_sys hs).1,(ed_sys hs).2]
  refine Ctg.intro stabB Tryz.func50 rfl Tryz.ntmps50 (Nat.le_of_ble_eq_true rfl) (bd_all rfl) fun w0 F0 hB=>?_;dsimp only [St.init,number,Nat.reduceAdd]
  repeat refine W.go rfl ?_
  refine (?_:WL _ _ _ _ _ _)
  refine WL.vl rfl (WV.call rfl (callF Tryz.func69 rfl rfl) rfl rfl (pSysName_bad s hs)) ?_
  repeat (first|refine W.gob rfl ?_|refine WL.nil ?_|refine WL.nt rfl rfl rfl z11o ?_|refine WL.e1 rfl ?_|refine W.condT rfl ?_)
  refine (?_:W _ _ _ _ _)
  exact W.ret (fin2 rfl rfl rfl rfl rfl rfl rfl)
 have hE:=pEngrave_FS p hO key
 by_cases hx:engX p key=0
 rotate_left
 ·rw [(ed_eng hs hx).1,(ed_eng hs hx).2]
  obtain ⟨E,hEq⟩:∃ E,engX p key=E:=⟨_,rfl⟩
  rw [hEq] at hx hE ⊢
  refine Ctg.intro stabB Tryz.func50 rfl Tryz.ntmps50 (Nat.le_of_ble_eq_true rfl) (bd_all rfl) fun w0 F0 hB=>?_;dsimp only [St.init,number,Nat.reduceAdd]
  repeat refine W.go rfl ?_
  refine (?_:WL _ _ _ _ _ _)
  refine WL.vl rfl (WV.call rfl (callF Tryz.func69 rfl rfl) rfl rfl (pSysName_ok s hs)) ?_
  repeat (first|refine W.gob rfl ?_|refine WL.nil ?_|refine WL.nf rfl rfl rfl z11o ?_|refine WL.e1 rfl ?_|refine W.condF rfl ?_)
  refine (?_:WL _ _ _ _ _ _)
  refine WL.vl rfl (WV.callG hB rfl (callF Tryz.func110 rfl rfl) rfl rfl hE) ?_
  repeat (first|refine W.gob rfl ?_|refine WL.nil ?_|refine WL.nt rfl rfl rfl z11o ?_|refine WL.e1 rfl ?_|refine W.condT rfl ?_)
  refine (?_:W _ _ _ _ _)
  exact W.ret (fin2 rfl rfl rfl rfl rfl rfl rfl)
 obtain ⟨h0,hsf,hsl⟩:=engL_ok hO hx
 have hlE:=(lks_ok hs h0).2
 have hlR:=(lks_ok hs h0).1
 have hc:=pCan_FS s p hO
 rw [hlE] at hc
 rw [hx] at hE
 by_cases hl:lksR s p=[]
 rotate_left
 ·rw [(ed_no hs hx hl).1,(ed_no hs hx hl).2]
  have hb:((0:Int) == 0 && ((lksR s p).length:Int) == 0)=false:=by
   have:(lksR s p).length≠0:=fun h=>hl (List.eq_nil_of_length_eq_zero h)
   simp;omega
  rw [hb] at hc
  refine Ctg.intro stabB Tryz.func50 rfl Tryz.ntmps50 (Nat.le_of_ble_eq_true rfl) (bd_all rfl) fun w0 F0 hB=>?_;dsimp only [St.init,number,Nat.reduceAdd]
  repeat refine W.go rfl ?_
  refine (?_:WL _ _ _ _ _ _)
  refine WL.vl rfl (WV.call rfl (callF Tryz.func69 rfl rfl) rfl rfl (pSysName_ok s hs)) ?_
  repeat (first|refine W.gob rfl ?_|refine WL.nil ?_|refine WL.nf rfl rfl rfl z11o ?_|refine WL.e1 rfl ?_|refine W.condF rfl ?_)
  refine (?_:WL _ _ _ _ _ _)
  refine WL.vl rfl (WV.callG hB rfl (callF Tryz.func110 rfl rfl) rfl rfl hE) ?_
  repeat (first|refine W.gob rfl ?_|refine WL.nil ?_|refine WL.nf rfl rfl rfl z11o ?_|refine WL.e1 rfl ?_|refine W.condF rfl ?_)
  refine (?_:WL _ _ _ _ _ _)
  refine WL.vl rfl (WV.call rfl (callF Tryz.func70 rfl rfl) rfl rfl hc) ?_
  repeat (first|refine W.gob rfl ?_|refine WL.nil ?_|refine WL.e1 rfl ?_|refine W.condT rfl ?_)
  refine (?_:W _ _ _ _ _)
  exact W.ret (fin2 rfl rfl rfl rfl rfl rfl rfl)
 rw [(ed_ok hs hx hl).1,(ed_ok hs hx hl).2]
 have hb:((0:Int) == 0 && ((lksR s p).length:Int) == 0)=true:=by rw [hl];rfl
 rw [hb] at hc
 have hOn:=pOnsets_FS p hO
 rw [if_pos h0,h0] at hOn
 have hMe:=pMeasures_FS p hO
 have e4:meaR p=mea p.evs p.evs.length:=if_pos h0
 rw [e4,h0] at hMe
 have hml:=mea_length p.evs p.evs.length
 have hmb:=mea_bd p.evs p.evs.length
 have hol:=onsL_length p.evs p.evs.length
 have hnil:∀ i (h:i < p.evs.length),lackE s p i p.evs[i]=[]:=fun i h=>lksTo_none p.evs.length (Nat.le_refl _) (by rw [← hlR];exact hl) i h h
 obtain ⟨MS,hMS⟩:∃ L,mea p.evs p.evs.length=L:=⟨_,rfl⟩
 obtain ⟨L,hL⟩:∃ L,engL p key=L:=⟨_,rfl⟩
 rw [hMS] at hMe hml hmb ⊢
 rw [hL] at hE hsf hsl ⊢
 refine Ctg.intro stabB Tryz.func50 rfl Tryz.ntmps50 (Nat.le_of_ble_eq_true rfl) (bd_all rfl) fun w0 F0 hB=>?_;dsimp only [St.init,number,Nat.reduceAdd]
 repeat refine W.go rfl ?_
 refine (?_:WL _ _ _ _ _ _)
 refine WL.vl rfl (WV.call rfl (callF Tryz.func69 rfl rfl) rfl rfl (pSysName_ok s hs)) ?_
 repeat (first|refine W.gob rfl ?_|refine WL.nil ?_|refine WL.nf rfl rfl rfl z11o ?_|refine WL.e1 rfl ?_|refine W.condF rfl ?_)
 refine (?_:WL _ _ _ _ _ _)
 refine WL.vl rfl (WV.callG hB rfl (callF Tryz.func110 rfl rfl) rfl rfl hE) ?_
 repeat (first|refine W.gob rfl ?_|refine WL.nil ?_|refine WL.nf rfl rfl rfl z11o ?_|refine WL.e1 rfl ?_|refine W.condF rfl ?_)
 refine (?_:WL _ _ _ _ _ _)
 refine WL.vl rfl (WV.call rfl (callF Tryz.func70 rfl rfl) rfl rfl hc) ?_
 repeat (first|refine W.gob rfl ?_|refine WL.nil ?_|refine WL.e1 rfl ?_|refine W.condF rfl ?_)
 refine (?_:WL _ _ _ _ _ _)
 refine WL.vl rfl (WV.call rfl (callF Tryz.func111 rfl rfl) rfl rfl hOn) ?_
 repeat (first|refine W.gob rfl ?_|refine WL.nil ?_|refine WL.e1 rfl ?_)
 refine (?_:WL _ _ _ _ _ _)
 refine WL.vl rfl (WV.call rfl (callF Tryz.func112 rfl rfl) rfl rfl hMe) ?_
 have hev0:p.evs=[]:=List.eq_nil_of_length_eq_zero hne
 have hB0:edB s p MS L p.evs.length=[]:=by rw [hne];rfl
 rw [hB0]
 repeat (first|refine W.gob rfl ?_|refine WL.nil ?_|refine WL.e1 rfl ?_|refine WL.len rfl rfl zql ?_)
 refine (?_:W _ _ _ _ _)
 refine W.loop (fun k:Nat=>k=0) (fun k=>⟨[(2,.sc (.int .u8 s)),(3,.pt 0 0 0),(16,.pt 1 0 0),(57,.ls 6 (p.evs.map eEv)),(58,.sc (.int .i64 p.evs.length)),(59,.sc (.int .i64 k))],[(0,.box 28 (ePce p).cells),(1,.box 109 [.sc (.pointer none),.sc (.slice none 0 0)])],2⟩) (fun k=>k) 0 rfl (zqt id) fun k hk=>?_
 subst hk
 repeat (first|refine W.gob rfl ?_|refine WL.nil ?_|refine WL.bf rfl rfl rfl z11o ?_|refine W.condF rfl ?_)
 refine (?_:WL _ _ _ _ _ _)
 refine WL.vl rfl (WV.box2 rfl (callF Tryz.func59 rfl rfl) rfl rfl fun w b=>bldS0 w b _) ?_
 repeat (first|refine WL.nil ?_|refine WL.e1 rfl ?_)
 refine (?_:W _ _ _ _ _)
 exact W.ret (fin2 rfl rfl rfl rfl rfl rfl rfl)
theorem pEdition_G (s:Int)(p:Pce)(hO:PcOk p)(key:Int):Ctg tabB Tryz.prog 50 [ePce p,.sc (.int .i64 key),.sc (.int .u8 s)] (.tu [.sc (.string (bs (edT s p key))),.sc (.int .i64 (edX s p key))]):=by
 by_cases h:p.evs.length=0
 ·exact pEdition_G0 s p hO key h
 ·exact pEdition_G1 s p hO key z11o
end
section
open Go.RowKit
def p11:Pce:=⟨[(67,3,false)],[1,2,3],[⟨false,4,false,false,false,[(1,1,0,0,0)]⟩,⟨false,0,false,false,false,[(1,0,0,0,0)]⟩]⟩
theorem p11_ok:PcOk p11:=pcOk_of2 (by decide +kernel)
theorem inc11:incE p11 4=0∧incL p11 4=[-1]:=by decide +kernel
theorem edx11:edX 1 p11 0=0:=by decide +kernel
theorem edt11:edT 1 p11 0=[49,58,48,32,71,35,52,32,59,32,67,32,98,10,49,58,52,56,32,71,61,52,32,59,32,45,32,97,10]:=by decide +kernel
theorem works11_G:Ctg tabB Tryz.prog 15 [] (.sc (.bool true)):=by
 have hE:=pEdition_G 1 p11 p11_ok 0
 have hI:=pIncipit_FS p11 p11_ok 4
 rw [edt11,edx11] at hE
 rw [inc11.1,inc11.2] at hI
 refine Ctg.intro stabB Tryz.func15 rfl Tryz.ntmps15 (Nat.le_of_ble_eq_true rfl) (bd_all rfl) fun w0 F0 hB=>?_;dsimp only [St.init,number,Nat.reduceAdd]
 repeat refine W.go rfl ?_
 refine (?_:WL _ _ _ _ _ _)
 refine WL.tr (Tr.freeze 0 rfl) ?_
 refine WL.tr (Tr.freeze 1 rfl) ?_
 refine WL.tr (Tr.freeze 3 rfl) ?_
 refine WL.tr (Tr.freeze 4 rfl) ?_
 repeat (first|refine W.go rfl ?_|refine WL.ev rfl ?_)
 refine (?_:WL _ _ _ _ _ _)
 refine WL.tr (Tr.freeze 5 rfl) ?_
 refine WL.vl rfl (WV.callG hB rfl (callF Tryz.func50 rfl rfl) rfl rfl hE) ?_
 repeat (first|refine W.go rfl ?_|refine WL.ev rfl ?_)
 refine (?_:WL _ _ _ _ _ _)
 refine WL.vl rfl (WV.call rfl (callF Tryz.func48 rfl rfl) rfl rfl hI) ?_
 repeat (first|refine W.gob rfl ?_|refine WL.nil ?_|refine WL.bt rfl rfl rfl z11o ?_|refine WL.e1 rfl ?_|refine WL.gyes rfl rfl rfl rfl ?_|refine WL.len rfl rfl zql ?_)
 refine (?_:WL _ _ _ _ _ _)
 refine WL.idx rfl rfl z11o rfl ?_
 repeat (first|refine WL.nil ?_|refine WL.bt rfl rfl rfl z11o ?_|refine WL.e1 rfl ?_|refine WL.gyes rfl rfl rfl rfl ?_)
 refine (?_:W _ _ _ _ _)
 exact W.ret (fin1 rfl rfl rfl rfl)
end
section
section
variable {α:Type} {kp:α→Bool}
def dlN(kp:α→Bool)(l:List α):Nat:=(l.takeWhile kp).length
theorem dl_mem:∀ {l:List α} {x:α},x∈l.takeWhile kp→kp x=true
 | [],x,h=>by cases h
 | y::r,x,h=>by
  rw [List.takeWhile_cons]at h
  split at h
  ·rename_i hy
   rcases List.mem_cons.1 h with rfl|h
   ·exact hy
   ·exact dl_mem h
  ·cases h
theorem dlN_le(l:List α):dlN kp l≤l.length:=(List.takeWhile_sublist _).length_le
theorem dl_at {l:List α} {k:Nat} (hk:k<dlN kp l)(h:k<l.length):kp l[k]=true:=by
 have h1:(l.takeWhile kp)[k]'hk∈l.takeWhile kp:=List.getElem_mem _
 have h2:=dl_mem h1
 have h3:(l.takeWhile kp)[k]'hk=l[k]:=(List.takeWhile_prefix kp).getElem _
 rwa [h3]at h2
theorem dl_neg {l:List α} (h:dlN kp l<l.length):kp l[dlN kp l]=false:=by
 have h1:(l.drop (dlN kp l))=l.dropWhile kp:=by
  have e:=List.takeWhile_append_dropWhile (p:=kp) (l:=l)
  have:=List.drop_left (l₁:=l.takeWhile kp) (l₂:=l.dropWhile kp)
  rw [e]at this
  exact this
 have h2:l.drop (dlN kp l)=l[dlN kp l]::l.drop (dlN kp l+1):=List.drop_eq_getElem_cons h
 rw [h1]at h2
 have h3:=List.head?_dropWhile_not kp l
 rw [h2]at h3
 simpa [List.getElem?_eq_getElem h]using h3
theorem dl_here {l:List α} {k:Nat} (h:k<l.length) (hk:kp l[k]=false) (hno:∀ i (hi:i<k) (h:i<l.length),kp l[i]=true):dlN kp l=k:=by
 rcases Nat.lt_trichotomy k (dlN kp l)with h1|h1|h1
 ·rw [dl_at h1 h]at hk;cases hk
 ·exact h1.symm
 ·have:=dl_neg (kp:=kp) (l:=l) z11o
  rw [hno _ h1 (by omega)]at this;cases this
theorem dl_all {l:List α} (hno:∀ i (h:i<l.length),kp l[i]=true):dlN kp l=l.length:=by
 have h1:=dlN_le (kp:=kp) l
 rcases Nat.lt_or_ge (dlN kp l) l.length with h|h
 ·have:=dl_neg h
  rw [hno _ h] at this;cases this
 ·omega
theorem dlN_all {l:List α} (h:dlN kp l=l.length):l.filter kp=l:=by
 rw [List.filter_eq_self]
 intro x hx
 obtain⟨k,hk,rfl⟩:=List.getElem_of_mem hx
 exact dl_at z11o hk
theorem take_dlN (l:List α):l.take (dlN kp l)=(l.take (dlN kp l+1)).filter kp:=by
 have hp:l.take (dlN kp l)=l.takeWhile kp:=by
  have:=List.prefix_iff_eq_take.1 (List.takeWhile_prefix kp (l:=l))
  exact this.symm
 by_cases h:dlN kp l<l.length
 ·rw [List.take_succ_eq_append_getElem h,List.filter_append]
  have h1:=dl_neg h
  rw [List.filter_cons_of_neg (by rw [h1];exact Bool.false_ne_true),List.filter_nil,List.append_nil,hp]
  rw [List.filter_eq_self.2]
  intro x hx
  exact dl_mem hx
 ·have h2:=dlN_le (kp:=kp) l
  rw [List.take_of_length_le (by omega),List.take_of_length_le (by omega),dlN_all (by omega)]
structure DlI(kp:α→Bool)(l R:List α)(i j:Nat):Prop where
 len:R.length=l.length
 ij:i<j∧j≤l.length
 kept:R.take i=(l.take j).filter kp
 rest:∀ k(h:k<l.length),j≤k→R[k]?=some l[k]
theorem DlI.start {l:List α} (h:dlN kp l<l.length):DlI kp l l (dlN kp l) (dlN kp l+1) :=
 ⟨rfl,⟨by omega,by omega⟩,take_dlN l,fun k hk _=>List.getElem?_eq_getElem hk⟩
theorem DlI.skip {l R:List α} {i j:Nat} (h:DlI kp l R i j)(hj:j<l.length)(hn:kp l[j]=false):DlI kp l R i (j+1):=by
 refine⟨h.len,⟨by have:=h.ij;omega,by omega⟩,?_,fun k hk h2=>h.rest k hk z11o⟩
 rw [h.kept,List.take_succ_eq_append_getElem hj,List.filter_append,List.filter_cons_of_neg (by rw [hn];exact Bool.false_ne_true)]
 simp
theorem DlI.keep {l R:List α} {i j:Nat} (h:DlI kp l R i j) (hj:j<l.length) (hn:kp l[j]=true):DlI kp l (R.set i l[j]) (i+1) (j+1):=by
 have hij:=h.ij
 have hlen:=h.len
 refine ⟨by simpa using h.len,⟨by omega,by omega⟩,?_,fun k hk h2=>?_⟩
 ·have hi:i<(R.set i l[j]).length:=by simp;omega
  rw [List.take_succ_eq_append_getElem hi,List.take_set_of_le (Nat.le_refl _),h.kept,List.take_succ_eq_append_getElem hj,List.filter_append,List.filter_cons_of_pos hn]
  simp
 ·rw [List.getElem?_set_ne (by omega)]
  exact h.rest k hk z11o
theorem DlI.end_ {l R:List α} {i:Nat} (h:DlI kp l R i l.length):R.take i=l.filter kp:=by
 have:=h.kept
 rwa [List.take_length]at this
end
end
end Go.Proofs.YtgelfflighgajaaGreatDoor
