/- The column of an event: the reference's walk, over trees. -/
import Derived.Test.YtgelfflighgajaaGreatDoorCoBSq
import Derived.Test.YtgelfflighgajaaGreatDoorEHSq
set_option linter.unusedVariables false
set_option linter.unusedSimpArgs false
namespace Go.Proofs.YtgelfflighgajaaGreatDoor
open Go.RowKit
set_option maxRecDepth 100000
set_option maxHeartbeats 4000000
theorem rsym_FS (s:Int) (hs:1≤s∧s≤4) (c f:Int) (hc:1≤c∧c≤14) (hf:0≤f∧f≤18):Ctr Tryz.prog 226 [.sc (.int .u8 s),.sc (.int .i64 c),.sc (.int .i64 f)] (.sc (.string (bs (rS s c f)))) :=
 Ctr.of_sc (v:=.string (bs (rS s c f))) rfl (fun _=>.sc _) fun w=>rsymbol_any s c f w hs hc hf
theorem rSymbol_FS (s:Int) (hs:1≤s∧s≤4) (c f:Int) (hc:1≤c∧c≤14) (hf:0≤f∧f≤18) (hne:rS s c f≠[]) :
  Ctr Tryz.prog 199 [.sc (.int .u8 s),.ag [.sc (.int .i64 c),.sc (.int .i64 f)]] (.tu [.sc (.string (bs (rS s c f))),.sc (.int .i64 0)]):=by
 refine Ctr.intro Tryz.func199 rfl Tryz.ntmps199 (Nat.le_of_ble_eq_true rfl) (bd_all rfl) fun w0 F0=>?_;dsimp only [St.init,number,Nat.reduceAdd]
 repeat (first|refine W.gob rfl ?_|refine WL.nil ?_|refine WL.e1 rfl ?_)
 refine (?_:WL _ _ _ _ _ _)
 dsimp only [St.put,Nat.reduceAdd]
 refine WL.vl rfl (WV.call rfl (callF Tryz.func75 rfl rfl) rfl rfl (known_FS s)) ?_
 repeat (first|refine WL.nil ?_|refine WL.e1 rfl ?_)
 refine (?_:W _ _ _ _ _)
 dsimp only [St.put,Nat.reduceAdd]
 (refine W.cond rfl (fun hif=>?_) (fun hif=>?_)<;>(try simp only [decide_eq_true_eq,decide_eq_false_iff_not,Int.not_lt,Int.not_le,Bool.not_eq_true',Bool.not_eq_false'] at hif))
 ·omega
 repeat (first|refine W.gob rfl ?_|refine WL.nil ?_|refine WL.bf rfl rfl rfl (by omega) ?_|refine WL.e1 rfl ?_|refine WL.gyes rfl rfl rfl rfl ?_|refine W.condF rfl ?_)
 refine (?_:WL _ _ _ _ _ _)
 dsimp only [St.put,Nat.reduceAdd]
 refine WL.vl rfl (WV.call rfl (callF Tryz.func226 rfl rfl) rfl rfl (rsym_FS s hs c f hc hf)) ?_
 repeat (first|refine W.gob rfl ?_|refine WL.nil ?_|refine WL.e1 rfl ?_)
 refine (?_:W _ _ _ _ _)
 dsimp only [St.put,Nat.reduceAdd]
 (refine W.cond rfl (fun hif=>?_) (fun hif=>?_)<;>(try simp only [decide_eq_true_eq,decide_eq_false_iff_not,Int.not_lt,Int.not_le,Bool.not_eq_true',Bool.not_eq_false'] at hif))
 ·exact absurd (by simpa using hif) hne
 repeat (first|refine W.gob rfl ?_|refine WL.nil ?_|refine WL.e1 rfl ?_)
 refine (?_:W _ _ _ _ _)
 dsimp only [St.put,Nat.reduceAdd]
 exact W.ret (fin2 rfl rfl rfl rfl rfl rfl rfl)
theorem rCell_FS (s:Int) (hs:1≤s∧s≤4) (x:Stp) (L:Int) (hc:1≤x.1∧x.1≤14) (hf:0≤x.2.1∧x.2.1≤18) (hr:0≤x.2.2.1∧x.2.2.1≤3) (hg:0≤x.2.2.2.1∧x.2.2.2.1≤4) (hh:0≤x.2.2.2.2∧x.2.2.2.2≤L) (hL:L≤15) (hz:¬ (0 < x.2.2.2.2∧x.2.1=0))
  (hok:cellOk s x.1 x.2.1 x.2.2.1 x.2.2.2.1 x.2.2.2.2 L=true) :
  Ctr Tryz.prog 148 [.sc (.int .u8 s),.ag (eStp x),.sc (.int .i64 L)] (.tu [.sc (.string (bs (cellS s x.1 x.2.1 x.2.2.1 x.2.2.2.1 x.2.2.2.2 L))),.sc (.int .i64 0)]):=by
 have l1:=sym_law s x.1 x.2.1 hs hc hf
 have hok2:=hok
 unfold cellOk at hok
 simp only [Bool.and_eq_true] at hok
 obtain ⟨⟨⟨k1,k2⟩,k3⟩,k4⟩:=hok
 have hne:rS s x.1 x.2.1≠[]:=by rw [l1.1] at k1;simpa using k1
 have hw:wants s x.1 x.2.1 x.2.2.1 x.2.2.2.1 x.2.2.2.2 L=[]:=by
  unfold wants
  rw [if_neg hne,if_pos k2,if_pos k3,if_pos k4];rfl
 have hwf:=wants_FS s x.1 x.2.1 x.2.2.1 x.2.2.2.1 x.2.2.2.2 L hs hc hf hr hg ⟨hh.1,by omega⟩
 rw [hw] at hwf
 have hcs:cellS s x.1 x.2.1 x.2.2.1 x.2.2.2.1 x.2.2.2.2 L=rS s x.1 x.2.1++rR s x.2.2.1++rG s x.2.2.2.1++pH s x.2.2.2.2 L:=by unfold cellS;rw [l1.2 k1]
 have b1:=(pS_len s x.1 x.2.1 hs hc hf).2
 have b2:=rR_len s x.2.2.1
 have b3:=rG_len s x.2.2.2.1
 have b4:=rH_len s x.2.2.2.2 L
 have hrt:=Ctr.of_sc (P:=Tryz.prog) (f:=201) (args:=[.sc (.int .u8 s),.sc (.int .i64 x.2.2.1)]) (res:=.sc (.string (bs (rR s x.2.2.1)))) rfl (fun _=>.sc _) fun w=>(rright_any s _ w hs hr).mono fun e w2 ⟨he,hw⟩=>⟨he,hw ▸ Below.refl _ _⟩
 have hgt:=Ctr.of_sc (P:=Tryz.prog) (f:=202) (args:=[.sc (.int .u8 s),.sc (.int .i64 x.2.2.2.1)]) (res:=.sc (.string (bs (rG s x.2.2.2.1)))) rfl (fun _=>.sc _) fun w=>(rgrace_any s _ w hs hg).mono fun e w2 ⟨he,hw⟩=>⟨he,hw ▸ Below.refl _ _⟩
 have hht:=Ctr.of_sc (P:=Tryz.prog) (f:=203) (args:=[.sc (.int .u8 s),.sc (.int .i64 x.2.2.2.2),.sc (.int .i64 L)]) (res:=.sc (.string (bs (rH s x.2.2.2.2 L)))) rfl (fun _=>.sc _) fun w=>(rhold_any s _ L w hs ⟨hh.1,by omega⟩).mono fun e w2 ⟨he,hw⟩=>⟨he,hw ▸ Below.refl _ _⟩
 rw [hcs]
 clear hcs hw hok2 k1 k2 k3 k4 l1
 refine Ctr.intro Tryz.func148 rfl Tryz.ntmps148 (Nat.le_of_ble_eq_true rfl) (bd_all rfl) fun w0 F0=>?_;dsimp only [St.init,number,Nat.reduceAdd]
 repeat refine W.go rfl ?_
 refine (?_:WL _ _ _ _ _ _)
 dsimp only [St.put,Nat.reduceAdd]
 refine WL.vl rfl (WV.call rfl (callF Tryz.func199 rfl rfl) rfl rfl (rSymbol_FS s hs x.1 x.2.1 hc hf hne)) ?_
 by_cases hfz:x.2.1=0
 ·have hh0:x.2.2.2.2=0:=by omega
  have hp0:pH s x.2.2.2.2 L=[]:=if_pos hh0
  rw [hp0,List.append_nil]
  repeat (first|refine W.gob rfl ?_|refine WL.nil ?_|refine WL.bt rfl rfl rfl (by omega) ?_|refine WL.bf rfl rfl rfl (by omega) ?_|refine WL.nf rfl rfl rfl (by omega) ?_|refine WL.e1 rfl ?_|refine WL.gyes rfl rfl rfl rfl ?_|refine WL.opno rfl rfl rfl rfl rfl rfl rfl ?_|refine W.condF rfl ?_)
  refine (?_:WL _ _ _ _ _ _)
  dsimp only [St.put,Nat.reduceAdd]
  refine WL.vl rfl (WV.call rfl (callF Tryz.func200 rfl rfl) rfl rfl hwf) ?_
  repeat (first|refine W.gob rfl ?_|refine WL.nil ?_|refine WL.e1 rfl ?_|refine WL.gyes rfl rfl rfl rfl ?_|refine WL.len rfl rfl (by first|exact List.length_map _|exact List.length_replicate|rfl) ?_|refine W.condF rfl ?_)
  refine (?_:W _ _ _ _ _)
  dsimp only [St.put,Nat.reduceAdd]
  refine W.drawK (by kernel_rfl) (by kernel_rfl) ?_
  repeat refine DK.st rfl ?_
  refine DK.vl rfl (WV.call rfl (callF Tryz.func201 rfl rfl) rfl rfl hrt) ?_
  repeat (first|refine DK.st rfl ?_|refine DK.cat rfl rfl (by first|omega|(simp;done)|(simp;omega)) ?_)
  refine DK.vl rfl (WV.call rfl (callF Tryz.func202 rfl rfl) rfl rfl hgt) ?_
  repeat (first|refine DK.st rfl ?_|refine DK.cat rfl rfl (by first|omega|(simp;done)|(simp;omega)) ?_|refine DK.nil ?_)
  repeat (first|refine W.gob rfl ?_|refine WL.nil ?_|refine WL.bf rfl rfl rfl (by omega) ?_|refine WL.e1 rfl ?_|refine W.condF rfl ?_)
  refine (?_:W _ _ _ _ _)
  dsimp only [St.put,Nat.reduceAdd]
  exact W.ret (fin2 rfl rfl rfl rfl rfl rfl rfl)
 repeat (first|refine W.gob rfl ?_|refine WL.nil ?_|refine WL.bf rfl rfl rfl (by omega) ?_|refine WL.nf rfl rfl rfl (by omega) ?_|refine WL.e1 rfl ?_|refine WL.gyes rfl rfl rfl rfl ?_|refine WL.opno rfl rfl rfl rfl rfl rfl rfl ?_|refine W.condF rfl ?_)
 refine (?_:WL _ _ _ _ _ _)
 dsimp only [St.put,Nat.reduceAdd]
 refine WL.vl rfl (WV.call rfl (callF Tryz.func200 rfl rfl) rfl rfl hwf) ?_
 repeat (first|refine W.gob rfl ?_|refine WL.nil ?_|refine WL.e1 rfl ?_|refine WL.gyes rfl rfl rfl rfl ?_|refine WL.len rfl rfl (by first|exact List.length_map _|exact List.length_replicate|rfl) ?_|refine W.condF rfl ?_)
 refine (?_:W _ _ _ _ _)
 dsimp only [St.put,Nat.reduceAdd]
 refine W.drawK (by kernel_rfl) (by kernel_rfl) ?_
 repeat refine DK.st rfl ?_
 refine DK.vl rfl (WV.call rfl (callF Tryz.func201 rfl rfl) rfl rfl hrt) ?_
 repeat (first|refine DK.st rfl ?_|refine DK.cat rfl rfl (by first|omega|(simp;done)|(simp;omega)) ?_)
 refine DK.vl rfl (WV.call rfl (callF Tryz.func202 rfl rfl) rfl rfl hgt) ?_
 repeat (first|refine DK.st rfl ?_|refine DK.cat rfl rfl (by first|omega|(simp;done)|(simp;omega)) ?_|refine DK.nil ?_)
 by_cases hhz:x.2.2.2.2=0
 ·have hp0:pH s x.2.2.2.2 L=[]:=if_pos hhz
  rw [hp0,List.append_nil]
  repeat (first|refine W.gob rfl ?_|refine WL.nil ?_|refine WL.bf rfl rfl rfl (by omega) ?_|refine WL.e1 rfl ?_|refine W.condF rfl ?_)
  refine (?_:W _ _ _ _ _)
  dsimp only [St.put,Nat.reduceAdd]
  exact W.ret (fin2 rfl rfl rfl rfl rfl rfl rfl)
 ·have hp0:pH s x.2.2.2.2 L=rH s x.2.2.2.2 L:=if_neg hhz
  rw [hp0]
  repeat (first|refine W.gob rfl ?_|refine WL.nil ?_|refine WL.bt rfl rfl rfl (by omega) ?_|refine WL.e1 rfl ?_|refine W.condT rfl ?_)
  refine (?_:WL _ _ _ _ _ _)
  dsimp only [St.put,Nat.reduceAdd]
  refine WL.vl rfl (WV.call rfl (callF Tryz.func203 rfl rfl) rfl rfl hht) ?_
  repeat (first|refine W.gob rfl ?_|refine WL.nil ?_|refine WL.e1 rfl ?_|refine WL.cat rfl rfl (by first|omega|(simp;done)|(simp;omega)) ?_)
  refine (?_:W _ _ _ _ _)
  dsimp only [St.put,Nat.reduceAdd]
  exact W.ret (fin2 rfl rfl rfl rfl rfl rfl rfl)
theorem rstaff_FS (cs:List (Int×Int×Bool)) (st:List Int) (h:cs.length≤64):Ctr Tryz.prog 77 [.ag (eIns cs st)] (.sc (.int .i64 ((min cs.length 6:Nat):Int))):=by
 refine Ctr.intro Tryz.func77 rfl Tryz.ntmps77 (Nat.le_of_ble_eq_true rfl) (bd_all rfl) fun w0 F0=>?_;dsimp only [St.init,number,Nat.reduceAdd]
 repeat (first|refine W.go rfl ?_|refine WL.len rfl rfl (by first|exact List.length_map _|exact List.length_replicate|rfl) ?_)
 refine (?_:WL _ _ _ _ _ _)
 dsimp only [St.put,Nat.reduceAdd]
 refine WL.mm rfl rfl (show _=((min cs.length 6:Nat):Int) by split<;>omega) ?_
 repeat refine WL.ev rfl ?_
 refine (?_:W _ _ _ _ _)
 dsimp only [St.put,Nat.reduceAdd]
 exact W.ret (fin1 rfl rfl rfl rfl)
theorem rword_FS (s:Int) (hs:1≤s∧s≤4) (e:Ev) (h:sgOk e.val e.dot e.three=true) (ho:tOk s e.val (sgI e.dot e.three)=true):Ctr Tryz.prog 190 [.sc (.int .u8 s),eSg e] (.sc (.string (bs (tW e.val (sgI e.dot e.three))))):=by
 obtain ⟨h1,h2,h3,h4,h5,h6⟩:=sg_cases h
 by_cases hv:e.val=0
 ·have hi:=h6 hv
  have hs4:¬ s=4:=by
   rw [hi] at ho
   unfold tOk at ho
   rw [if_pos hv] at ho
   simpa using ho
  have hw:tW e.val (sgI e.dot e.three)=[45]:=if_pos hv
  rw [hw]
  refine Ctr.intro Tryz.func190 rfl Tryz.ntmps190 (Nat.le_of_ble_eq_true rfl) (bd_all rfl) fun w0 F0=>?_;dsimp only [St.init,number,Nat.reduceAdd]
  repeat (first|refine W.gob rfl ?_|refine WL.nil ?_|refine WL.bt rfl rfl rfl (by omega) ?_|refine WL.bf rfl rfl rfl (by omega) ?_|refine WL.e1 rfl ?_|refine W.condT rfl ?_|refine W.condF rfl ?_)
  refine (?_:W _ _ _ _ _)
  dsimp only [St.put,Nat.reduceAdd]
  exact W.ret (fin1 rfl rfl rfl rfl)
 have hcl:(cut [66,83,77,67,81,88,68] (e.val - 1) e.val).length≤1:=by simp only [cut,List.length_take,List.length_drop];omega
 have hcb:0≤e.val - 1∧e.val - 1≤e.val∧e.val≤([66,83,77,67,81,88,68]:List UInt8).length:=⟨by omega,by omega,by simp;omega⟩
 refine Ctr.intro Tryz.func190 rfl Tryz.ntmps190 (Nat.le_of_ble_eq_true rfl) (bd_all rfl) fun w0 F0=>?_;dsimp only [St.init,number,Nat.reduceAdd]
 repeat (first|refine W.gob rfl ?_|refine WL.nil ?_|refine WL.bf rfl rfl rfl (by omega) ?_|refine WL.e1 rfl ?_|refine WL.ar rfl rfl (by unfold I64;omega) ?_|refine W.condF rfl ?_)
 refine (?_:WL _ _ _ _ _ _)
 dsimp only [St.put,Nat.reduceAdd]
 refine WL.cut rfl rfl hcb ?_
 repeat (first|refine W.gob rfl ?_|refine WL.nil ?_|refine WL.e1 rfl ?_)
 refine (?_:W _ _ _ _ _)
 dsimp only [St.put,Nat.reduceAdd]
 (refine W.cond rfl (fun hif=>?_) (fun hif=>?_)<;>(try simp only [decide_eq_true_eq,decide_eq_false_iff_not,Int.not_lt,Int.not_le,Bool.not_eq_true',Bool.not_eq_false'] at hif))
 ·have hw:tW e.val (sgI e.dot e.three)=cut tmLet (e.val - 1) e.val++[46]:=by
   unfold tW sgI
   rw [if_neg hv,if_pos hif,if_neg (by decide),if_pos rfl]
  rw [hw]
  repeat (first|refine W.gob rfl ?_|refine WL.nil ?_|refine WL.e1 rfl ?_|refine WL.cat rfl rfl (by first|omega|(simp;done)|(simp;omega)) ?_)
  refine (?_:W _ _ _ _ _)
  dsimp only [St.put,Nat.reduceAdd]
  exact W.ret (fin1 rfl rfl rfl rfl)
 have hd:=hif
 repeat (first|refine W.gob rfl ?_|refine WL.nil ?_|refine WL.e1 rfl ?_)
 refine (?_:W _ _ _ _ _)
 dsimp only [St.put,Nat.reduceAdd]
 (refine W.cond rfl (fun hif=>?_) (fun hif=>?_)<;>(try simp only [decide_eq_true_eq,decide_eq_false_iff_not,Int.not_lt,Int.not_le,Bool.not_eq_true',Bool.not_eq_false'] at hif))
 ·have hi:sgI e.dot e.three=2:=by unfold sgI;rw [hd,hif];rfl
  have hs4:¬ s=4:=by
   rw [hi] at ho
   unfold tOk at ho
   rw [if_neg hv] at ho
   simpa using ho
  have hw:tW e.val (sgI e.dot e.three)=cut tmLet (e.val - 1) e.val++[51]:=by
   unfold tW
   rw [hi,if_neg hv,if_neg (by decide),if_neg (by decide)]
  rw [hw]
  repeat (first|refine W.gob rfl ?_|refine WL.nil ?_|refine WL.bf rfl rfl rfl (by omega) ?_|refine WL.e1 rfl ?_|refine WL.cat rfl rfl (by first|omega|(simp;done)|(simp;omega)) ?_|refine W.condF rfl ?_)
  refine (?_:W _ _ _ _ _)
  dsimp only [St.put,Nat.reduceAdd]
  exact W.ret (fin1 rfl rfl rfl rfl)
 have hw:tW e.val (sgI e.dot e.three)=cut tmLet (e.val - 1) e.val:=by
  have hi:sgI e.dot e.three=0:=by unfold sgI;rw [hd,hif];rfl
  unfold tW
  rw [hi,if_neg hv,if_pos rfl]
 rw [hw]
 repeat (first|refine W.gob rfl ?_|refine WL.nil ?_|refine WL.e1 rfl ?_)
 refine (?_:W _ _ _ _ _)
 dsimp only [St.put,Nat.reduceAdd]
 exact W.ret (fin1 rfl rfl rfl rfl)
end Go.Proofs.YtgelfflighgajaaGreatDoor
namespace Go.Proofs.YtgelfflighgajaaGreatDoor
open Go.RowKit
set_option maxRecDepth 100000
set_option maxHeartbeats 4000000
theorem stop_hold {p:Pce} {i la:Int} {x:Stp} (h:stopE p i x la=0):(x.2.2.2.2≤longestN p.evs i x.1∧¬ (0<x.2.2.2.2∧x.2.1=0))∧x.1≤p.cs.length:=by
 unfold stopE at h
 by_cases h1:x.1<1∨(p.cs.length:Int)<x.1
 ·rw [if_pos h1] at h;cases h
 ·rw [if_neg h1] at h
  by_cases h2:x.2.1<0∨fretsOf p.cs x.1<x.2.1
  ·rw [if_pos h2] at h;cases h
  ·rw [if_neg h2] at h
   by_cases h3:x.1≤la
   ·rw [if_pos h3] at h;cases h
   ·rw [if_neg h3] at h
    by_cases h4:(x.2.2.1<0∨3<x.2.2.1)∨(x.2.2.2.1<0∨4<x.2.2.2.1)
    ·rw [if_pos h4] at h;cases h
    ·rw [if_neg h4] at h
     by_cases h5:(x.2.2.2.2<0∨(longestN p.evs i x.1:Int)<x.2.2.2.2)∨(0<x.2.2.2.2∧x.2.1=0)
     ·rw [if_pos h5] at h;cases h
     ·exact ⟨⟨by omega,by omega⟩,by omega⟩
theorem stOn_drop {l:List Stp} {c:Int} {k:Nat} (h:k<l.length):stOn (l.drop k) c=if l[k].1=c then some l[k] else stOn (l.drop (k+1)) c:=by
 rw [List.drop_eq_getElem_cons h]
 unfold stOn
 by_cases e:l[k].1=c
 ·rw [if_pos e,List.find?_cons_of_pos (by simpa using e)]
 ·rw [if_neg e,List.find?_cons_of_neg (by simpa using e)]
theorem cellOf_FS (s:Int) (hs:1≤s∧s≤4) (p:Pce) (i:Nat) (hi:i < p.evs.length) (hO:PcOk p) (h0:pceE p=0) (hk0:lackE s p i p.evs[i]=[]) (c:Int) :
  Ctr Tryz.prog 191 [.sc (.int .u8 s),ePce p,.sc (.int .i64 i),.sc (.int .i64 c)] (.sc (.string (bs (stF s (fun c=>longestN p.evs i c) p.evs[i].stops c)))):=by
 have hn3:=hO.n3
 have h20:=hO.n4 i hi
 have hE:=(pceE_zero h0).2.2 i hi
 have hv:=stopsIn_of h0 i hi
 have hk:=stK_of hk0
 have hst:=stopsE_bd (pceE_zero h0).1 (evE_zero hE).2.2.2
 refine Ctr.intro Tryz.func191 rfl Tryz.ntmps191 (Nat.le_of_ble_eq_true rfl) (bd_all rfl) fun w0 F0=>?_;dsimp only [St.init,number,Nat.reduceAdd]
 repeat (first|refine W.go rfl ?_|refine WL.ev rfl ?_|refine WL.idx rfl rfl (by omega) (by first|exact map_at (by omega)|exact map_atZ (by omega) (by omega)) ?_)
 refine (?_:W _ _ _ _ _)
 dsimp only [St.put,Nat.reduceAdd]
 refine W.loop (fun k:Nat=>k≤p.evs[i].stops.length∧stOn (p.evs[i].stops.drop k) c=stOn p.evs[i].stops c) (fun k=>⟨[(0,.sc (.int .u8 s)),(2,.sc (.int .i64 i)),(3,.sc (.int .i64 c)),(5,.pt 0 0 0),(9,.pt 1 0 0),(10,.sc (.int .i64 k))],[(0,.box 28 (ePce p).cells),(1,.box 36 (eEv p.evs[i]))],2⟩) (fun k=>p.evs[i].stops.length - k) 0 ⟨by omega,rfl⟩ (Tr.ren id (by repeat (first|exact trivial|refine ⟨⟨?_,?_⟩,?_⟩|rfl)) (by repeat (first|exact trivial|refine ⟨⟨?_,?_,?_⟩,?_⟩|rfl)) rfl) fun k hk2=>?_
 obtain ⟨hk1,hk3⟩:=hk2
 repeat (first|refine W.go rfl ?_|refine WL.ev rfl ?_|refine WL.len rfl rfl (by first|exact List.length_map _|exact List.length_replicate|rfl) ?_)
 refine (?_:W _ _ _ _ _)
 dsimp only [St.put,Nat.reduceAdd]
 (refine W.cond rfl (fun hif=>?_) (fun hif=>?_)<;>(try simp only [decide_eq_true_eq,decide_eq_false_iff_not,Int.not_lt,Int.not_le,Bool.not_eq_true',Bool.not_eq_false'] at hif))
 ·have hlt:k < p.evs[i].stops.length:=by omega
  rw [stOn_drop hlt] at hk3
  have hb:=hv k hlt
  have hkk:=hk _ (List.getElem_mem hlt)
  obtain ⟨la,hla⟩:=hst k hlt
  have hh:=stop_hold hla
  have hll:=longestN_le p.evs i p.evs[i].stops[k].1
  repeat (first|refine W.go rfl ?_|refine WL.ev rfl ?_|refine WL.idx rfl rfl (by omega) (by first|exact map_at (by omega)|exact map_atZ (by omega) (by omega)) ?_)
  refine (?_:W _ _ _ _ _)
  dsimp only [St.put,Nat.reduceAdd]
  (refine W.cond rfl (fun hif=>?_) (fun hif=>?_)<;>(try simp only [decide_eq_true_eq,decide_eq_false_iff_not,Int.not_lt,Int.not_le,Bool.not_eq_true',Bool.not_eq_false'] at hif))
  ·rw [if_pos hif] at hk3
   have hF:stF s (fun c=>longestN p.evs i c) p.evs[i].stops c=stT s (fun c=>longestN p.evs i c) p.evs[i].stops[k]:=by unfold stF;rw [← hk3]
   rw [hF]
   have hcc:longestN p.evs i p.evs[i].stops[k].1=longestN p.evs i c:=by rw [hif]
   repeat refine W.go rfl ?_
   refine (?_:W _ _ _ _ _)
   refine W.drawK (by kernel_rfl) (by kernel_rfl) ?_
   repeat (first|refine DK.st rfl ?_|refine DK.idx rfl rfl (by omega) (by first|exact map_at (by omega)|exact map_atZ (by omega) (by omega)) ?_)
   refine DK.vl rfl (WV.call rfl (callF Tryz.func86 rfl rfl) rfl rfl (rLong_FS p hO i c)) ?_
   refine DK.vl rfl (WV.call rfl (callF Tryz.func148 rfl rfl) rfl rfl (rCell_FS s hs p.evs[i].stops[k] (longestN p.evs i c) hb.1 hb.2.1 hb.2.2.1 hb.2.2.2.1 ⟨by omega,by rw [← hcc];exact hh.1.1⟩ (by omega) hh.1.2 (by unfold stK at hkk;rw [← hcc];exact hkk))) ?_
   repeat (first|refine DK.st rfl ?_|refine DK.nil ?_)
   repeat refine W.go rfl ?_
   refine (?_:W _ _ _ _ _)
   dsimp only [St.put,Nat.reduceAdd]
   refine W.ret (fin1 rfl rfl (sc_str ?_) rfl)
   show _=cellS _ _ _ _ _ _ ((longestN p.evs i p.evs[i].stops[k].1:Nat):Int)
   rw [hcc]
  ·rw [if_neg hif] at hk3
   repeat (first|refine W.go rfl ?_|refine WL.ev rfl ?_|refine WL.ar rfl rfl (by unfold I64;omega) ?_)
   dsimp only [St.put,Nat.reduceAdd]
   exact ⟨k+1,⟨by omega,hk3⟩,by omega,(Tr.ren id (by repeat (first|exact trivial|refine ⟨⟨?_,?_⟩,?_⟩|rfl)) (by repeat (first|exact trivial|refine ⟨⟨?_,?_,?_⟩,?_⟩|rfl)) rfl)⟩
 have hke:k=p.evs[i].stops.length:=by omega
 rw [hke,List.drop_length] at hk3
 have hF:stF s (fun c=>longestN p.evs i c) p.evs[i].stops c=[45]:=by unfold stF;rw [← hk3];rfl
 rw [hF]
 repeat refine W.go rfl ?_
 refine (?_:W _ _ _ _ _)
 exact W.ret (fin1 rfl rfl rfl rfl)
theorem refStaff_len (s:Int) (L:Int→Nat) (l:List Stp) (h:∀ c,(stF s L l c).length≤12):∀ m:Nat,(refStaff s L l m).length≤13*m
 | 0=>by unfold refStaff;split<;>simp
 | m+1=>by
  have ih:=refStaff_len s L l h m
  have hc:=h ((m:Int)+1)
  rw [refStaff_succ]
  split<;>simp only [List.length_append,sp,List.length_cons]<;>omega
theorem refOut_len (s:Int) (hs:1≤s∧s≤4) (L:Int→Nat) (n:Nat) (l:List Stp) (c:Int) (h:∀ x∈l,(1≤x.1∧x.1≤14)∧(0≤x.2.1∧x.2.1≤18)):(refOut s L n l c).length≤13*l.length:=by
 unfold refOut
 have h1:∀ t∈outL s L n (l.filter fun x=>decide (x.1≤c)),t.length≤12:=fun t ht=>by
  have:t∈((l.filter fun x=>decide (x.1≤c)).filter fun x=>decide ((n:Int)<x.1)).map (stT s L):=by
   unfold outL at ht
   split at ht
   ·simpa using ht
   ·exact ht
  obtain ⟨x,hx,rfl⟩:=List.mem_map.1 this
  have:=h x (List.mem_filter.1 (List.mem_filter.1 hx).1).1
  exact cellS_len _ _ _ _ _ _ _ hs this.1 this.2
 have h2:=spW_len h1
 have h3:=outL_len s L n (l.filter fun x=>decide (x.1≤c))
 have h4:=List.length_filter_le (fun x:Stp=>decide (x.1≤c)) l
 have:(12+1)*(outL s L n (l.filter fun x=>decide (x.1≤c))).length≤13*l.length:=Nat.mul_le_mul_left 13 (by omega)
 omega
theorem head_ok {s:Int} {i:Int} {e:Ev} (hs:1≤s∧s≤4) (hsg:sgOk e.val e.dot e.three=true) (h:lackHead s i e=[]):tOk s e.val (sgI e.dot e.three)=true:=by
 unfold lackHead at h
 obtain ⟨a1,a2⟩:=List.append_eq_nil_iff.1 h
 obtain ⟨a2,a3⟩:=List.append_eq_nil_iff.1 a2
 have lk:∀ b i c w,lkIf b i c w=[]→b=true:=fun b i c w h=>by cases b<;>first|rfl|cases h
 obtain ⟨h1,h2,h3,h4,h5,h6⟩:=sg_cases hsg
 unfold tOk
 by_cases hv:e.val=0
 ·rw [if_pos hv] at a1 ⊢
  have:=lk _ _ _ _ a1
  unfold hasS at this
  by_cases h4:s=4
  ·subst h4;cases this
  ·simpa using h4
 ·rw [if_neg hv]
  by_cases ht:e.three=true
  ·rw [if_pos ht] at a2
   have:=lk _ _ _ _ a2
   unfold hasS at this
   by_cases h4:s=4
   ·subst h4;cases this
   ·simp [h4]
  ·have h3:e.three=false:=by simpa using ht
   have:sgI e.dot e.three≠2:=by unfold sgI;rw [h3];split<;>simp
   simp [this]
theorem rcolumn_FS (s:Int) (hs:1≤s∧s≤4) (p:Pce) (i:Nat) (hi:i < p.evs.length) (hO:PcOk p) (h0:pceE p=0) (hk0:lackE s p i p.evs[i]=[]) :
  Ctr Tryz.prog 131 [.sc (.int .u8 s),ePce p,.sc (.int .i64 i)] (.sc (.string (bs (colS s p i p.evs[i])))):=by
 have hn3:=hO.n3
 have h20:=hO.n4 i hi
 have hn1:=(insE_len (pceE_zero h0).1).2.1
 have hE:=(pceE_zero h0).2.2 i hi
 have hv:=stopsIn_of h0 i hi
 have hsg:=(evE_zero hE).1
 have hk:=stK_of hk0
 have hst:=stopsE_bd (pceE_zero h0).1 (evE_zero hE).2.2.2
 have hasc:asc 0 p.evs[i].stops:=asc_of (evE_zero hE).2.2.2
 have hok:=head_ok (i:=i) hs hsg (List.append_eq_nil_iff.1 hk0).1
 have hin:=in_of hv
 have hdl:(refHead s p.evs[i]).length≤4:=by
  have:=tW_len p.evs[i].val (sgI p.evs[i].dot p.evs[i].three) ⟨(sg_cases hsg).1,(sg_cases hsg).2.1⟩
  unfold refHead
  rw [List.length_append]
  split<;>simp<;>omega
 have hbar:refHead s p.evs[i]=(if p.evs[i].bar=true then [124,32] else [])++tW p.evs[i].val (sgI p.evs[i].dot p.evs[i].three):=rfl
 have hbl:((if p.evs[i].bar=true then [124,32] else []):List UInt8).length≤2:=by split<;>simp
 refine Ctr.intro Tryz.func131 rfl Tryz.ntmps131 (Nat.le_of_ble_eq_true rfl) (bd_all rfl) fun w0 F0=>?_;dsimp only [St.init,number,Nat.reduceAdd]
 repeat (first|refine W.go rfl ?_|refine WL.ev rfl ?_|refine WL.idx rfl rfl (by omega) (by first|exact map_at (by omega)|exact map_atZ (by omega) (by omega)) ?_)
 refine (?_:W _ _ _ _ _)
 dsimp only [St.put,Nat.reduceAdd]
 refine W.meet ⟨[(0,.sc (.int .u8 s)),(2,.sc (.int .i64 i)),(4,.pt 0 0 0),(7,.pt 1 0 0),(8,.sc (.string (bs (if p.evs[i].bar=true then [124,32] else []))))],[(0,.box 28 (ePce p).cells),(1,.box 36 (eEv p.evs[i]))],2⟩ ?_ ?_
 ·(refine W.cond rfl (fun hif=>?_) (fun hif=>?_)<;>(try simp only [decide_eq_true_eq,decide_eq_false_iff_not,Int.not_lt,Int.not_le,Bool.not_eq_true',Bool.not_eq_false'] at hif))
  ·rw [if_pos hif]
   repeat refine W.go rfl ?_
   refine (?_:Tr _ _ _)
   exact (Tr.ren id (by repeat (first|exact trivial|refine ⟨⟨?_,?_⟩,?_⟩|rfl)) (by repeat (first|exact trivial|refine ⟨⟨?_,?_,?_⟩,?_⟩|rfl)) rfl)
  ·rw [if_neg (by simp [hif])]
   repeat refine W.go rfl ?_
   refine (?_:Tr _ _ _)
   exact (Tr.ren id (by repeat (first|exact trivial|refine ⟨⟨?_,?_⟩,?_⟩|rfl)) (by repeat (first|exact trivial|refine ⟨⟨?_,?_,?_⟩,?_⟩|rfl)) rfl)
 have htl:=tW_len p.evs[i].val (sgI p.evs[i].dot p.evs[i].three) ⟨(sg_cases hsg).1,(sg_cases hsg).2.1⟩
 obtain ⟨hb,hhb⟩:∃ l,((if p.evs[i].bar=true then [124,32] else []):List UInt8)=l:=⟨_,rfl⟩
 rw [hhb] at hbar hbl ⊢
 repeat refine W.go rfl ?_
 refine (?_:WL _ _ _ _ _ _)
 dsimp only [St.put,Nat.reduceAdd]
 refine WL.vl rfl (WV.call rfl (callF Tryz.func190 rfl rfl) rfl rfl (rword_FS s hs p.evs[i] hsg hok)) ?_
 repeat (first|refine W.go rfl ?_|refine WL.ev rfl ?_|refine WL.cat rfl rfl (by first|omega|(simp;done)|(simp;omega)) ?_)
 refine (?_:W _ _ _ _ _)
 dsimp only [St.put,Nat.reduceAdd]
 rw [← hbar]
 (refine W.cond rfl (fun hif=>?_) (fun hif=>?_)<;>(try simp only [decide_eq_true_eq,decide_eq_false_iff_not,Int.not_lt,Int.not_le,Bool.not_eq_true',Bool.not_eq_false'] at hif))
 ·rw [colS_tie hif]
  repeat (first|refine W.go rfl ?_|refine WL.ev rfl ?_|refine WL.cat rfl rfl (by first|omega|(simp;done)|(simp;omega)) ?_)
  refine (?_:W _ _ _ _ _)
  dsimp only [St.put,Nat.reduceAdd]
  exact W.ret (fin1 rfl rfl rfl rfl)
 have htie:=hif
 repeat refine W.go rfl ?_
 refine (?_:WL _ _ _ _ _ _)
 refine WL.vl rfl (WV.call rfl (callF Tryz.func147 rfl rfl) rfl rfl (rest_FS _)) ?_
 repeat refine WL.nil ?_
 refine (?_:W _ _ _ _ _)
 dsimp only [St.put,Nat.reduceAdd]
 (refine W.cond rfl (fun hif=>?_) (fun hif=>?_)<;>(try simp only [decide_eq_true_eq,decide_eq_false_iff_not,Int.not_lt,Int.not_le,Bool.not_eq_true',Bool.not_eq_false'] at hif))
 ·have hz:p.evs[i].stops.length=0:=by
   unfold restB at hif
   simp only [Bool.and_eq_true,decide_eq_true_eq] at hif
   first|exact hif.1|simpa using hif.1
  rw [colS_rest (by simp [htie]) hz]
  repeat (first|refine W.go rfl ?_|refine WL.ev rfl ?_|refine WL.cat rfl rfl (by first|omega|(simp;done)|(simp;omega)) ?_)
  refine (?_:W _ _ _ _ _)
  dsimp only [St.put,Nat.reduceAdd]
  exact W.ret (fin1 rfl rfl rfl rfl)
 have hne:¬ p.evs[i].stops.length=0:=by
  unfold restB at hif
  rw [htie] at hif
  simpa using hif
 obtain ⟨L,hL⟩:∃ L:Int→Nat,L=fun c=>longestN p.evs i c:=⟨_,rfl⟩
 obtain ⟨n,hn⟩:∃ n,staffN s p=n:=⟨_,rfl⟩
 have hn6:=staffN_le s p
 have hnc:staffN s p≤p.cs.length:=by unfold staffN;split<;>omega
 rw [hn] at hn6 hnc
 have hcf:=fun c=>cellOf_FS s hs p i hi hO h0 hk0 c
 have hch:=colS_chord (s:=s) (p:=p) (i:=i) (e:=p.evs[i]) hL (by simp [htie]) hne p.cs.length (fun x hx=>by
  obtain ⟨k,hk,rfl⟩:=List.getElem_of_mem hx
  obtain ⟨la,hla⟩:=hst k hk
  exact (stop_hold hla).2)
 rw [hn] at hch
 rw [hch]
 rw [← hL] at hcf hk
 have hup:=refOut_up s L n p.evs[i].stops
 have hz0:=refOut_zero s L n p.evs[i].stops hasc
 have hlF:∀ c,(stF s L p.evs[i].stops c).length≤12:=fun c=>stF_len s hs L _ c hin
 have hlS:=refStaff_len s L p.evs[i].stops hlF
 have hlO:=fun c=>refOut_len s hs L n p.evs[i].stops c hin
 obtain ⟨hd,hhd⟩:∃ l,refHead s p.evs[i]=l:=⟨_,rfl⟩
 rw [hhd] at hdl hbar ⊢
 clear hE hst hok hch hbar hbl hhb hsg hv
 repeat refine W.go rfl ?_
 refine (?_:WL _ _ _ _ _ _)
 dsimp only [St.put,Nat.reduceAdd]
 refine WL.vl rfl (WV.call rfl (callF Tryz.func77 rfl rfl) rfl rfl (rstaff_FS p.cs p.st hO.n1)) ?_
 repeat (first|refine W.go rfl ?_|refine WL.ev rfl ?_)
 refine (?_:W _ _ _ _ _)
 dsimp only [St.put,Nat.reduceAdd]
 refine W.meet ⟨[(0,.sc (.int .u8 s)),(2,.sc (.int .i64 i)),(4,.pt 0 0 0),(7,.pt 1 0 0),(8,.sc (.string (bs hd))),(9,.sc (.int .i64 (n:Int)))],[(0,.box 28 (ePce p).cells),(1,.box 36 (eEv p.evs[i]))],2⟩ ?_ ?_
 ·(refine W.cond rfl (fun hif=>?_) (fun hif=>?_)<;>(try simp only [decide_eq_true_eq,decide_eq_false_iff_not,Int.not_lt,Int.not_le,Bool.not_eq_true',Bool.not_eq_false'] at hif))
  ·have hc0:n=0:=by rw [← hn];exact if_pos (by simpa using hif)
   rw [hc0]
   repeat refine W.go rfl ?_
   refine (?_:Tr _ _ _)
   exact (Tr.ren id (by repeat (first|exact trivial|refine ⟨⟨?_,?_⟩,?_⟩|rfl)) (by repeat (first|exact trivial|refine ⟨⟨?_,?_,?_⟩,?_⟩|rfl)) rfl)
  ·have hc0:n=min p.cs.length 6:=by rw [← hn];exact if_neg (by simpa using hif)
   rw [hc0]
   repeat refine W.go rfl ?_
   refine (?_:Tr _ _ _)
   exact (Tr.ren id (by repeat (first|exact trivial|refine ⟨⟨?_,?_⟩,?_⟩|rfl)) (by repeat (first|exact trivial|refine ⟨⟨?_,?_,?_⟩,?_⟩|rfl)) rfl)
 repeat refine W.go rfl ?_
 refine (?_:W _ _ _ _ _)
 refine W.loop (fun k:Nat=>k≤p.cs.length) (fun k=>⟨[(0,.sc (.int .u8 s)),(2,.sc (.int .i64 i)),(4,.pt 0 0 0),(7,.pt 1 0 0),(8,.sc (.string (bs hd))),(9,.sc (.int .i64 (n:Int))),(10,.sc (.string (bs (refStaff s L p.evs[i].stops (min k n))))),(11,.sc (.string (bs (if s=2 then [] else refOut s L n p.evs[i].stops k)))),(12,.sc (.string (bs (if s=2 then refOut s L n p.evs[i].stops k else [])))),(13,.sc (.int .i64 ((k:Int)+1)))],[(0,.box 28 (ePce p).cells),(1,.box 36 (eEv p.evs[i]))],2⟩) (fun k=>p.cs.length - k) 0 (by omega) (Tr.ren id (by
   rw [Nat.zero_min]
   have e1:refStaff s L p.evs[i].stops 0=[]:=by unfold refStaff;split<;>rfl
   have e2:(if s=2 then [] else refOut s L n p.evs[i].stops ((0:Nat):Int))=[]:=by split;rfl;exact hz0
   have e3:(if s=2 then refOut s L n p.evs[i].stops ((0:Nat):Int) else [])=[]:=by split;exact hz0;rfl
   rw [e1,e2,e3]
   repeat (first|exact trivial|refine ⟨⟨?_,?_⟩,?_⟩|rfl)) (by repeat (first|exact trivial|refine ⟨⟨?_,?_,?_⟩,?_⟩|rfl)) rfl) fun k hk2=>?_
 have hlS1:=hlS (min k n)
 have hlO1:=hlO k
 have hlF1:=hlF ((k:Int)+1)
 obtain ⟨F,hF⟩:∃ F,stF s L p.evs[i].stops ((k:Int)+1)=F:=⟨_,rfl⟩
 have hup1:=hup k 0 hasc
 have hcf1:=hcf ((k:Int)+1)
 rw [hF] at hcf1 hlF1
 repeat (first|refine W.go rfl ?_|refine WL.ev rfl ?_|refine WL.len rfl rfl (by first|exact List.length_map _|exact List.length_replicate|rfl) ?_)
 refine (?_:W _ _ _ _ _)
 dsimp only [St.put,Nat.reduceAdd]
 (refine W.cond rfl (fun hif=>?_) (fun hif=>?_)<;>(try simp only [decide_eq_true_eq,decide_eq_false_iff_not,Int.not_lt,Int.not_le,Bool.not_eq_true',Bool.not_eq_false'] at hif))
 ·have hkc:k < p.cs.length:=by omega
  obtain ⟨RS,hRS0⟩:∃ l,refStaff s L p.evs[i].stops (min k n)=l:=⟨_,rfl⟩
  obtain ⟨RO,hRO0⟩:∃ l,refOut s L n p.evs[i].stops k=l:=⟨_,rfl⟩
  rw [hRO0] at hup1 hlO1 ⊢
  rw [hRS0] at hlS1 ⊢
  by_cases hkn:k+1≤n
  ·have hRS:refStaff s L p.evs[i].stops (min (k+1) n)=if s=2 then sp F++RS else RS++sp F:=by
    rw [Nat.min_eq_left hkn,refStaff_succ,hF,← hRS0,Nat.min_eq_left (by omega:k≤n)]
   have hRO:refOut s L n p.evs[i].stops ((k+1:Nat):Int)=RO:=by
    show refOut s L n p.evs[i].stops ((k:Int)+1)=RO
    rw [hup1]
    split
    ·rw [if_pos (by omega)]
    ·rfl
   by_cases hs2:s=2
   ·rw [if_pos hs2] at hRS
    rw [if_pos hs2,if_pos hs2]
    repeat (first|refine W.gob rfl ?_|refine WL.e1 rfl ?_)
    refine (?_:WL _ _ _ _ _ _)
    dsimp only [St.put,Nat.reduceAdd]
    refine WL.vl rfl (WV.call rfl (callF Tryz.func191 rfl rfl) rfl rfl hcf1) ?_
    repeat (first|refine W.gob rfl ?_|refine WL.nil ?_|refine WL.bt rfl rfl rfl (by omega) ?_|refine WL.e1 rfl ?_|refine WL.gyes rfl rfl rfl rfl ?_|refine WL.ar rfl rfl (by unfold I64;omega) ?_|refine WL.cat rfl rfl (by first|omega|(simp;done)|(simp;omega)) ?_|refine W.condT rfl ?_)
    dsimp only [St.put,Nat.reduceAdd]
    refine ⟨k+1,by omega,by omega,?_⟩
    rw [hRS,hRO,if_pos hs2,if_pos hs2]
    exact (Tr.ren id (by repeat (first|exact trivial|refine ⟨⟨?_,?_⟩,?_⟩|rfl)) (by repeat (first|exact trivial|refine ⟨⟨?_,?_,?_⟩,?_⟩|rfl)) rfl)
   ·rw [if_neg hs2] at hRS
    rw [if_neg hs2,if_neg hs2]
    repeat (first|refine W.gob rfl ?_|refine WL.e1 rfl ?_)
    refine (?_:WL _ _ _ _ _ _)
    dsimp only [St.put,Nat.reduceAdd]
    refine WL.vl rfl (WV.call rfl (callF Tryz.func191 rfl rfl) rfl rfl hcf1) ?_
    repeat (first|refine W.gob rfl ?_|refine WL.nil ?_|refine WL.bt rfl rfl rfl (by omega) ?_|refine WL.bf rfl rfl rfl (by omega) ?_|refine WL.e1 rfl ?_|refine WL.gyes rfl rfl rfl rfl ?_|refine WL.ar rfl rfl (by unfold I64;omega) ?_|refine WL.cat rfl rfl (by first|omega|(simp;done)|(simp;omega)) ?_|refine W.condT rfl ?_|refine W.condF rfl ?_)
    dsimp only [St.put,Nat.reduceAdd]
    refine ⟨k+1,by omega,by omega,?_⟩
    rw [hRS,hRO,if_neg hs2,if_neg hs2]
    exact (Tr.ren id (by repeat (first|exact trivial|refine ⟨⟨?_,?_⟩,?_⟩|rfl)) (by repeat (first|exact trivial|refine ⟨⟨?_,?_,?_⟩,?_⟩|rfl)) rfl)
  ·have hRS:refStaff s L p.evs[i].stops (min (k+1) n)=RS:=by
    rw [← hRS0,Nat.min_eq_right (by omega:n≤k+1),Nat.min_eq_right (by omega:n≤k)]
   cases hso:stOn p.evs[i].stops ((k:Int)+1) with
   | none =>
    have hFd:F=[45]:=by rw [← hF];unfold stF;rw [hso]
    rw [hFd] at hcf1
    have hRO:refOut s L n p.evs[i].stops ((k+1:Nat):Int)=RO:=by
     show refOut s L n p.evs[i].stops ((k:Int)+1)=RO
     rw [hup1,hso]
    repeat (first|refine W.gob rfl ?_|refine WL.e1 rfl ?_)
    refine (?_:WL _ _ _ _ _ _)
    dsimp only [St.put,Nat.reduceAdd]
    refine WL.vl rfl (WV.call rfl (callF Tryz.func191 rfl rfl) rfl rfl hcf1) ?_
    repeat (first|refine W.gob rfl ?_|refine WL.nil ?_|refine WL.bf rfl rfl rfl (by omega) ?_|refine WL.e1 rfl ?_|refine WL.opno rfl rfl rfl rfl rfl rfl rfl ?_|refine WL.ar rfl rfl (by unfold I64;omega) ?_|refine WL.cat rfl rfl (by first|omega|(simp;done)|(simp;omega)) ?_|refine W.condF rfl ?_)
    dsimp only [St.put,Nat.reduceAdd]
    refine ⟨k+1,by omega,by omega,?_⟩
    rw [hRS,hRO]
    exact (Tr.ren id (by repeat (first|exact trivial|refine ⟨⟨?_,?_⟩,?_⟩|rfl)) (by repeat (first|exact trivial|refine ⟨⟨?_,?_,?_⟩,?_⟩|rfl)) rfl)
   | some x =>
    have hx:=stOn_eq hso
    have hFx:F=stT s L x:=by rw [← hF];unfold stF;rw [hso]
    have hkx:=hk x hx.1
    have hpo:pOk s x.1 x.2.1=true:=by
     unfold stK cellOk at hkx
     simp only [Bool.and_eq_true] at hkx
     exact hkx.1.1.1
    have hFd:F≠[45]:=by rw [hFx];exact cellS_dash _ _ _ _ _ _ _ hs (hin x hx.1).1 (hin x hx.1).2 hpo
    have hRO:refOut s L n p.evs[i].stops ((k+1:Nat):Int)=if s=2 then sp F++RO else RO++sp F:=by
     show refOut s L n p.evs[i].stops ((k:Int)+1)=_
     rw [hup1,hso]
     simp only
     rw [if_neg (by omega),← hFx]
    by_cases hs2:s=2
    ·rw [if_pos hs2] at hRO
     rw [if_pos hs2,if_pos hs2]
     repeat (first|refine W.gob rfl ?_|refine WL.e1 rfl ?_)
     refine (?_:WL _ _ _ _ _ _)
     dsimp only [St.put,Nat.reduceAdd]
     refine WL.vl rfl (WV.call rfl (callF Tryz.func191 rfl rfl) rfl rfl hcf1) ?_
     repeat (first|refine W.gob rfl ?_|refine WL.nil ?_|refine WL.bf rfl rfl rfl (by omega) ?_|refine WL.e1 rfl ?_|refine WL.opno rfl rfl rfl rfl rfl rfl rfl ?_|refine WL.cat rfl rfl (by first|omega|(simp;done)|(simp;omega)) ?_|refine W.condF rfl ?_)
     refine (?_:WL _ _ _ _ _ _)
     dsimp only [St.put,Nat.reduceAdd]
     refine WL.partG rfl rfl rfl rfl (fun hp=>?_) (fun hp=>absurd hp (by simpa using hFd))
     repeat (first|refine W.gob rfl ?_|refine WL.nil ?_|refine WL.bt rfl rfl rfl (by omega) ?_|refine WL.e1 rfl ?_|refine WL.gyes rfl rfl rfl rfl ?_|refine WL.ar rfl rfl (by unfold I64;omega) ?_|refine WL.cat rfl rfl (by first|omega|(simp;done)|(simp;omega)) ?_|refine W.condT rfl ?_)
     dsimp only [St.put,Nat.reduceAdd]
     refine ⟨k+1,by omega,by omega,?_⟩
     rw [hRS,hRO,if_pos hs2,if_pos hs2]
     exact (Tr.ren id (by repeat (first|exact trivial|refine ⟨⟨?_,?_⟩,?_⟩|rfl)) (by repeat (first|exact trivial|refine ⟨⟨?_,?_,?_⟩,?_⟩|rfl)) rfl)
    ·rw [if_neg hs2] at hRO
     rw [if_neg hs2,if_neg hs2]
     repeat (first|refine W.gob rfl ?_|refine WL.e1 rfl ?_)
     refine (?_:WL _ _ _ _ _ _)
     dsimp only [St.put,Nat.reduceAdd]
     refine WL.vl rfl (WV.call rfl (callF Tryz.func191 rfl rfl) rfl rfl hcf1) ?_
     repeat (first|refine W.gob rfl ?_|refine WL.nil ?_|refine WL.bf rfl rfl rfl (by omega) ?_|refine WL.e1 rfl ?_|refine WL.opno rfl rfl rfl rfl rfl rfl rfl ?_|refine WL.cat rfl rfl (by first|omega|(simp;done)|(simp;omega)) ?_|refine W.condF rfl ?_)
     refine (?_:WL _ _ _ _ _ _)
     dsimp only [St.put,Nat.reduceAdd]
     refine WL.partG rfl rfl rfl rfl (fun hp=>?_) (fun hp=>absurd hp (by simpa using hFd))
     repeat (first|refine W.gob rfl ?_|refine WL.nil ?_|refine WL.bf rfl rfl rfl (by omega) ?_|refine WL.e1 rfl ?_|refine WL.gyes rfl rfl rfl rfl ?_|refine W.condF rfl ?_)
     refine (?_:W _ _ _ _ _)
     dsimp only [St.put,Nat.reduceAdd]
     (refine W.cond rfl (fun hif=>?_) (fun hif=>?_)<;>(try simp only [decide_eq_true_eq,decide_eq_false_iff_not,Int.not_lt,Int.not_le,Bool.not_eq_true',Bool.not_eq_false'] at hif))
     ·repeat (first|refine W.gob rfl ?_|refine WL.nil ?_|refine WL.e1 rfl ?_|refine WL.ar rfl rfl (by unfold I64;omega) ?_|refine WL.cat rfl rfl (by first|omega|(simp;done)|(simp;omega)) ?_)
      dsimp only [St.put,Nat.reduceAdd]
      refine ⟨k+1,by omega,by omega,?_⟩
      rw [hRS,hRO,if_neg hs2,if_neg hs2]
      exact (Tr.ren id (by repeat (first|exact trivial|refine ⟨⟨?_,?_⟩,?_⟩|rfl)) (by repeat (first|exact trivial|refine ⟨⟨?_,?_,?_⟩,?_⟩|rfl)) rfl)
     ·exact absurd hif (by simpa using hFd)
 have hke:k=p.cs.length:=by omega
 rw [hke,Nat.min_eq_right hnc] at hlS1
 rw [hke] at hlO1
 rw [hke,Nat.min_eq_right hnc]
 by_cases hs2:s=2
 ·rw [if_pos hs2,if_pos hs2]
  repeat (first|refine W.go rfl ?_|refine WL.ev rfl ?_|refine WL.cat rfl rfl (by first|omega|(simp;done)|(simp;omega)) ?_)
  refine (?_:W _ _ _ _ _)
  dsimp only [St.put,Nat.reduceAdd]
  exact W.ret (fin1 rfl rfl rfl rfl)
 ·rw [if_neg hs2,if_neg hs2]
  repeat (first|refine W.go rfl ?_|refine WL.ev rfl ?_|refine WL.cat rfl rfl (by first|omega|(simp;done)|(simp;omega)) ?_)
  refine (?_:W _ _ _ _ _)
  dsimp only [St.put,Nat.reduceAdd]
  exact W.ret (fin1 rfl rfl rfl rfl)
end Go.Proofs.YtgelfflighgajaaGreatDoor
