/- The table of costs: the reference. -/
import Derived.Test.YtgelfflighgajaaGreatDoorAlQOq
set_option maxHeartbeats 8000000
set_option maxRecDepth 100000
set_option linter.unusedVariables false
set_option linter.unusedSimpArgs false
namespace Go.Proofs.YtgelfflighgajaaGreatDoor
open Go.RowKit
theorem z41i {z:Int} (h:I64 z:=by unfold I64;omega):I64 z:=h
def tabA (a b:List Ev):List (List AV):=rws a b (-1)
theorem costs_FS (a b:Pce) (hOa:PcOk a) (hOb:PcOk b) (ha:a.evs.length≤60) (hb:b.evs.length≤60):Ctr Tryz.prog 64 [ePce a,ePce b] (.ls 1 (tabA a.evs b.evs)):=by
 have ha2:∀ e∈a.evs,e.stops.length≤20:=fun e he=>by obtain ⟨q,hq,rfl⟩:=List.getElem_of_mem he;exact hOa.n4 q hq
 have hb2:∀ e∈b.evs,e.stops.length≤20:=fun e he=>by obtain ⟨q,hq,rfl⟩:=List.getElem_of_mem he;exact hOb.n4 q hq
 have hbd:=csA_bd ha2 hb2
 have hnn:=csA_nn a.evs b.evs
 have htop:=rws_top a.evs b.evs
 refine zqe Tryz.func64 Tryz.ntmps64 fun w0 F0=>?_;dsimp only [St.init,number,Nat.reduceAdd]
 repeat (first|refine W.gob rfl ?_|refine WL.nil ?_|refine WL.e1 rfl ?_|refine WL.ar rfl rfl z41i ?_|refine WL.len rfl rfl zql ?_)
 refine (?_:WL _ _ _ _ _ _)
 try dsimp only[St.put,Nat.reduceAdd]
 refine WL.mks (x:=⟨23,.slice none 0 0,(a.evs.length:Int)+1,(a.evs.length:Int)+1⟩) rfl rfl rfl (show ((a.evs.length:Int)+1).toNat=a.evs.length+1 by omega) ⟨by show 0≤(a.evs.length:Int)+1;omega,by show (a.evs.length:Int)+1≤1000000;omega⟩ ?_
 repeat (first|refine W.gob rfl ?_|refine WL.nil ?_|refine WL.e1 rfl ?_|refine WL.len rfl rfl zql ?_)
 refine (?_:W _ _ _ _ _)
 try dsimp only[St.put,Nat.reduceAdd]
 refine W.loop (fun x:Int=>-1≤x∧x≤a.evs.length) (fun x=>⟨[(2,.pt 0 0 0),(3,.pt 1 0 0),(5,.sl 2),(6,.sc (.int .i64 x))],[(0,.box 28 (ePce a).cells),(1,.box 28 (ePce b).cells),(2,.row 23 1 (rws a.evs b.evs x))],3⟩) (fun x=>(x+1).toNat) (a.evs.length:Int) ⟨by omega,by omega⟩ (by rw [htop];exact (zqt id)) fun x hx=>?_
 obtain ⟨hx1,hx2⟩:=hx
 by_cases hx0:0≤x
 rotate_left
 ·have hxz:x=-1:=by omega
  subst hxz
  refine W.tr (Tr.freeze 2 rfl) ?_
  repeat (first|refine W.gob rfl ?_|refine WL.nil ?_|refine WL.bf rfl rfl rfl zqo ?_|refine WL.e1 rfl ?_|refine W.condF rfl ?_)
  refine (?_:W _ _ _ _ _)
  try dsimp only[St.put,Nat.reduceAdd]
  exact W.ret zqr
 obtain ⟨i,rfl⟩:∃ i:Nat,x=i:=⟨x.toNat,by omega⟩
 have hi:i≤a.evs.length:=by omega
 have hRl:=rws_len a.evs b.evs (i:Nat)
 have hRi:=rws_lo (b:=b.evs) (x:=(i:Nat)) hi (Int.le_refl _)
 have hRset:=rws_set (b:=b.evs) hi
 repeat (first|refine W.gob rfl ?_|refine WL.nil ?_|refine WL.bt rfl rfl rfl zqo ?_|refine WL.e1 rfl ?_|refine WL.ar rfl rfl z41i ?_|refine WL.len rfl rfl zql ?_|refine W.condT rfl ?_)
 refine (?_:WL _ _ _ _ _ _)
 try dsimp only[St.put,Nat.reduceAdd]
 refine WL.mks (x:=⟨3,.int .i64 0,(b.evs.length:Int)+1,(b.evs.length:Int)+1⟩) rfl rfl rfl (show ((b.evs.length:Int)+1).toNat=b.evs.length+1 by omega) ⟨by show 0≤(b.evs.length:Int)+1;omega,by show (b.evs.length:Int)+1≤1000000;omega⟩ ?_
 repeat refine WL.ixs rfl rfl zqs ?_
 refine (?_:WL _ _ _ _ _ _)
 try dsimp only[St.put,Nat.reduceAdd]
 refine WL.stO rfl rfl rfl rfl (by rw [Int.toNat_natCast];exact hRi) (by show 0 < 1;omega) ?_
 rw [Int.toNat_natCast]
 repeat (first|refine W.gob rfl ?_|refine WL.nil ?_|refine WL.e1 rfl ?_|refine WL.len rfl rfl zql ?_)
 refine (?_:W _ _ _ _ _)
 try dsimp only[St.put,Nat.reduceAdd]
 refine W.loop (fun y:Int=>-1≤y∧y≤b.evs.length) (fun y=>⟨[(2,.pt 0 0 0),(3,.pt 1 0 0),(5,.sl 2),(6,.sc (.int .i64 (i:Nat))),(7,.sc (.int .i64 y))],[(0,.box 28 (ePce a).cells),(1,.box 28 (ePce b).cells),(2,.rof 23 1 (rws a.evs b.evs (i:Nat)) i 0 (.sl 3)),(3,.row 3 1 ((rowK a.evs b.evs i (y+1).toNat).map eInt))],4⟩) (fun y=>(y+1).toNat) (b.evs.length:Int) ⟨by omega,by omega⟩ (by
  rw [show ((b.evs.length:Int)+1).toNat=b.evs.length+1 by omega,rowK_top,List.map_replicate]
  exact (zqt id)) fun y hy=>?_
 obtain ⟨hy1,hy2⟩:=hy
 by_cases hy0:0≤y
 rotate_left
 ·have hyz:y=-1:=by omega
  subst hyz
  rw [show ((-1:Int)+1).toNat=0 by rfl,rowK_zero]
  refine W.tr (Tr.freeze 3 rfl) ?_
  refine W.tr (Tr.shut 2 rfl hRi (by show 0 < 1;omega) rfl hRset) ?_
  repeat (first|refine W.gob rfl ?_|refine WL.nil ?_|refine WL.bf rfl rfl rfl zqo ?_|refine WL.e1 rfl ?_|refine WL.ar rfl rfl z41i ?_|refine W.condF rfl ?_)
  exact ⟨(i:Int) - 1,⟨by omega,by omega⟩,by omega,(zqt id)⟩
 obtain ⟨k,rfl⟩:∃ k:Nat,y=k:=⟨y.toNat,by omega⟩
 have hk:k≤b.evs.length:=by omega
 have ek:((k:Int)+1).toNat=k+1:=by omega
 have ek2:((k:Int) - 1+1).toNat=k:=by omega
 have ek1:((k:Int)+1).toNat=k+1:=by omega
 have ei1:((i:Int)+1).toNat=i+1:=by omega
 have hKl:=rowK_len (a:=a.evs) (i:=i) (k:=k+1) (b:=b.evs) zqo
 have hKl2:((rowK a.evs b.evs i (k+1)).map eInt).length=b.evs.length+1:=by rw [List.length_map,hKl]
 have hK0:=rowK_map0 (a:=a.evs) (b:=b.evs) (i:=i) (k:=k)
 have hset:=rowK_mset (a:=a.evs) (b:=b.evs) (i:=i) (k:=k) hk (v:=csA a.evs b.evs i k) rfl
 rw [ek]
 by_cases hia:i < a.evs.length
 ·have hR1:=rws_hi (a:=a.evs) (b:=b.evs) (x:=(i:Nat)) (q:=i+1) (by omega) (by omega)
  have hal:=ha2 _ (List.getElem_mem hia)
  have halE:alnE a.evs[i]=1+(a.evs[i].stops.length:Int):=rfl
  have hat2:=rowA_map (a:=a.evs) (i:=i+1) (k:=k) hk
  have hb2':=hbd (i+1) k
  have hn2:=hnn (i+1) k
  by_cases hkb:k < b.evs.length
  ·have hcs:=csA_b hia hkb
   have hbl:=hb2 _ (List.getElem_mem hkb)
   have hblE:alnE b.evs[k]=1+(b.evs[k].stops.length:Int):=rfl
   have hD:=rDist_FS a.evs[i] b.evs[k] hal hbl
   have hDb:=dstE_bd a.evs[i] b.evs[k]
   have hat1:=rowA_map (a:=a.evs) (i:=i+1) (k:=k+1) (b:=b.evs) zqo
   have hat3:=rowK_map (a:=a.evs) (i:=i) (k:=k+1) (j:=k+1) (b:=b.evs) zqo (Nat.le_refl _)
   have hb1':=hbd (i+1) (k+1)
   have hn1:=hnn (i+1) (k+1)
   have hb3':=hbd i (k+1)
   have hn3:=hnn i (k+1)
   rw [halE,hblE] at hcs
   obtain ⟨c1,hc1⟩:∃ z,csA a.evs b.evs (i+1) (k+1)=z:=⟨_,rfl⟩
   obtain ⟨c2,hc2⟩:∃ z,csA a.evs b.evs (i+1) k=z:=⟨_,rfl⟩
   obtain ⟨c3,hc3⟩:∃ z,csA a.evs b.evs i (k+1)=z:=⟨_,rfl⟩
   obtain ⟨dd,hdd⟩:∃ z,dstE a.evs[i] b.evs[k]=z:=⟨_,rfl⟩
   rw [hc1] at hcs hat1 hb1' hn1
   rw [hc2] at hcs hat2 hb2' hn2
   rw [hc3] at hcs hat3 hb3' hn3
   rw [hdd] at hcs hD hDb
   have hc:((1+(a.evs[i].stops.length:Int)+c2 < dd+c1)∧(1+(b.evs[k].stops.length:Int)+c3 < 1+(a.evs[i].stops.length:Int)+c2))∨((1+(a.evs[i].stops.length:Int)+c2 < dd+c1)∧¬ (1+(b.evs[k].stops.length:Int)+c3 < 1+(a.evs[i].stops.length:Int)+c2)) ∨
     (¬ (1+(a.evs[i].stops.length:Int)+c2 < dd+c1)∧(1+(b.evs[k].stops.length:Int)+c3 < dd+c1))∨(¬ (1+(a.evs[i].stops.length:Int)+c2 < dd+c1)∧¬ (1+(b.evs[k].stops.length:Int)+c3 < dd+c1)):=by clear hcs;omega
   have hcs':Unit→csA a.evs b.evs i k=min (min (dd+c1) (1+(a.evs[i].stops.length:Int)+c2)) (1+(b.evs[k].stops.length:Int)+c3):=fun _=>hcs
   clear hcs hDb
   have hdd0:0≤dd∧dd≤42:=by have:=dstE_bd a.evs[i] b.evs[k];omega
   rcases hc with ⟨g1,g2⟩|⟨g1,g2⟩|⟨g1,g2⟩|⟨g1,g2⟩
   all_goals
    repeat (first|refine W.gob rfl ?_|refine WL.nil ?_|refine WL.bt rfl rfl rfl zqo ?_|refine WL.e1 rfl ?_|refine WL.gyes rfl rfl rfl rfl ?_|refine WL.len rfl rfl zql ?_|refine W.condT rfl ?_)
    refine (?_:W _ _ _ _ _)
    try dsimp only[St.put,Nat.reduceAdd]
    refine W.drawK zqk zqk ?_
    repeat (first|refine DK.st rfl ?_|refine DK.idx rfl rfl zqo zqm ?_)
    refine DK.vl rfl (zqc Tryz.func65 hD) ?_
    repeat (first|refine DK.st rfl ?_|refine DK.ar rfl rfl z41i ?_|refine DK.ixs rfl rfl zqs ?_)
    try (refine DK.ixs rfl rfl ⟨by omega,by rw [hRl];omega⟩ ?_)
    rw [ei1]
    refine DK.ldN rfl rfl (Nat.succ_ne_self i) hR1 rfl ?_
    repeat (first|refine DK.st rfl ?_|refine DK.ar rfl rfl z41i ?_)
    refine DK.idx rfl rfl (by omega) (by rw [ek1];exact hat1) ?_
    repeat (first|refine DK.st rfl ?_|refine DK.ar rfl rfl z41i ?_|refine DK.nil ?_)
    repeat (first|refine W.gob rfl ?_|refine WL.nil ?_|refine WL.bt rfl rfl rfl zqo ?_|refine WL.e1 rfl ?_|refine WL.len rfl rfl zql ?_|refine W.condT rfl ?_)
    refine (?_:W _ _ _ _ _)
    try dsimp only[St.put,Nat.reduceAdd]
    refine W.drawK zqk zqk ?_
    repeat (first|refine DK.st rfl ?_|refine DK.ar rfl rfl z41i ?_|refine DK.len rfl rfl zql ?_|refine DK.idx rfl rfl zqo zqm ?_|refine DK.ixs rfl rfl zqs ?_)
    try (refine DK.ixs rfl rfl ⟨by omega,by rw [hRl];omega⟩ ?_)
    rw [ei1]
    refine DK.ldN rfl rfl (Nat.succ_ne_self i) hR1 rfl ?_
    repeat refine DK.st rfl ?_
    refine DK.idx rfl rfl (by omega) (by rw [Int.toNat_natCast];exact hat2) ?_
    repeat (first|refine DK.st rfl ?_|refine DK.ar rfl rfl z41i ?_|refine DK.nil ?_)
    repeat (first|refine W.gob rfl ?_|refine WL.nil ?_|refine WL.bt rfl rfl rfl zqo ?_|refine WL.bf rfl rfl rfl zqo ?_|refine WL.e1 rfl ?_|refine WL.gyes rfl rfl rfl rfl ?_|refine WL.len rfl rfl zql ?_|refine W.condT rfl ?_|refine W.condF rfl ?_)
    refine (?_:W _ _ _ _ _)
    try dsimp only[St.put,Nat.reduceAdd]
    refine W.drawK zqk zqk ?_
    repeat (first|refine DK.st rfl ?_|refine DK.ar rfl rfl z41i ?_|refine DK.len rfl rfl zql ?_|refine DK.idx rfl rfl zqo zqm ?_|refine DK.ixs rfl rfl zqs ?_)
    try (refine DK.ixs rfl rfl ⟨by omega,by rw [hRl];omega⟩ ?_)
    refine DK.ldO rfl rfl (Int.toNat_natCast i) rfl (by rw [Int.toNat_natCast];exact hRi) (by show 0 < 1;omega) ?_
    repeat (first|refine DK.st rfl ?_|refine DK.ar rfl rfl z41i ?_|refine DK.ixs rfl rfl zqs ?_)
    try (refine DK.ixs rfl rfl ⟨by omega,by rw [List.length_map,hKl];omega⟩ ?_)
    rw [ek1]
    refine DK.ldr rfl rfl hat3 rfl rfl ?_
    repeat (first|refine DK.st rfl ?_|refine DK.ar rfl rfl z41i ?_|refine DK.nil ?_)
    repeat (first|refine W.gob rfl ?_|refine WL.nil ?_|refine WL.bt rfl rfl rfl zqo ?_|refine WL.bf rfl rfl rfl zqo ?_|refine WL.e1 rfl ?_|refine WL.gyes rfl rfl rfl rfl ?_|refine WL.ixs rfl rfl zqs ?_|refine W.condT rfl ?_|refine W.condF rfl ?_)
    refine (?_:WL _ _ _ _ _ _)
    try dsimp only[St.put,Nat.reduceAdd]
    refine WL.ldO rfl rfl (Int.toNat_natCast i) rfl (by rw [Int.toNat_natCast];exact hRi) (by show 0 < 1;omega) ?_
    repeat refine WL.e1 rfl ?_
    refine (?_:WL _ _ _ _ _ _)
    try dsimp only[St.put,Nat.reduceAdd]
    refine WL.mm rfl rfl (show _=csA a.evs b.evs i k by have hcs:=hcs' ();first|(split<;>omega)|omega) ?_
    repeat refine WL.ixs rfl rfl zqs ?_
    refine (?_:WL _ _ _ _ _ _)
    try dsimp only[St.put,Nat.reduceAdd]
    refine WL.sto rfl rfl rfl rfl (by rw [Int.toNat_natCast];exact hK0) (by show 0+1≤1;omega) ?_
    rw [Int.toNat_natCast]
    repeat (first|refine W.gob rfl ?_|refine WL.nil ?_|refine WL.e1 rfl ?_|refine WL.ar rfl rfl z41i ?_)
    refine ⟨(k:Int) - 1,⟨by omega,by omega⟩,by omega,?_⟩
    rw [ek2]
    exact (zqu (fun q=>q) (by repeat (first|exact trivial|refine ⟨⟨?_,?_,?_⟩,?_⟩|rfl|exact congrArg (fun q=>some (AO.row _ _ q)) hset)) rfl)
  ·obtain rfl:k=b.evs.length:=by omega
   have hcs:=csA_l (b:=b.evs) hia
   rw [halE] at hcs
   obtain ⟨c2,hc2⟩:∃ z,csA a.evs b.evs (i+1) b.evs.length=z:=⟨_,rfl⟩
   rw [hc2] at hcs hat2 hb2' hn2
   repeat (first|refine W.gob rfl ?_|refine WL.nil ?_|refine WL.bt rfl rfl rfl zqo ?_|refine WL.bf rfl rfl rfl zqo ?_|refine WL.e1 rfl ?_|refine WL.gyes rfl rfl rfl rfl ?_|refine WL.len rfl rfl zql ?_|refine W.condT rfl ?_|refine W.condF rfl ?_)
   refine (?_:W _ _ _ _ _)
   try dsimp only[St.put,Nat.reduceAdd]
   refine W.drawK zqk zqk ?_
   repeat (first|refine DK.st rfl ?_|refine DK.ar rfl rfl z41i ?_|refine DK.len rfl rfl zql ?_|refine DK.idx rfl rfl zqo zqm ?_|refine DK.ixs rfl rfl zqs ?_)
   try (refine DK.ixs rfl rfl ⟨by omega,by rw [hRl];omega⟩ ?_)
   rw [ei1]
   refine DK.ldN rfl rfl (Nat.succ_ne_self i) hR1 rfl ?_
   repeat refine DK.st rfl ?_
   refine DK.idx rfl rfl (by omega) (by rw [Int.toNat_natCast];exact hat2) ?_
   repeat (first|refine DK.st rfl ?_|refine DK.ar rfl rfl z41i ?_|refine DK.nil ?_)
   repeat (first|refine W.gob rfl ?_|refine WL.nil ?_|refine WL.bt rfl rfl rfl zqo ?_|refine WL.bf rfl rfl rfl zqo ?_|refine WL.e1 rfl ?_|refine WL.opno rfl rfl rfl rfl rfl rfl rfl ?_|refine WL.len rfl rfl zql ?_|refine WL.ixs rfl rfl zqs ?_|refine W.condT rfl ?_|refine W.condF rfl ?_)
   refine (?_:WL _ _ _ _ _ _)
   try dsimp only[St.put,Nat.reduceAdd]
   refine WL.ldO rfl rfl (Int.toNat_natCast i) rfl (by rw [Int.toNat_natCast];exact hRi) (by show 0 < 1;omega) ?_
   repeat refine WL.e1 rfl ?_
   refine (?_:WL _ _ _ _ _ _)
   try dsimp only[St.put,Nat.reduceAdd]
   refine WL.mm rfl rfl (show _=csA a.evs b.evs i b.evs.length by first|(split<;>omega)|omega) ?_
   repeat refine WL.ixs rfl rfl zqs ?_
   refine (?_:WL _ _ _ _ _ _)
   try dsimp only[St.put,Nat.reduceAdd]
   refine WL.sto rfl rfl rfl rfl (by rw [Int.toNat_natCast];exact hK0) (by show 0+1≤1;omega) ?_
   rw [Int.toNat_natCast]
   repeat (first|refine W.gob rfl ?_|refine WL.nil ?_|refine WL.e1 rfl ?_|refine WL.ar rfl rfl z41i ?_)
   refine ⟨(b.evs.length:Int) - 1,⟨by omega,by omega⟩,by omega,?_⟩
   rw [ek2]
   exact (zqu (fun q=>q) (by repeat (first|exact trivial|refine ⟨⟨?_,?_,?_⟩,?_⟩|rfl|exact congrArg (fun q=>some (AO.row _ _ q)) hset)) rfl)
 ·obtain rfl:i=a.evs.length:=by omega
  by_cases hkb:k < b.evs.length
  ·have hcs:=csA_r (a:=a.evs) hkb
   have hbl:=hb2 _ (List.getElem_mem hkb)
   have hblE:alnE b.evs[k]=1+(b.evs[k].stops.length:Int):=rfl
   have hat3:=rowK_map (a:=a.evs) (i:=a.evs.length) (k:=k+1) (j:=k+1) (b:=b.evs) zqo (Nat.le_refl _)
   have hb3':=hbd a.evs.length (k+1)
   have hn3:=hnn a.evs.length (k+1)
   rw [hblE] at hcs
   obtain ⟨c3,hc3⟩:∃ z,csA a.evs b.evs a.evs.length (k+1)=z:=⟨_,rfl⟩
   rw [hc3] at hcs hat3 hb3' hn3
   repeat (first|refine W.gob rfl ?_|refine WL.nil ?_|refine WL.bt rfl rfl rfl zqo ?_|refine WL.bf rfl rfl rfl zqo ?_|refine WL.e1 rfl ?_|refine WL.opno rfl rfl rfl rfl rfl rfl rfl ?_|refine WL.len rfl rfl zql ?_|refine W.condT rfl ?_|refine W.condF rfl ?_)
   refine (?_:W _ _ _ _ _)
   try dsimp only[St.put,Nat.reduceAdd]
   refine W.drawK zqk zqk ?_
   repeat (first|refine DK.st rfl ?_|refine DK.ar rfl rfl z41i ?_|refine DK.len rfl rfl zql ?_|refine DK.idx rfl rfl zqo zqm ?_|refine DK.ixs rfl rfl zqs ?_)
   try (refine DK.ixs rfl rfl ⟨by omega,by rw [hRl];omega⟩ ?_)
   refine DK.ldO rfl rfl (Int.toNat_natCast a.evs.length) rfl (by rw [Int.toNat_natCast];exact hRi) (by show 0 < 1;omega) ?_
   repeat (first|refine DK.st rfl ?_|refine DK.ar rfl rfl z41i ?_|refine DK.ixs rfl rfl zqs ?_)
   try (refine DK.ixs rfl rfl ⟨by omega,by rw [List.length_map,hKl];omega⟩ ?_)
   rw [ek1]
   refine DK.ldr rfl rfl hat3 rfl rfl ?_
   repeat (first|refine DK.st rfl ?_|refine DK.ar rfl rfl z41i ?_|refine DK.nil ?_)
   repeat (first|refine W.gob rfl ?_|refine WL.nil ?_|refine WL.bt rfl rfl rfl zqo ?_|refine WL.e1 rfl ?_|refine WL.opno rfl rfl rfl rfl rfl rfl rfl ?_|refine WL.ixs rfl rfl zqs ?_|refine W.condT rfl ?_)
   refine (?_:WL _ _ _ _ _ _)
   try dsimp only[St.put,Nat.reduceAdd]
   refine WL.ldO rfl rfl (Int.toNat_natCast a.evs.length) rfl (by rw [Int.toNat_natCast];exact hRi) (by show 0 < 1;omega) ?_
   repeat refine WL.e1 rfl ?_
   refine (?_:WL _ _ _ _ _ _)
   try dsimp only[St.put,Nat.reduceAdd]
   refine WL.mm rfl rfl (show _=csA a.evs b.evs a.evs.length k by first|(split<;>omega)|omega) ?_
   repeat refine WL.ixs rfl rfl zqs ?_
   refine (?_:WL _ _ _ _ _ _)
   try dsimp only[St.put,Nat.reduceAdd]
   refine WL.sto rfl rfl rfl rfl (by rw [Int.toNat_natCast];exact hK0) (by show 0+1≤1;omega) ?_
   rw [Int.toNat_natCast]
   repeat (first|refine W.gob rfl ?_|refine WL.nil ?_|refine WL.e1 rfl ?_|refine WL.ar rfl rfl z41i ?_)
   refine ⟨(k:Int) - 1,⟨by omega,by omega⟩,by omega,?_⟩
   rw [ek2]
   exact (zqu (fun q=>q) (by repeat (first|exact trivial|refine ⟨⟨?_,?_,?_⟩,?_⟩|rfl|exact congrArg (fun q=>some (AO.row _ _ q)) hset)) rfl)
  ·obtain rfl:k=b.evs.length:=by omega
   have hcs:=csA_end (a:=a.evs) (b:=b.evs)
   repeat (first|refine W.gob rfl ?_|refine WL.nil ?_|refine WL.bt rfl rfl rfl zqo ?_|refine WL.bf rfl rfl rfl zqo ?_|refine WL.e1 rfl ?_|refine WL.opno rfl rfl rfl rfl rfl rfl rfl ?_|refine WL.len rfl rfl zql ?_|refine WL.ixs rfl rfl zqs ?_|refine W.condT rfl ?_|refine W.condF rfl ?_)
   refine (?_:WL _ _ _ _ _ _)
   try dsimp only[St.put,Nat.reduceAdd]
   refine WL.ldO rfl rfl (Int.toNat_natCast a.evs.length) rfl (by rw [Int.toNat_natCast];exact hRi) (by show 0 < 1;omega) ?_
   repeat refine WL.e1 rfl ?_
   refine (?_:WL _ _ _ _ _ _)
   try dsimp only[St.put,Nat.reduceAdd]
   refine WL.mm rfl rfl (show _=csA a.evs b.evs a.evs.length b.evs.length by first|(split<;>omega)|omega) ?_
   repeat refine WL.ixs rfl rfl zqs ?_
   refine (?_:WL _ _ _ _ _ _)
   try dsimp only[St.put,Nat.reduceAdd]
   refine WL.sto rfl rfl rfl rfl (by rw [Int.toNat_natCast];exact hK0) (by show 0+1≤1;omega) ?_
   rw [Int.toNat_natCast]
   repeat (first|refine W.gob rfl ?_|refine WL.nil ?_|refine WL.e1 rfl ?_|refine WL.ar rfl rfl z41i ?_)
   refine ⟨(b.evs.length:Int) - 1,⟨by omega,by omega⟩,by omega,?_⟩
   rw [ek2]
   exact (zqu (fun q=>q) (by repeat (first|exact trivial|refine ⟨⟨?_,?_,?_⟩,?_⟩|rfl|exact congrArg (fun q=>some (AO.row _ _ q)) hset)) rfl)
end Go.Proofs.YtgelfflighgajaaGreatDoor
