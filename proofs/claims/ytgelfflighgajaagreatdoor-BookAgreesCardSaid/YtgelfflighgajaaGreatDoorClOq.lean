/- Collate: what it answers; two witnesses written plainly; the program. -/
import Derived.Test.YtgelfflighgajaaGreatDoorAlQOq
set_option maxHeartbeats 8000000
set_option maxRecDepth 100000
set_option linter.unusedVariables false
set_option linter.unusedSimpArgs false
namespace Go.Proofs.YtgelfflighgajaaGreatDoor
section
open Go.RowKit
theorem z3i {z:Int} (h:I64 z:=by unfold I64;omega):I64 z:=h
theorem pAlign_FS (a b:List Ev) (ha:a.length≤60) (hb:b.length≤60) (ha2:∀ e∈a,e.stops.length≤20) (hb2:∀ e∈b,e.stops.length≤20) :
  Ctr Tryz.prog 63 [.ls 6 (a.map eEv),.ls 6 (b.map eEv)] (.tu [.ls 2 ((prsA a b).map ePr),.sc (.int .i64 (csA a b 0 0))]):=by
 have hbd:=csA_bd ha2 hb2
 have hnn:=csA_nn a b
 have htop:=rws_top a b
 refine zqe Tryz.func63 Tryz.ntmps63 fun w0 F0=>?_;dsimp only [St.init,number,Nat.reduceAdd]
 repeat (first|refine W.gob rfl ?_|refine WL.nil ?_|refine WL.e1 rfl ?_|refine WL.ar rfl rfl z3i ?_|refine WL.len rfl rfl zql ?_)
 refine (?_:WL _ _ _ _ _ _)
 dsimp only [St.put,Nat.reduceAdd]
 refine WL.mks (x:=⟨23,.slice none 0 0,(a.length:Int)+1,(a.length:Int)+1⟩) rfl rfl rfl (show ((a.length:Int)+1).toNat=a.length+1 by omega) ⟨by show 0≤(a.length:Int)+1;omega,by show (a.length:Int)+1≤1000000;omega⟩ ?_
 repeat (first|refine W.gob rfl ?_|refine WL.nil ?_|refine WL.e1 rfl ?_|refine WL.len rfl rfl zql ?_)
 refine (?_:W _ _ _ _ _)
 dsimp only [St.put,Nat.reduceAdd]
 refine W.loop (fun x:Int=>-1≤x∧x≤a.length) (fun x=>⟨[(0,.ls 6 (a.map eEv)),(1,.ls 6 (b.map eEv)),(6,.sc (.func (.func 132) #[] #[])),(7,.sl 0),(8,.sc (.int .i64 x))],[(0,.row 23 1 (rws a b x))],1⟩) (fun x=>(x+1).toNat) (a.length:Int) ⟨by omega,by omega⟩ (by rw [htop];exact (zqt id)) fun x hx=>?_
 obtain ⟨hx1,hx2⟩:=hx
 by_cases hx0:0≤x
 ·obtain ⟨i,rfl⟩:∃ i:Nat,x=i:=⟨x.toNat,by omega⟩
  have hi:i≤a.length:=by omega
  have hRl:=rws_len a b (i:Nat)
  have hRi:=rws_lo (b:=b) (x:=(i:Nat)) hi (Int.le_refl _)
  have hRset:=rws_set (b:=b) hi
  repeat (first|refine W.gob rfl ?_|refine WL.nil ?_|refine WL.bt rfl rfl rfl zqo ?_|refine WL.e1 rfl ?_|refine WL.ar rfl rfl z3i ?_|refine WL.len rfl rfl zql ?_|refine W.condT rfl ?_)
  refine (?_:WL _ _ _ _ _ _)
  dsimp only [St.put,Nat.reduceAdd]
  refine WL.mks (x:=⟨3,.int .i64 0,(b.length:Int)+1,(b.length:Int)+1⟩) rfl rfl rfl (show ((b.length:Int)+1).toNat=b.length+1 by omega) ⟨by show 0≤(b.length:Int)+1;omega,by show (b.length:Int)+1≤1000000;omega⟩ ?_
  repeat refine WL.ixs rfl rfl zqs ?_
  refine (?_:WL _ _ _ _ _ _)
  dsimp only [St.put,Nat.reduceAdd]
  refine WL.stO rfl rfl rfl rfl (by rw [Int.toNat_natCast];exact hRi) (by show 0 < 1;omega) ?_
  rw [Int.toNat_natCast]
  repeat (first|refine W.gob rfl ?_|refine WL.nil ?_|refine WL.e1 rfl ?_|refine WL.len rfl rfl zql ?_)
  refine (?_:W _ _ _ _ _)
  dsimp only [St.put,Nat.reduceAdd]
  refine W.loop (fun y:Int=>-1≤y∧y≤b.length) (fun y=>⟨[(0,.ls 6 (a.map eEv)),(1,.ls 6 (b.map eEv)),(6,.sc (.func (.func 132) #[] #[])),(7,.sl 0),(8,.sc (.int .i64 (i:Nat))),(9,.sc (.int .i64 y))],[(0,.rof 23 1 (rws a b (i:Nat)) i 0 (.sl 1)),(1,.row 3 1 ((rowK a b i (y+1).toNat).map eInt))],2⟩) (fun y=>(y+1).toNat) (b.length:Int) ⟨by omega,by omega⟩ (by
   rw [show ((b.length:Int)+1).toNat=b.length+1 by omega,rowK_top,List.map_replicate]
   exact (zqt id)) fun y hy=>?_
  obtain ⟨hy1,hy2⟩:=hy
  by_cases hy0:0≤y
  ·obtain ⟨k,rfl⟩:∃ k:Nat,y=k:=⟨y.toNat,by omega⟩
   have hk:k≤b.length:=by omega
   have ek:((k:Int)+1).toNat=k+1:=by omega
   have ek2:((k:Int) - 1+1).toNat=k:=by omega
   have hKl:=rowK_len (a:=a) (i:=i) (k:=k+1) (b:=b) zqo
   have hK0:=rowK_map0 (a:=a) (b:=b) (i:=i) (k:=k)
   have hset:=fun v=>rowK_mset (a:=a) (b:=b) (i:=i) (k:=k) hk (v:=v)
   rw [ek]
   by_cases hia:i < a.length
   ·have hR1:=rws_hi (a:=a) (b:=b) (x:=(i:Nat)) (q:=i+1) (by omega) (by omega)
    have ei1:((i:Int)+1).toNat=i+1:=by omega
    have hA:=alone_FS a[i] (ha2 _ (List.getElem_mem hia))
    have hal:=ha2 _ (List.getElem_mem hia)
    have halE:alnE a[i]=1+(a[i].stops.length:Int):=rfl
    have hat2:=rowA_map (a:=a) (i:=i+1) (k:=k) hk
    have hb2':=hbd (i+1) k
    have hn2:=hnn (i+1) k
    by_cases hkb:k < b.length
    ·have hcs:=csA_b hia hkb
     have hB:=alone_FS b[k] (hb2 _ (List.getElem_mem hkb))
     have hbl:=hb2 _ (List.getElem_mem hkb)
     have hblE:alnE b[k]=1+(b[k].stops.length:Int):=rfl
     have hD:=pDist_FS a[i] b[k] hal hbl
     have hDb:=dstE_bd a[i] b[k]
     have hat1:=rowA_map (a:=a) (i:=i+1) (k:=k+1) (b:=b) zqo
     have hat3:=rowK_map (a:=a) (i:=i) (k:=k+1) (j:=k+1) (b:=b) zqo (Nat.le_refl _)
     have hb1':=hbd (i+1) (k+1)
     have hn1:=hnn (i+1) (k+1)
     have hb3':=hbd i (k+1)
     have hn3:=hnn i (k+1)
     have ek1:((k:Int)+1).toNat=k+1:=by omega
     obtain ⟨c1,hc1⟩:∃ z,csA a b (i+1) (k+1)=z:=⟨_,rfl⟩
     obtain ⟨c2,hc2⟩:∃ z,csA a b (i+1) k=z:=⟨_,rfl⟩
     obtain ⟨c3,hc3⟩:∃ z,csA a b i (k+1)=z:=⟨_,rfl⟩
     obtain ⟨dd,hdd⟩:∃ z,dstE a[i] b[k]=z:=⟨_,rfl⟩
     obtain ⟨la,hla⟩:∃ z,alnE a[i]=z:=⟨_,rfl⟩
     obtain ⟨lb,hlb⟩:∃ z,alnE b[k]=z:=⟨_,rfl⟩
     rw [hc1] at hcs hat1 hb1' hn1
     rw [hc2] at hcs hat2 hb2' hn2
     rw [hc3] at hcs hat3 hb3' hn3
     rw [hdd] at hcs hD hDb
     rw [hla] at hcs hA halE
     rw [hlb] at hcs hB hblE
     have hMin:=min_FS (dd+c1) [la+c2,lb+c3] (by simp)
     have hset:=hset _ (show ([la+c2,lb+c3].foldl min (dd+c1):Int)=csA a b i k by rw [hcs];rfl)
     clear hcs
     repeat (first|refine W.gob rfl ?_|refine WL.nil ?_|refine WL.bt rfl rfl rfl zqo ?_|refine WL.e1 rfl ?_|refine WL.gyes rfl rfl rfl rfl ?_|refine WL.len rfl rfl zql ?_|refine W.condT rfl ?_)
     refine (?_:W _ _ _ _ _)
     dsimp only [St.put,Nat.reduceAdd]
     first|refine W.tr (Tr.nil (t:=10) 3 1 rfl rfl) ?_|refine WL.tr (Tr.nil (t:=10) 3 1 rfl rfl) ?_
     dsimp only [St.put,St.new,St.upd,Nat.reduceAdd]
     refine (?_:W _ _ _ _ _)
     refine W.dmT 22 [0] zqk zqk zqk zqk zqk (by repeat constructor) ?_
     repeat (first|refine DMK.st rfl rfl ?_|refine DMK.idx rfl rfl zqo zqm ?_)
     refine DMK.vl rfl (zqc Tryz.func133 hD) ?_
     repeat (first|refine DMK.st rfl rfl ?_|refine DMK.ar rfl rfl z3i ?_)
     refine DMK.ixs rfl rfl ⟨by omega,by rw [hRl];omega⟩ ?_
     rw [ei1]
     refine DMK.vl rfl (ldoV_N rfl (Nat.succ_ne_self i) hR1 rfl) ?_
     repeat (first|refine DMK.st rfl rfl ?_|refine DMK.ar rfl rfl z3i ?_)
     refine DMK.idx rfl rfl (by omega) (by rw [ek1];exact hat1) ?_
     repeat (first|refine DMK.st rfl rfl ?_|refine DMK.ar rfl rfl z3i ?_|refine DMK.bd rfl rfl rfl (by repeat constructor) ?_|refine DMK.ap rfl rfl zqs (by repeat constructor) ?_|refine DMK.nil ?_)
     refine ⟨rfl,?_⟩
     repeat (first|refine W.gob rfl ?_|refine WL.nil ?_|refine WL.bt rfl rfl rfl zqo ?_|refine WL.e1 rfl ?_|refine WL.len rfl rfl zql ?_|refine W.condT rfl ?_)
     refine (?_:W _ _ _ _ _)
     dsimp only [St.put,Nat.reduceAdd]
     refine W.dmT 18 [0] zqk zqk zqk zqk zqk (by repeat constructor) ?_
     repeat (first|refine DMK.st rfl rfl ?_|refine DMK.idx rfl rfl zqo zqm ?_)
     refine DMK.vl rfl (WV.callV (truH _) rfl (callF Tryz.func132 rfl rfl) rfl rfl rfl rfl rfl hA.g) ?_
     repeat (first|refine DMK.st rfl rfl ?_|refine DMK.ar rfl rfl z3i ?_)
     refine DMK.ixs rfl rfl ⟨by omega,by rw [hRl];omega⟩ ?_
     rw [ei1]
     refine DMK.vl rfl (ldoV_N rfl (Nat.succ_ne_self i) hR1 rfl) ?_
     repeat refine DMK.st rfl rfl ?_
     refine DMK.idx rfl rfl (by omega) (by rw [Int.toNat_natCast];exact hat2) ?_
     repeat (first|refine DMK.st rfl rfl ?_|refine DMK.ar rfl rfl z3i ?_|refine DMK.bd rfl rfl rfl (by repeat constructor) ?_|refine DMK.ap rfl rfl zqs (by repeat constructor) ?_|refine DMK.nil ?_)
     refine ⟨rfl,?_⟩
     repeat (first|refine W.gob rfl ?_|refine WL.nil ?_|refine WL.bt rfl rfl rfl zqo ?_|refine WL.e1 rfl ?_|refine WL.len rfl rfl zql ?_|refine W.condT rfl ?_)
     refine (?_:W _ _ _ _ _)
     dsimp only [St.put,Nat.reduceAdd]
     refine W.dmT 18 [0,1] zqk zqk zqk zqk zqk (by repeat constructor) ?_
     repeat (first|refine DMK.st rfl rfl ?_|refine DMK.idx rfl rfl zqo zqm ?_)
     refine DMK.vl rfl (WV.callV (truH _) rfl (callF Tryz.func132 rfl rfl) rfl rfl rfl rfl rfl hB.g) ?_
     repeat refine DMK.st rfl rfl ?_
     refine DMK.ixs rfl rfl ⟨by omega,by rw [hRl];omega⟩ ?_
     refine DMK.vl rfl (ldoV_O rfl (Int.toNat_natCast i) rfl (by rw [Int.toNat_natCast];exact hRi) (by show 0 < 1;omega)) ?_
     repeat (first|refine DMK.st rfl rfl ?_|refine DMK.ar rfl rfl z3i ?_)
     refine DMK.ixs rfl rfl ⟨by omega,by rw [List.length_map,hKl];omega⟩ ?_
     rw [ek1]
     refine DMK.ldr rfl rfl hat3 rfl rfl ?_
     repeat (first|refine DMK.ar rfl rfl z3i ?_|refine DMK.bd rfl rfl rfl (by repeat constructor) ?_|refine DMK.ap rfl rfl zqs (by repeat constructor) ?_|refine DMK.nil ?_)
     refine ⟨rfl,?_⟩
     repeat (first|refine W.gob rfl ?_|refine WL.nil ?_|refine WL.e1 rfl ?_|refine WL.len rfl rfl zql ?_|refine W.condT rfl ?_)
     refine (?_:W _ _ _ _ _)
     dsimp only [St.put,Nat.reduceAdd]
     refine W.dkT 8 zqk zqk zqk zqk ?_
     repeat (first|refine DK.st rfl ?_|refine DK.ixs rfl rfl zqs ?_)
     try (refine DK.ixs rfl rfl ⟨by omega,by rw [hRl];omega⟩ ?_)
     refine DK.ldO rfl rfl (Int.toNat_natCast i) rfl (by rw [Int.toNat_natCast];exact hRi) (by show 0 < 1;omega) ?_
     repeat refine DK.st rfl ?_
     refine DK.vl rfl (WV.lend (truH _) rfl (callF Tryz.func134 rfl rfl) rfl rfl rfl truST hMin.g) ?_
     repeat (first|refine DK.ixs rfl rfl zqs ?_|refine DK.nil ?_)
     try (refine DK.ixs rfl rfl ⟨by omega,by rw [List.length_map,hKl];omega⟩ ?_)
     refine ⟨rfl,?_⟩
     rw [Int.toNat_natCast]
     refine WL.sto rfl rfl rfl rfl hK0 (by show 0+1≤1;omega) ?_
     repeat (first|refine W.gob rfl ?_|refine WL.nil ?_|refine WL.e1 rfl ?_|refine WL.ar rfl rfl z3i ?_)
     dsimp only [St.put,Nat.reduceAdd]
     refine ⟨(k:Int) - 1,⟨by omega,by omega⟩,by omega,?_⟩
     rw [ek2]
     exact (zqu (fun q=>q) (by repeat (first|exact trivial|refine ⟨⟨?_,?_,?_⟩,?_⟩|rfl|exact congrArg (fun q=>some (AO.row _ _ q)) hset)) rfl)
    ·obtain rfl:k=b.length:=by omega
     have hcs:=csA_l (b:=b) hia
     obtain ⟨c2,hc2⟩:∃ z,csA a b (i+1) b.length=z:=⟨_,rfl⟩
     obtain ⟨la,hla⟩:∃ z,alnE a[i]=z:=⟨_,rfl⟩
     rw [hc2] at hcs hat2 hb2' hn2
     rw [hla] at hcs hA halE
     have hMin:=min_FS (la+c2) [] (by simp)
     have hset:=hset _ (show (([]:List Int).foldl min (la+c2):Int)=csA a b i b.length by rw [hcs];rfl)
     clear hcs
     repeat (first|refine W.gob rfl ?_|refine WL.nil ?_|refine WL.bt rfl rfl rfl zqo ?_|refine WL.bf rfl rfl rfl zqo ?_|refine WL.e1 rfl ?_|refine WL.gyes rfl rfl rfl rfl ?_|refine WL.len rfl rfl zql ?_|refine W.condT rfl ?_|refine W.condF rfl ?_)
     refine (?_:W _ _ _ _ _)
     dsimp only [St.put,Nat.reduceAdd]
     first|refine W.tr (Tr.nil (t:=10) 3 1 rfl rfl) ?_|refine WL.tr (Tr.nil (t:=10) 3 1 rfl rfl) ?_
     dsimp only [St.put,St.new,St.upd,Nat.reduceAdd]
     refine (?_:W _ _ _ _ _)
     refine W.dmT 18 [0] zqk zqk zqk zqk zqk (by repeat constructor) ?_
     repeat (first|refine DMK.st rfl rfl ?_|refine DMK.idx rfl rfl zqo zqm ?_)
     refine DMK.vl rfl (WV.callV (truH _) rfl (callF Tryz.func132 rfl rfl) rfl rfl rfl rfl rfl hA.g) ?_
     repeat (first|refine DMK.st rfl rfl ?_|refine DMK.ar rfl rfl z3i ?_)
     refine DMK.ixs rfl rfl ⟨by omega,by rw [hRl];omega⟩ ?_
     rw [ei1]
     refine DMK.vl rfl (ldoV_N rfl (Nat.succ_ne_self i) hR1 rfl) ?_
     repeat refine DMK.st rfl rfl ?_
     refine DMK.idx rfl rfl (by omega) (by rw [Int.toNat_natCast];exact hat2) ?_
     repeat (first|refine DMK.st rfl rfl ?_|refine DMK.ar rfl rfl z3i ?_|refine DMK.bd rfl rfl rfl (by repeat constructor) ?_|refine DMK.ap rfl rfl zqs (by repeat constructor) ?_|refine DMK.nil ?_)
     refine ⟨rfl,?_⟩
     repeat (first|refine W.gob rfl ?_|refine WL.nil ?_|refine WL.bf rfl rfl rfl zqo ?_|refine WL.e1 rfl ?_|refine WL.len rfl rfl zql ?_|refine W.condT rfl ?_|refine W.condF rfl ?_)
     refine (?_:W _ _ _ _ _)
     dsimp only [St.put,Nat.reduceAdd]
     refine W.dkT 8 zqk zqk zqk zqk ?_
     repeat (first|refine DK.st rfl ?_|refine DK.ixs rfl rfl zqs ?_)
     try (refine DK.ixs rfl rfl ⟨by omega,by rw [hRl];omega⟩ ?_)
     refine DK.ldO rfl rfl (Int.toNat_natCast i) rfl (by rw [Int.toNat_natCast];exact hRi) (by show 0 < 1;omega) ?_
     repeat refine DK.st rfl ?_
     refine DK.vl rfl (WV.lend (truH _) rfl (callF Tryz.func134 rfl rfl) rfl rfl rfl truST hMin.g) ?_
     repeat (first|refine DK.ixs rfl rfl zqs ?_|refine DK.nil ?_)
     try (refine DK.ixs rfl rfl ⟨by omega,by rw [List.length_map,hKl];omega⟩ ?_)
     refine ⟨rfl,?_⟩
     rw [Int.toNat_natCast]
     refine WL.sto rfl rfl rfl rfl hK0 (by show 0+1≤1;omega) ?_
     repeat (first|refine W.gob rfl ?_|refine WL.nil ?_|refine WL.e1 rfl ?_|refine WL.ar rfl rfl z3i ?_)
     dsimp only [St.put,Nat.reduceAdd]
     refine ⟨(b.length:Int) - 1,⟨by omega,by omega⟩,by omega,?_⟩
     rw [ek2]
     exact (zqu (fun q=>q) (by repeat (first|exact trivial|refine ⟨⟨?_,?_,?_⟩,?_⟩|rfl|exact congrArg (fun q=>some (AO.row _ _ q)) hset)) rfl)
   ·obtain rfl:i=a.length:=by omega
    by_cases hkb:k < b.length
    ·have hcs:=csA_r (a:=a) hkb
     have hB:=alone_FS b[k] (hb2 _ (List.getElem_mem hkb))
     have hbl:=hb2 _ (List.getElem_mem hkb)
     have hblE:alnE b[k]=1+(b[k].stops.length:Int):=rfl
     have hat3:=rowK_map (a:=a) (i:=a.length) (k:=k+1) (j:=k+1) (b:=b) zqo (Nat.le_refl _)
     have hb3':=hbd a.length (k+1)
     have hn3:=hnn a.length (k+1)
     have ek1:((k:Int)+1).toNat=k+1:=by omega
     obtain ⟨c3,hc3⟩:∃ z,csA a b a.length (k+1)=z:=⟨_,rfl⟩
     obtain ⟨lb,hlb⟩:∃ z,alnE b[k]=z:=⟨_,rfl⟩
     rw [hc3] at hcs hat3 hb3' hn3
     rw [hlb] at hcs hB hblE
     have hMin:=min_FS (lb+c3) [] (by simp)
     have hset:=hset _ (show (([]:List Int).foldl min (lb+c3):Int)=csA a b a.length k by rw [hcs];rfl)
     clear hcs
     repeat (first|refine W.gob rfl ?_|refine WL.nil ?_|refine WL.bt rfl rfl rfl zqo ?_|refine WL.bf rfl rfl rfl zqo ?_|refine WL.e1 rfl ?_|refine WL.opno rfl rfl rfl rfl rfl rfl rfl ?_|refine WL.len rfl rfl zql ?_|refine W.condT rfl ?_|refine W.condF rfl ?_)
     refine (?_:W _ _ _ _ _)
     dsimp only [St.put,Nat.reduceAdd]
     first|refine W.tr (Tr.nil (t:=10) 3 1 rfl rfl) ?_|refine WL.tr (Tr.nil (t:=10) 3 1 rfl rfl) ?_
     dsimp only [St.put,St.new,St.upd,Nat.reduceAdd]
     refine (?_:W _ _ _ _ _)
     refine W.dmT 18 [0,1] zqk zqk zqk zqk zqk (by repeat constructor) ?_
     repeat (first|refine DMK.st rfl rfl ?_|refine DMK.idx rfl rfl zqo zqm ?_)
     refine DMK.vl rfl (WV.callV (truH _) rfl (callF Tryz.func132 rfl rfl) rfl rfl rfl rfl rfl hB.g) ?_
     repeat refine DMK.st rfl rfl ?_
     refine DMK.ixs rfl rfl ⟨by omega,by rw [hRl];omega⟩ ?_
     refine DMK.vl rfl (ldoV_O rfl (Int.toNat_natCast a.length) rfl (by rw [Int.toNat_natCast];exact hRi) (by show 0 < 1;omega)) ?_
     repeat (first|refine DMK.st rfl rfl ?_|refine DMK.ar rfl rfl z3i ?_)
     refine DMK.ixs rfl rfl ⟨by omega,by rw [List.length_map,hKl];omega⟩ ?_
     rw [ek1]
     refine DMK.ldr rfl rfl hat3 rfl rfl ?_
     repeat (first|refine DMK.ar rfl rfl z3i ?_|refine DMK.bd rfl rfl rfl (by repeat constructor) ?_|refine DMK.ap rfl rfl zqs (by repeat constructor) ?_|refine DMK.nil ?_)
     refine ⟨rfl,?_⟩
     repeat (first|refine W.gob rfl ?_|refine WL.nil ?_|refine WL.e1 rfl ?_|refine WL.len rfl rfl zql ?_|refine W.condT rfl ?_)
     refine (?_:W _ _ _ _ _)
     dsimp only [St.put,Nat.reduceAdd]
     refine W.dkT 8 zqk zqk zqk zqk ?_
     repeat (first|refine DK.st rfl ?_|refine DK.ixs rfl rfl zqs ?_)
     try (refine DK.ixs rfl rfl ⟨by omega,by rw [hRl];omega⟩ ?_)
     refine DK.ldO rfl rfl (Int.toNat_natCast a.length) rfl (by rw [Int.toNat_natCast];exact hRi) (by show 0 < 1;omega) ?_
     repeat refine DK.st rfl ?_
     refine DK.vl rfl (WV.lend (truH _) rfl (callF Tryz.func134 rfl rfl) rfl rfl rfl truST hMin.g) ?_
     repeat (first|refine DK.ixs rfl rfl zqs ?_|refine DK.nil ?_)
     try (refine DK.ixs rfl rfl ⟨by omega,by rw [List.length_map,hKl];omega⟩ ?_)
     refine ⟨rfl,?_⟩
     rw [Int.toNat_natCast]
     refine WL.sto rfl rfl rfl rfl hK0 (by show 0+1≤1;omega) ?_
     repeat (first|refine W.gob rfl ?_|refine WL.nil ?_|refine WL.e1 rfl ?_|refine WL.ar rfl rfl z3i ?_)
     dsimp only [St.put,Nat.reduceAdd]
     refine ⟨(k:Int) - 1,⟨by omega,by omega⟩,by omega,?_⟩
     rw [ek2]
     exact (zqu (fun q=>q) (by repeat (first|exact trivial|refine ⟨⟨?_,?_,?_⟩,?_⟩|rfl|exact congrArg (fun q=>some (AO.row _ _ q)) hset)) rfl)
    ·obtain rfl:k=b.length:=by omega
     have hset:=rowK_last (a:=a) (b:=b)
     repeat (first|refine W.gob rfl ?_|refine WL.nil ?_|refine WL.bt rfl rfl rfl zqo ?_|refine WL.bf rfl rfl rfl zqo ?_|refine WL.e1 rfl ?_|refine WL.opno rfl rfl rfl rfl rfl rfl rfl ?_|refine WL.ar rfl rfl z3i ?_|refine WL.len rfl rfl zql ?_|refine W.condT rfl ?_|refine W.condF rfl ?_)
     dsimp only [St.put,Nat.reduceAdd]
     refine ⟨(b.length:Int) - 1,⟨by omega,by omega⟩,by omega,?_⟩
     rw [ek2]
     exact (zqu (fun q=>q) (by repeat (first|exact trivial|refine ⟨⟨?_,?_,?_⟩,?_⟩|rfl|exact congrArg (fun q=>some (AO.row _ _ q)) hset)) rfl)
  ·have hyz:y=-1:=by omega
   subst hyz
   rw [show ((-1:Int)+1).toNat=0 by rfl,rowK_zero]
   refine W.tr (Tr.freeze 1 rfl) ?_
   refine W.tr (Tr.shut 0 rfl hRi (by show 0 < 1;omega) rfl hRset) ?_
   repeat (first|refine W.gob rfl ?_|refine WL.nil ?_|refine WL.bf rfl rfl rfl zqo ?_|refine WL.e1 rfl ?_|refine WL.ar rfl rfl z3i ?_|refine W.condF rfl ?_)
   dsimp only [St.put,Nat.reduceAdd]
   exact ⟨(i:Int) - 1,⟨by omega,by omega⟩,by omega,(zqt id)⟩
 have hxz:x=-1:=by omega
 subst hxz
 have hRh:∀ q (h:q≤a.length),(rws a b (-1))[q]?=some (rowC a b q):=fun q h=>rws_hi h (by omega)
 have hRl:=rws_len a b (-1)
 obtain ⟨RW,hRW⟩:∃ z,rws a b (-1)=z:=⟨_,rfl⟩
 rw [hRW] at hRh hRl ⊢
 refine W.tr (Tr.freeze 0 rfl) ?_
 repeat (first|refine W.gob rfl ?_|refine WL.nil ?_|refine WL.bf rfl rfl rfl zqo ?_|refine WL.e1 rfl ?_|refine W.condF rfl ?_)
 refine (?_:W _ _ _ _ _)
 dsimp only [St.put,Nat.reduceAdd]
 first|refine W.tr (Tr.nil (t:=11) 123 2 rfl rfl) ?_|refine WL.tr (Tr.nil (t:=11) 123 2 rfl rfl) ?_
 dsimp only [St.put,St.new,St.upd,Nat.reduceAdd]
 refine (?_:W _ _ _ _ _)
 have hI:∀ i,i≤a.length→(RW)[((i:Nat):Int).toNat]?=some (rowC a b i):=fun i h=>by rw [Int.toNat_natCast];exact hRh i h
 have hI1:∀ i,i+1≤a.length→(RW)[((i:Int)+1).toNat]?=some (rowC a b (i+1)):=fun i h=>by rw [show ((i:Int)+1).toNat=i+1 by omega];exact hRh _ h
 have hJ:∀ i k,k≤b.length→((rowA a b i).map eInt)[((k:Nat):Int).toNat]?=some (eInt (csA a b i k)):=fun i k h=>by rw [Int.toNat_natCast];exact rowA_map h
 have hJ1:∀ i k,k+1≤b.length→((rowA a b i).map eInt)[((k:Int)+1).toNat]?=some (eInt (csA a b i (k+1))):=fun i k h=>by rw [show ((k:Int)+1).toNat=k+1 by omega];exact rowA_map h
 refine W.loop (fun s:Nat×Nat×List (Int×Int)=>s.1≤a.length∧s.2.1≤b.length∧s.2.2.length=s.2.2.length∧s.2.2.length≤s.1+s.2.1∧s.2.2++prs a b (a.length - s.1+(b.length - s.2.1)) s.1 s.2.1=prsA a b)
  (fun s=>⟨[(0,.ls 6 (a.map eEv)),(1,.ls 6 (b.map eEv)),(6,.sc (.func (.func 132) #[] #[])),(7,.ls 1 RW),(11,.sl 0),(12,.sc (.int .i64 s.1)),(13,.sc (.int .i64 s.2.1))],[(0,.row 123 2 (s.2.2.map ePr))],1⟩) (fun s=>(a.length - s.1)+(b.length - s.2.1)) (0,0,[]) ⟨by simp,by simp,rfl,by simp,rfl⟩ (zqu (fun q=>bif Nat.beq q 0 then 1 else q) (by repeat (first|exact trivial|refine ⟨⟨?_,?_,?_⟩,?_⟩|rfl|exact congrArg (fun q=>some (AO.row _ _ q)) (by first|rfl|(simp;done)|(simp [eInt];done)|(simp [eLk];done)))) rfl) fun s hs=>?_
 obtain ⟨i,k,L⟩:=s
 obtain ⟨hi,hk,_,hLl,hL⟩:=hs
 dsimp only at hi hk hL hLl ⊢
 by_cases hend:i=a.length∧k=b.length
 ·obtain ⟨rfl,rfl⟩:=hend
  rw [prs_end,List.append_nil] at hL
  rw [hL]
  have h0:=hI 0 zqo
  have h1:=hJ 0 0 zqo
  repeat (first|refine W.gob rfl ?_|refine WL.nil ?_|refine WL.bf rfl rfl rfl zqo ?_|refine WL.e1 rfl ?_|refine WL.gyes rfl rfl rfl rfl ?_|refine WL.len rfl rfl zql ?_|refine W.condF rfl ?_)
  refine (?_:W _ _ _ _ _)
  dsimp only [St.put,Nat.reduceAdd]
  refine W.drawK zqk zqk ?_
  repeat refine DK.st rfl ?_
  refine DK.idx rfl rfl zqo h0 ?_
  repeat refine DK.st rfl ?_
  refine DK.idx rfl rfl zqo h1 ?_
  repeat (first|refine DK.st rfl ?_|refine DK.nil ?_)
  refine W.tr (Tr.freeze 0 rfl) ?_
  exact W.ret (finN rfl rfl rfl rfl)
 by_cases hia:i < a.length
 ·have hal:=ha2 _ (List.getElem_mem hia)
  have hA:=alone_FS a[i] hal
  have halE:alnE a[i]=1+(a[i].stops.length:Int):=rfl
  have q0:=hI i hi
  have q1:=hI1 i zqo
  have p0:=hJ i k hk
  have p2:=hJ (i+1) k hk
  have b0:=hbd i k
  have n0:=hnn i k
  have b2:=hbd (i+1) k
  have n2:=hnn (i+1) k
  have ealA:=alA_at hia
  by_cases hkb:k < b.length
  ·have hbl:=hb2 _ (List.getElem_mem hkb)
   have hD:=pDist_FS a[i] b[k] hal hbl
   have hDb:=dstE_bd a[i] b[k]
   have p1:=hJ1 (i+1) k zqo
   have b1:=hbd (i+1) (k+1)
   have n1:=hnn (i+1) (k+1)
   have edsA:=dsA_at hia hkb
   have hf:a.length - i+(b.length - k)=(a.length - (i+1)+(b.length - (k+1))+1)+1:=by omega
   have hf1:a.length - i+(b.length - k)=(a.length - (i+1)+(b.length - k))+1:=by omega
   have hf2:a.length - i+(b.length - k)=(a.length - i+(b.length - (k+1)))+1:=by omega
   by_cases he1:csA a b i k=dsA a b i k+csA a b (i+1) (k+1)
   ·have hfe:prs a b (a.length - (i+1)+(b.length - (k+1))+1) (i+1) (k+1)=prs a b (a.length - (i+1)+(b.length - (k+1))) (i+1) (k+1):=prs_fuel zqo zqo zqo
    rw [hf,prs_b hia hkb he1,hfe] at hL
    rw [edsA] at he1
    obtain ⟨c0,hc0⟩:∃ z,csA a b i k=z:=⟨_,rfl⟩
    obtain ⟨c1,hc1⟩:∃ z,csA a b (i+1) (k+1)=z:=⟨_,rfl⟩
    obtain ⟨dd,hdd⟩:∃ z,dstE a[i] b[k]=z:=⟨_,rfl⟩
    rw [hc0] at he1 p0 b0 n0
    rw [hc1] at he1 p1 b1 n1
    rw [hdd] at he1 hD hDb
    repeat (first|refine W.gob rfl ?_|refine WL.nil ?_|refine WL.bt rfl rfl rfl zqo ?_|refine WL.e1 rfl ?_|refine WL.opno rfl rfl rfl rfl rfl rfl rfl ?_|refine WL.len rfl rfl zql ?_|refine W.condT rfl ?_)
    refine (?_:W _ _ _ _ _)
    dsimp only [St.put,Nat.reduceAdd]
    refine W.drawK zqk zqk ?_
    repeat (first|refine DK.bt rfl rfl (by omega) ?_|refine DK.tt rfl (by first|(simp;done)|fail) ?_|refine DK.st rfl ?_|refine DK.len rfl rfl zql ?_)
    refine DK.idx rfl rfl zqo q0 ?_
    repeat refine DK.st rfl ?_
    refine DK.idx rfl rfl zqo p0 ?_
    repeat (first|refine DK.st rfl ?_|refine DK.idx rfl rfl zqo zqm ?_)
    refine DK.vl rfl (zqc Tryz.func133 hD) ?_
    repeat (first|refine DK.st rfl ?_|refine DK.ar rfl rfl z3i ?_)
    refine DK.idx rfl rfl zqo q1 ?_
    repeat (first|refine DK.st rfl ?_|refine DK.ar rfl rfl z3i ?_)
    refine DK.idx rfl rfl zqo p1 ?_
    repeat (first|refine DK.bt rfl rfl (by omega) ?_|refine DK.tt rfl (by first|(simp;done)|fail) ?_|refine DK.st rfl ?_|refine DK.ar rfl rfl z3i ?_|refine DK.nil ?_)
    repeat (first|refine W.gob rfl ?_|refine WL.nil ?_|refine WL.e1 rfl ?_|refine WL.ar rfl rfl z3i ?_|refine WL.app rfl rfl rfl zqs ?_|refine W.condT rfl ?_)
    dsimp only [St.put,Nat.reduceAdd]
    refine ⟨(i+1,k+1,L++[((i:Int),(k:Int))]),⟨by show i+1≤_;omega,by show k+1≤_;omega,rfl,by simp;omega,by rw [List.append_assoc];exact hL⟩,by show a.length - (i+1)+(b.length - (k+1)) < a.length - i+(b.length - k);omega,?_⟩
    exact (zqu (fun q=>bif Nat.beq q 0 then 2 else q) (by repeat (first|exact trivial|refine ⟨⟨?_,?_,?_⟩,?_⟩|rfl|exact congrArg (fun q=>some (AO.row _ _ q)) (by rw [List.map_append];rfl))) rfl)
   ·by_cases he2:csA a b i k=alA a i+csA a b (i+1) k
    ·rw [hf1,prs_l hia (fun h=>he1 h.2) he2] at hL
     rw [edsA] at he1
     rw [ealA] at he2
     obtain ⟨c0,hc0⟩:∃ z,csA a b i k=z:=⟨_,rfl⟩
     obtain ⟨c1,hc1⟩:∃ z,csA a b (i+1) (k+1)=z:=⟨_,rfl⟩
     obtain ⟨c2,hc2⟩:∃ z,csA a b (i+1) k=z:=⟨_,rfl⟩
     obtain ⟨dd,hdd⟩:∃ z,dstE a[i] b[k]=z:=⟨_,rfl⟩
     obtain ⟨la,hla⟩:∃ z,alnE a[i]=z:=⟨_,rfl⟩
     rw [hc0] at he1 he2 p0 b0 n0
     rw [hc1] at he1 p1 b1 n1
     rw [hc2] at he2 p2 b2 n2
     rw [hdd] at he1 hD hDb
     rw [hla] at he2 hA halE
     repeat (first|refine W.gob rfl ?_|refine WL.nil ?_|refine WL.bt rfl rfl rfl zqo ?_|refine WL.e1 rfl ?_|refine WL.opno rfl rfl rfl rfl rfl rfl rfl ?_|refine WL.len rfl rfl zql ?_|refine W.condT rfl ?_)
     refine (?_:W _ _ _ _ _)
     dsimp only [St.put,Nat.reduceAdd]
     refine W.drawK zqk zqk ?_
     repeat (first|refine DK.bt rfl rfl (by omega) ?_|refine DK.tt rfl (by first|(simp;done)|fail) ?_|refine DK.st rfl ?_|refine DK.len rfl rfl zql ?_)
     refine DK.idx rfl rfl zqo q0 ?_
     repeat refine DK.st rfl ?_
     refine DK.idx rfl rfl zqo p0 ?_
     repeat (first|refine DK.st rfl ?_|refine DK.idx rfl rfl zqo zqm ?_)
     refine DK.vl rfl (zqc Tryz.func133 hD) ?_
     repeat (first|refine DK.st rfl ?_|refine DK.ar rfl rfl z3i ?_)
     refine DK.idx rfl rfl zqo q1 ?_
     repeat (first|refine DK.st rfl ?_|refine DK.ar rfl rfl z3i ?_)
     refine DK.idx rfl rfl zqo p1 ?_
     repeat (first|refine DK.bf rfl rfl (by omega) ?_|refine DK.ff rfl (by first|(simp;done)|fail) ?_|refine DK.st rfl ?_|refine DK.ar rfl rfl z3i ?_|refine DK.nil ?_)
     repeat (first|refine W.gob rfl ?_|refine W.condF rfl ?_)
     refine (?_:W _ _ _ _ _)
     dsimp only [St.put,Nat.reduceAdd]
     refine W.drawK zqk zqk ?_
     repeat (first|refine DK.bt rfl rfl (by omega) ?_|refine DK.tt rfl (by first|(simp;done)|fail) ?_|refine DK.st rfl ?_|refine DK.len rfl rfl zql ?_)
     refine DK.idx rfl rfl zqo q0 ?_
     repeat refine DK.st rfl ?_
     refine DK.idx rfl rfl zqo p0 ?_
     repeat (first|refine DK.st rfl ?_|refine DK.idx rfl rfl zqo zqm ?_)
     refine DK.vl rfl (WV.callV (truH _) rfl (callF Tryz.func132 rfl rfl) rfl rfl rfl rfl rfl hA.g) ?_
     repeat (first|refine DK.st rfl ?_|refine DK.ar rfl rfl z3i ?_)
     refine DK.idx rfl rfl zqo q1 ?_
     repeat refine DK.st rfl ?_
     refine DK.idx rfl rfl zqo p2 ?_
     repeat (first|refine DK.bt rfl rfl (by omega) ?_|refine DK.tt rfl (by first|(simp;done)|fail) ?_|refine DK.st rfl ?_|refine DK.ar rfl rfl z3i ?_|refine DK.nil ?_)
     repeat (first|refine W.gob rfl ?_|refine WL.nil ?_|refine WL.e1 rfl ?_|refine WL.ar rfl rfl z3i ?_|refine WL.app rfl rfl rfl zqs ?_|refine W.condT rfl ?_)
     dsimp only [St.put,Nat.reduceAdd]
     refine ⟨(i+1,k,L++[((i:Int),-1)]),⟨by show i+1≤_;omega,hk,rfl,by simp;omega,by rw [List.append_assoc];exact hL⟩,by show a.length - (i+1)+(b.length - k) < a.length - i+(b.length - k);omega,?_⟩
     exact (zqu (fun q=>bif Nat.beq q 0 then 2 else q) (by repeat (first|exact trivial|refine ⟨⟨?_,?_,?_⟩,?_⟩|rfl|exact congrArg (fun q=>some (AO.row _ _ q)) (by rw [List.map_append];rfl))) rfl)
    ·rw [hf2,prs_r hkb (fun h=>he1 h.2) (fun h=>he2 h.2)] at hL
     rw [edsA] at he1
     rw [ealA] at he2
     obtain ⟨c0,hc0⟩:∃ z,csA a b i k=z:=⟨_,rfl⟩
     obtain ⟨c1,hc1⟩:∃ z,csA a b (i+1) (k+1)=z:=⟨_,rfl⟩
     obtain ⟨c2,hc2⟩:∃ z,csA a b (i+1) k=z:=⟨_,rfl⟩
     obtain ⟨dd,hdd⟩:∃ z,dstE a[i] b[k]=z:=⟨_,rfl⟩
     obtain ⟨la,hla⟩:∃ z,alnE a[i]=z:=⟨_,rfl⟩
     rw [hc0] at he1 he2 p0 b0 n0
     rw [hc1] at he1 p1 b1 n1
     rw [hc2] at he2 p2 b2 n2
     rw [hdd] at he1 hD hDb
     rw [hla] at he2 hA halE
     repeat (first|refine W.gob rfl ?_|refine WL.nil ?_|refine WL.bt rfl rfl rfl zqo ?_|refine WL.e1 rfl ?_|refine WL.opno rfl rfl rfl rfl rfl rfl rfl ?_|refine WL.len rfl rfl zql ?_|refine W.condT rfl ?_)
     refine (?_:W _ _ _ _ _)
     dsimp only [St.put,Nat.reduceAdd]
     refine W.drawK zqk zqk ?_
     repeat (first|refine DK.bt rfl rfl (by omega) ?_|refine DK.tt rfl (by first|(simp;done)|fail) ?_|refine DK.st rfl ?_|refine DK.len rfl rfl zql ?_)
     refine DK.idx rfl rfl zqo q0 ?_
     repeat refine DK.st rfl ?_
     refine DK.idx rfl rfl zqo p0 ?_
     repeat (first|refine DK.st rfl ?_|refine DK.idx rfl rfl zqo zqm ?_)
     refine DK.vl rfl (zqc Tryz.func133 hD) ?_
     repeat (first|refine DK.st rfl ?_|refine DK.ar rfl rfl z3i ?_)
     refine DK.idx rfl rfl zqo q1 ?_
     repeat (first|refine DK.st rfl ?_|refine DK.ar rfl rfl z3i ?_)
     refine DK.idx rfl rfl zqo p1 ?_
     repeat (first|refine DK.bf rfl rfl (by omega) ?_|refine DK.ff rfl (by first|(simp;done)|fail) ?_|refine DK.st rfl ?_|refine DK.ar rfl rfl z3i ?_|refine DK.nil ?_)
     repeat (first|refine W.gob rfl ?_|refine W.condF rfl ?_)
     refine (?_:W _ _ _ _ _)
     dsimp only [St.put,Nat.reduceAdd]
     refine W.drawK zqk zqk ?_
     repeat (first|refine DK.bt rfl rfl (by omega) ?_|refine DK.tt rfl (by first|(simp;done)|fail) ?_|refine DK.st rfl ?_|refine DK.len rfl rfl zql ?_)
     refine DK.idx rfl rfl zqo q0 ?_
     repeat refine DK.st rfl ?_
     refine DK.idx rfl rfl zqo p0 ?_
     repeat (first|refine DK.st rfl ?_|refine DK.idx rfl rfl zqo zqm ?_)
     refine DK.vl rfl (WV.callV (truH _) rfl (callF Tryz.func132 rfl rfl) rfl rfl rfl rfl rfl hA.g) ?_
     repeat (first|refine DK.st rfl ?_|refine DK.ar rfl rfl z3i ?_)
     refine DK.idx rfl rfl zqo q1 ?_
     repeat refine DK.st rfl ?_
     refine DK.idx rfl rfl zqo p2 ?_
     repeat (first|refine DK.bf rfl rfl (by omega) ?_|refine DK.ff rfl (by first|(simp;done)|fail) ?_|refine DK.st rfl ?_|refine DK.ar rfl rfl z3i ?_|refine DK.nil ?_)
     repeat (first|refine W.gob rfl ?_|refine WL.nil ?_|refine WL.e1 rfl ?_|refine WL.ar rfl rfl z3i ?_|refine WL.app rfl rfl rfl zqs ?_|refine W.condF rfl ?_)
     dsimp only [St.put,Nat.reduceAdd]
     refine ⟨(i,k+1,L++[(-1,(k:Int))]),⟨hi,by show k+1≤_;omega,rfl,by simp;omega,by rw [List.append_assoc];exact hL⟩,by show a.length - i+(b.length - (k+1)) < a.length - i+(b.length - k);omega,?_⟩
     exact (zqu (fun q=>bif Nat.beq q 0 then 2 else q) (by repeat (first|exact trivial|refine ⟨⟨?_,?_,?_⟩,?_⟩|rfl|exact congrArg (fun q=>some (AO.row _ _ q)) (by rw [List.map_append];rfl))) rfl)
  ·have hkb2:k=b.length:=by omega
   subst hkb2
   have hf1:a.length - i+(b.length - b.length)=(a.length - (i+1)+(b.length - b.length))+1:=by omega
   have he2:csA a b i b.length=alA a i+csA a b (i+1) b.length:=by rw [ealA];exact csA_l hia
   rw [hf1,prs_l hia (fun h=>Nat.lt_irrefl _ h.1) he2] at hL
   rw [ealA] at he2
   obtain ⟨c0,hc0⟩:∃ z,csA a b i b.length=z:=⟨_,rfl⟩
   obtain ⟨c2,hc2⟩:∃ z,csA a b (i+1) b.length=z:=⟨_,rfl⟩
   obtain ⟨la,hla⟩:∃ z,alnE a[i]=z:=⟨_,rfl⟩
   rw [hc0] at he2 p0 b0 n0
   rw [hc2] at he2 p2 b2 n2
   rw [hla] at he2 hA halE
   repeat (first|refine W.gob rfl ?_|refine WL.nil ?_|refine WL.bt rfl rfl rfl zqo ?_|refine WL.e1 rfl ?_|refine WL.opno rfl rfl rfl rfl rfl rfl rfl ?_|refine WL.len rfl rfl zql ?_|refine W.condT rfl ?_)
   refine (?_:W _ _ _ _ _)
   dsimp only [St.put,Nat.reduceAdd]
   refine W.drawK zqk zqk ?_
   repeat (first|refine DK.bt rfl rfl (by omega) ?_|refine DK.bf rfl rfl (by omega) ?_|refine DK.tt rfl (by first|(simp;done)|fail) ?_|refine DK.ff rfl (by first|(simp;done)|fail) ?_|refine DK.st rfl ?_|refine DK.len rfl rfl zql ?_|refine DK.nil ?_)
   repeat (first|refine W.gob rfl ?_|refine W.condF rfl ?_)
   refine (?_:W _ _ _ _ _)
   dsimp only [St.put,Nat.reduceAdd]
   refine W.drawK zqk zqk ?_
   repeat (first|refine DK.bt rfl rfl (by omega) ?_|refine DK.tt rfl (by first|(simp;done)|fail) ?_|refine DK.st rfl ?_|refine DK.len rfl rfl zql ?_)
   refine DK.idx rfl rfl zqo q0 ?_
   repeat refine DK.st rfl ?_
   refine DK.idx rfl rfl zqo p0 ?_
   repeat (first|refine DK.st rfl ?_|refine DK.idx rfl rfl zqo zqm ?_)
   refine DK.vl rfl (WV.callV (truH _) rfl (callF Tryz.func132 rfl rfl) rfl rfl rfl rfl rfl hA.g) ?_
   repeat (first|refine DK.st rfl ?_|refine DK.ar rfl rfl z3i ?_)
   refine DK.idx rfl rfl zqo q1 ?_
   repeat refine DK.st rfl ?_
   refine DK.idx rfl rfl zqo p2 ?_
   repeat (first|refine DK.bt rfl rfl (by omega) ?_|refine DK.tt rfl (by first|(simp;done)|fail) ?_|refine DK.st rfl ?_|refine DK.ar rfl rfl z3i ?_|refine DK.nil ?_)
   repeat (first|refine W.gob rfl ?_|refine WL.nil ?_|refine WL.e1 rfl ?_|refine WL.ar rfl rfl z3i ?_|refine WL.app rfl rfl rfl zqs ?_|refine W.condT rfl ?_)
   dsimp only [St.put,Nat.reduceAdd]
   refine ⟨(i+1,b.length,L++[((i:Int),-1)]),⟨by show i+1≤_;omega,hk,rfl,by simp;omega,by rw [List.append_assoc];exact hL⟩,by show a.length - (i+1)+(b.length - b.length) < a.length - i+(b.length - b.length);omega,?_⟩
   exact (zqu (fun q=>bif Nat.beq q 0 then 2 else q) (by repeat (first|exact trivial|refine ⟨⟨?_,?_,?_⟩,?_⟩|rfl|exact congrArg (fun q=>some (AO.row _ _ q)) (by rw [List.map_append];rfl))) rfl)
 ·have hie:i=a.length:=by omega
  subst hie
  have hkb:k < b.length:=by omega
  have hf2:a.length - a.length+(b.length - k)=(a.length - a.length+(b.length - (k+1)))+1:=by omega
  rw [hf2,prs_r hkb (fun h=>Nat.lt_irrefl _ h.1) (fun h=>Nat.lt_irrefl _ h.1)] at hL
  repeat (first|refine W.gob rfl ?_|refine WL.nil ?_|refine WL.bt rfl rfl rfl zqo ?_|refine WL.bf rfl rfl rfl zqo ?_|refine WL.e1 rfl ?_|refine WL.gyes rfl rfl rfl rfl ?_|refine WL.len rfl rfl zql ?_|refine W.condT rfl ?_)
  refine (?_:W _ _ _ _ _)
  dsimp only [St.put,Nat.reduceAdd]
  refine W.drawK zqk zqk ?_
  repeat (first|refine DK.bf rfl rfl (by omega) ?_|refine DK.ff rfl (by first|(simp;done)|fail) ?_|refine DK.st rfl ?_|refine DK.len rfl rfl zql ?_|refine DK.nil ?_)
  repeat (first|refine W.gob rfl ?_|refine W.condF rfl ?_)
  refine (?_:W _ _ _ _ _)
  dsimp only [St.put,Nat.reduceAdd]
  refine W.drawK zqk zqk ?_
  repeat (first|refine DK.bf rfl rfl (by omega) ?_|refine DK.ff rfl (by first|(simp;done)|fail) ?_|refine DK.st rfl ?_|refine DK.len rfl rfl zql ?_|refine DK.nil ?_)
  repeat (first|refine W.gob rfl ?_|refine WL.nil ?_|refine WL.e1 rfl ?_|refine WL.ar rfl rfl z3i ?_|refine WL.app rfl rfl rfl zqs ?_|refine W.condF rfl ?_)
  dsimp only [St.put,Nat.reduceAdd]
  refine ⟨(a.length,k+1,L++[(-1,(k:Int))]),⟨hi,by show k+1≤_;omega,rfl,by simp;omega,by rw [List.append_assoc];exact hL⟩,by show a.length - a.length+(b.length - (k+1)) < a.length - a.length+(b.length - k);omega,?_⟩
  exact (zqu (fun q=>bif Nat.beq q 0 then 2 else q) (by repeat (first|exact trivial|refine ⟨⟨?_,?_,?_⟩,?_⟩|rfl|exact congrArg (fun q=>some (AO.row _ _ q)) (by rw [List.map_append];rfl))) rfl)
end
section
open Go.RowKit
def cllX(a b:Pce):Int:=if pceE a≠0 then pceE a else if pceE b≠0 then pceE b else if sameI a.cs a.st b.cs b.st=true then 0 else 11
def cllA(a b:Pce):Pce:=if cllX a b=0 then⟨a.cs,a.st,plE a⟩else noP
def cllB(a b:Pce):Pce:=if cllX a b=0 then⟨b.cs,b.st,plE b⟩else noP
def cllL (a b:Pce):List (Int×Int):=if cllX a b=0 then prsA (plE a) (plE b)else []
def cllN (a b:Pce):Int:=if cllX a b=0 then csA (plE a) (plE b) 0 0 else 0
theorem cll_1 {a b:Pce} (h:pceE a≠0):cllX a b=pceE a∧cllA a b=noP∧cllB a b=noP∧cllL a b=[]∧cllN a b=0:=by
 have e:cllX a b=pceE a:=if_pos h
 have h2:¬ cllX a b=0:=by rw [e];exact h
 exact⟨e,if_neg h2,if_neg h2,if_neg h2,if_neg h2⟩
theorem cll_2 {a b:Pce} (h1:pceE a=0)(h:pceE b≠0):cllX a b=pceE b∧cllA a b=noP∧cllB a b=noP∧cllL a b=[]∧cllN a b=0:=by
 have e:cllX a b=pceE b:=by unfold cllX;rw [if_neg (fun k=>k h1),if_pos h]
 have h2:¬ cllX a b=0:=by rw [e];exact h
 exact⟨e,if_neg h2,if_neg h2,if_neg h2,if_neg h2⟩
theorem cll_3 {a b:Pce} (h1:pceE a=0)(h:pceE b=0)(h3:sameI a.cs a.st b.cs b.st=false):cllX a b=11∧cllA a b=noP∧cllB a b=noP∧cllL a b=[]∧cllN a b=0:=by
 have e:cllX a b=11:=by unfold cllX;rw [if_neg (fun k=>k h1),if_neg (fun k=>k h),if_neg (by simp [h3])]
 have h2:¬ cllX a b=0:=by rw [e];decide
 exact⟨e,if_neg h2,if_neg h2,if_neg h2,if_neg h2⟩
theorem cll_4 {a b:Pce} (h1:pceE a=0) (h:pceE b=0) (h3:sameI a.cs a.st b.cs b.st=true):cllX a b=0∧cllA a b=⟨a.cs,a.st,plE a⟩∧cllB a b=⟨b.cs,b.st,plE b⟩∧cllL a b=prsA (plE a) (plE b)∧cllN a b=csA (plE a) (plE b) 0 0:=by
 have e:cllX a b=0:=by unfold cllX;rw [if_neg (fun k=>k h1),if_neg (fun k=>k h),if_pos h3]
 exact ⟨e,if_pos e,if_pos e,if_pos e,if_pos e⟩
theorem plE_20 {p:Pce} (hO:PcOk p):∀ e∈plE p,e.stops.length≤20:=fun e he=>by
 obtain⟨f,hf,e2⟩:=plN_stops (Nat.le_refl _) _ he
 obtain⟨q,hq,rfl⟩:=List.getElem_of_mem hf
 rw [e2];exact hO.n4 q hq
theorem both_FS (a b:Pce) (hOa:PcOk a) (hOb:PcOk b):Ctr Tryz.prog 62 [ePce a,ePce b] (.tu [ePce (cllA a b),ePce (cllB a b),.sc (.int .i64 (cllX a b))]):=by
 have hPa:=pPlain_FS a hOa
 have hPb:=pPlain_FS b hOb
 have hS:=pSameI_FS a.cs a.st b.cs b.st hOa.n1 hOa.n2 hOb.n1 hOb.n2
 by_cases ha:pceE a=0
 rotate_left
 ·obtain ⟨e1,e2,e3,_,_⟩:=cll_1 (b:=b) ha
  rw [e1,e2,e3]
  obtain ⟨E,hE⟩:∃ E,pceE a=E:=⟨_,rfl⟩
  rw [hE] at hPa ha ⊢
  obtain ⟨Z,hZ⟩:∃ Z,plP a=Z:=⟨_,rfl⟩
  rw [hZ] at hPa
  refine zqe Tryz.func62 Tryz.ntmps62 fun w0 F0=>?_;dsimp only [St.init,number,Nat.reduceAdd]
  repeat refine W.go rfl ?_
  refine (?_:WL _ _ _ _ _ _)
  dsimp only [St.put,Nat.reduceAdd]
  refine WL.vl rfl (zqc Tryz.func40 hPa) ?_
  repeat (first|refine W.gob rfl ?_|refine WL.nil ?_|refine WL.nt rfl rfl rfl zqo ?_|refine WL.e1 rfl ?_|refine W.condT rfl ?_)
  refine (?_:W _ _ _ _ _)
  dsimp only [St.put,Nat.reduceAdd]
  refine W.tr (Tr.nilC 2 0 3 rfl rfl rfl) ?_
  refine W.tr (Tr.nilC 2 1 1 rfl rfl rfl) ?_
  refine W.tr (Tr.nilC 2 2 6 rfl rfl rfl) ?_
  refine W.tr (Tr.nilC 3 0 3 rfl rfl rfl) ?_
  refine W.tr (Tr.nilC 3 1 1 rfl rfl rfl) ?_
  refine W.tr (Tr.nilC 3 2 6 rfl rfl rfl) ?_
  exact W.ret (finN rfl rfl rfl rfl)
 have ea:plP a=⟨a.cs,a.st,plE a⟩:=if_pos ha
 rw [ea,ha] at hPa
 by_cases hb:pceE b=0
 rotate_left
 ·obtain ⟨e1,e2,e3,_,_⟩:=cll_2 ha hb
  rw [e1,e2,e3]
  obtain ⟨E,hE⟩:∃ E,pceE b=E:=⟨_,rfl⟩
  rw [hE] at hPb hb ⊢
  obtain ⟨Z,hZ⟩:∃ Z,plP b=Z:=⟨_,rfl⟩
  rw [hZ] at hPb
  refine zqe Tryz.func62 Tryz.ntmps62 fun w0 F0=>?_;dsimp only [St.init,number,Nat.reduceAdd]
  repeat refine W.go rfl ?_
  refine (?_:WL _ _ _ _ _ _)
  dsimp only [St.put,Nat.reduceAdd]
  refine WL.vl rfl (zqc Tryz.func40 hPa) ?_
  repeat (first|refine W.gob rfl ?_|refine WL.nil ?_|refine WL.nf rfl rfl rfl zqo ?_|refine WL.e1 rfl ?_|refine W.condF rfl ?_)
  refine (?_:WL _ _ _ _ _ _)
  dsimp only [St.put,Nat.reduceAdd]
  refine WL.vl rfl (zqc Tryz.func40 hPb) ?_
  repeat (first|refine W.gob rfl ?_|refine WL.nil ?_|refine WL.nt rfl rfl rfl zqo ?_|refine WL.e1 rfl ?_|refine W.condT rfl ?_)
  refine (?_:W _ _ _ _ _)
  dsimp only [St.put,Nat.reduceAdd]
  refine W.tr (Tr.nilC 2 0 3 rfl rfl rfl) ?_
  refine W.tr (Tr.nilC 2 1 1 rfl rfl rfl) ?_
  refine W.tr (Tr.nilC 2 2 6 rfl rfl rfl) ?_
  refine W.tr (Tr.nilC 3 0 3 rfl rfl rfl) ?_
  refine W.tr (Tr.nilC 3 1 1 rfl rfl rfl) ?_
  refine W.tr (Tr.nilC 3 2 6 rfl rfl rfl) ?_
  exact W.ret (finN rfl rfl rfl rfl)
 have eb:plP b=⟨b.cs,b.st,plE b⟩:=if_pos hb
 rw [eb,hb] at hPb
 obtain ⟨PA,hPA⟩:∃ z,plE a=z:=⟨_,rfl⟩
 obtain ⟨PB,hPB⟩:∃ z,plE b=z:=⟨_,rfl⟩
 cases hs:sameI a.cs a.st b.cs b.st with
 | false =>
  obtain ⟨e1,e2,e3,_,_⟩:=cll_3 ha hb hs
  rw [e1,e2,e3]
  rw [hs] at hS
  rw [hPA] at hPa
  rw [hPB] at hPb
  refine zqe Tryz.func62 Tryz.ntmps62 fun w0 F0=>?_;dsimp only [St.init,number,Nat.reduceAdd]
  repeat refine W.go rfl ?_
  refine (?_:WL _ _ _ _ _ _)
  dsimp only [St.put,Nat.reduceAdd]
  refine WL.vl rfl (zqc Tryz.func40 hPa) ?_
  repeat (first|refine W.gob rfl ?_|refine WL.nil ?_|refine WL.nf rfl rfl rfl zqo ?_|refine WL.e1 rfl ?_|refine W.condF rfl ?_)
  refine (?_:WL _ _ _ _ _ _)
  dsimp only [St.put,Nat.reduceAdd]
  refine WL.vl rfl (zqc Tryz.func40 hPb) ?_
  repeat (first|refine W.gob rfl ?_|refine WL.nil ?_|refine WL.nf rfl rfl rfl zqo ?_|refine WL.e1 rfl ?_|refine W.condF rfl ?_)
  refine (?_:WL _ _ _ _ _ _)
  dsimp only [St.put,Nat.reduceAdd]
  refine WL.vl rfl (zqc Tryz.func89 hS) ?_
  repeat (first|refine W.gob rfl ?_|refine WL.nil ?_|refine WL.e1 rfl ?_|refine W.condT rfl ?_)
  refine (?_:W _ _ _ _ _)
  dsimp only [St.put,Nat.reduceAdd]
  refine W.tr (Tr.nilC 2 0 3 rfl rfl rfl) ?_
  refine W.tr (Tr.nilC 2 1 1 rfl rfl rfl) ?_
  refine W.tr (Tr.nilC 2 2 6 rfl rfl rfl) ?_
  refine W.tr (Tr.nilC 3 0 3 rfl rfl rfl) ?_
  refine W.tr (Tr.nilC 3 1 1 rfl rfl rfl) ?_
  refine W.tr (Tr.nilC 3 2 6 rfl rfl rfl) ?_
  exact W.ret (finN rfl rfl rfl rfl)
 | true =>
  obtain ⟨e1,e2,e3,_,_⟩:=cll_4 ha hb hs
  rw [e1,e2,e3]
  rw [hs] at hS
  rw [hPA] at hPa ⊢
  rw [hPB] at hPb ⊢
  refine zqe Tryz.func62 Tryz.ntmps62 fun w0 F0=>?_;dsimp only [St.init,number,Nat.reduceAdd]
  repeat refine W.go rfl ?_
  refine (?_:WL _ _ _ _ _ _)
  dsimp only [St.put,Nat.reduceAdd]
  refine WL.vl rfl (zqc Tryz.func40 hPa) ?_
  repeat (first|refine W.gob rfl ?_|refine WL.nil ?_|refine WL.nf rfl rfl rfl zqo ?_|refine WL.e1 rfl ?_|refine W.condF rfl ?_)
  refine (?_:WL _ _ _ _ _ _)
  dsimp only [St.put,Nat.reduceAdd]
  refine WL.vl rfl (zqc Tryz.func40 hPb) ?_
  repeat (first|refine W.gob rfl ?_|refine WL.nil ?_|refine WL.nf rfl rfl rfl zqo ?_|refine WL.e1 rfl ?_|refine W.condF rfl ?_)
  refine (?_:WL _ _ _ _ _ _)
  dsimp only [St.put,Nat.reduceAdd]
  refine WL.vl rfl (zqc Tryz.func89 hS) ?_
  repeat (first|refine W.gob rfl ?_|refine WL.nil ?_|refine WL.e1 rfl ?_|refine W.condF rfl ?_)
  refine (?_:W _ _ _ _ _)
  dsimp only [St.put,Nat.reduceAdd]
  refine W.of_wa zqk ?_
  refine WA.ds [false,false,true,true,false] [4,5] zqk zqk ⟨rfl,rfl,trivial⟩ ?_
  repeat (first|refine DSK.st rfl rfl ?_|refine DSK.sto rfl rfl rfl rfl rfl rfl rfl rfl rfl rfl rfl rfl rfl rfl ⟨rfl,rfl,trivial⟩ ?_|refine DSK.nil ?_)
  refine (?_:W _ _ _ _ _)
  refine (?_:W _ _ _ _ _)
  dsimp only [St.put,Nat.reduceAdd]
  exact W.ret (finN rfl rfl rfl rfl)
end
end Go.Proofs.YtgelfflighgajaaGreatDoor
