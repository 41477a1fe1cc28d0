/- The reader of the reference: a column as an event of the piece. -/
import Derived.Test.YthehkchjdkdbiaaGreatDoorNw4Hq
import Derived.Test.YthehkchjdkdbiaaGreatDoorNrYHq
import Derived.Test.YthehkchjdkdbiaaGreatDoorK2Hq
set_option maxHeartbeats 8000000
set_option maxRecDepth 100000
set_option linter.unusedVariables false
set_option linter.unusedSimpArgs false
namespace Go.Proofs.YthehkchjdkdbiaaGreatDoor
section
open Go.RowKit
theorem rChord_bad (s:Int) (hs:1≤s∧s≤4) (cs:List Crs) (st:List Int) (hcs:cs.length≤64) (words:List (List UInt8)) (hw:words.length≤400000) (hb:rf_bad s (nr_staff s cs) words.length) :
  Cto truB 0 Tryz.prog 169 [.sc (.int .u8 s),.ag (eIns cs st),.ls 1 (words.map eTx)] [] 0 (.tu [.sl 0,.sc (.bool (nr_ch s (nr_staff s cs) words).isSome)]) [(0,.row 69 5 ((((nr_ch s (nr_staff s cs) words).getD []).map rf_st).map eStp))] 1:=by
 rw [rf_bad_ch hb]
 have hS:=rSpots_FS s hs cs st hcs words.length hw
 rw [if_pos hb,decide_eq_false (fun h=>h hb)] at hS
 unfold eIns at hS ⊢
 dsimp only [Option.getD,Option.isSome,List.map]
 have hml:(words.map eTx).length=words.length:=List.length_map _
 obtain ⟨R,hR⟩:∃ z,words.map eTx=z:=⟨_,rfl⟩
 rw [hR] at hml ⊢
 rw [← hml] at hS
 refine Cto.intro truS Tryz.func169 rfl Tryz.ntmps169 (Nat.le_of_ble_eq_true rfl) rfl fun w0 F0 fp pg hB=>?_
 dsimp only [number,Nat.reduceAdd]
 refine zqg12 ?_
 refine WL.vl rfl (zqc Tryz.func228 hS) ?_
 refine zqg12 ?_
 refine W.tr (Tr.nil (t:=6) 69 5 rfl rfl) ?_
 exact W.ret (finTrL (σ':=⟨[(6,.sl 0),(7,.sc (.bool false))],[(0,.row 69 5 [])],1⟩) (zqu (fun q=>bif Nat.beq q 0 then 1 else q) (by repeat (first|exact trivial|refine ⟨⟨?_,?_,?_⟩,?_⟩|rfl|exact congrArg (fun q=>some (AO.row _ _ q)) (by first|rfl|(simp;done)|(simp [eInt];done)|(simp [eLk];done)))) rfl) (finM rfl rfl rfl rfl rfl))
theorem rChord_ok (s:Int) (hs:1≤s∧s≤4) (cs:List Crs) (st:List Int) (hcs:cs.length≤64) (words:List (List UInt8)) (hw:words.length≤390000) (hwl:∀ w∈words,w.length≤400000) (hb:¬ rf_bad s (nr_staff s cs) words.length)
  {P:Nat→Prop} {LL:Nat→List N5} {la:Nat→Nat} {RR:Option (List N5)} (H:RfCh s (nr_staff s cs) words P LL la RR) :
  Cto truB 0 Tryz.prog 169 [.sc (.int .u8 s),.ag (eIns cs st),.ls 1 (words.map eTx)] [] 0 (.tu [.sl 0,.sc (.bool (RR).isSome)]) [(0,.row 69 5 ((((RR).getD []).map rf_st).map eStp))] 1:=by
 have hS:=rSpots_FS s hs cs st hcs words.length zqo
 rw [if_neg hb,decide_eq_true hb] at hS
 obtain ⟨n6,n4⟩:=nr_staff_bd s cs
 unfold eIns at hS ⊢
 obtain ⟨⟨p0,hL0,hl0⟩,Hbad,Hdash,Hon,Hfall,Hout,Hdone,Hlen⟩:=H
 obtain ⟨n,hn⟩:∃ z,nr_staff s cs=z:=⟨_,rfl⟩
 rw [hn] at hS hb n6 n4 Hbad Hdash Hon Hfall Hout
 have hml:(words.map eTx).length=words.length:=List.length_map _
 have hWat:∀ k (h:k < words.length),(words.map eTx)[((k:Nat):Int).toNat]?=some (eTx words[k]):=fun k h=>by
  rw [Int.toNat_natCast,List.getElem?_map,List.getElem?_eq_getElem h];rfl
 have hSl:((rf_spots s n words.length words.length).map eInt).length=words.length:=by rw [List.length_map,rf_spots_len]
 have hSat:∀ k (h:k < words.length),((rf_spots s n words.length words.length).map eInt)[((k:Nat):Int).toNat]?=some (eInt (rf_spot s n words.length k)):=fun k h=>by
  rw [Int.toNat_natCast,List.getElem?_map]
  unfold rf_spots
  rw [List.getElem?_map,List.getElem?_range h];rfl
 have hsp0:∀ k (h:k < words.length),0≤rf_spot s n words.length k∧rf_spot s n words.length k≤6∧(s=4→rf_spot s n words.length k=0):=fun k h=>by
  refine ⟨rf_spot_nn h,?_,fun h4=>?_⟩
  ·unfold rf_spot;split<;>(try split)<;>omega
  ·have:=n4 h4
   unfold rf_spot;split<;>(try split)<;>omega
 obtain ⟨m,hm⟩:∃ z,words.length=z:=⟨_,rfl⟩
 obtain ⟨R,hR⟩:∃ z,words.map eTx=z:=⟨_,rfl⟩
 rw [hR] at hml hWat ⊢
 obtain ⟨SP,hSP⟩:∃ z,(rf_spots s n words.length words.length).map eInt=z:=⟨_,rfl⟩
 rw [hSP] at hS hSl hSat
 rw [← hml] at hS
 refine Cto.intro truS Tryz.func169 rfl Tryz.ntmps169 (Nat.le_of_ble_eq_true rfl) rfl fun w0 F0 fp pg hB=>?_
 dsimp only [number,Nat.reduceAdd]
 refine zqg13 ?_
 refine WL.vl rfl (zqc Tryz.func228 hS) ?_
 refine zqg13 ?_
 refine W.tr (Tr.nil (t:=10) 69 5 rfl rfl) ?_
 refine W.loop (fun k:Nat=>k≤words.length∧P k) (fun k=>⟨[(0,.sc (.int .u8 s)),(2,.ls 1 R),(8,.ls 1 SP),(10,.sl 1),(11,.sc (.int .i64 (la k:Int))),(12,.sc (.int .i64 (k:Int)))],[(1,.row 69 5 (((LL k).map rf_st).map eStp))],2⟩) (fun k=>words.length - k) 0 ⟨by omega,p0⟩ (by rw [hL0,hl0];exact (zqt id)) fun k hk=>?_
 obtain ⟨hk,hP⟩:=hk
 have hLk:=Hlen k
 have hLl:(((LL k).map rf_st).map eStp).length=(LL k).length:=by rw [List.length_map,List.length_map]
 by_cases hlt:k < words.length
 rotate_left
 ·obtain rfl:k=words.length:=by omega
  rw [Hdone hP]
  by_cases hnil:LL words.length=[]
  ·rw [if_pos hnil,hnil]
   dsimp only [Option.getD,Option.isSome,List.map]
   refine zqg13 ?_
   exact W.ret (finTrL (σ':=⟨[(6,.sl 0),(7,.sc (.bool false))],[(0,.row 69 5 [])],1⟩) (zqu (fun q=>bif Nat.beq q 0 then 1 else q) (by repeat (first|exact trivial|refine ⟨⟨?_,?_,?_⟩,?_⟩|rfl|exact congrArg (fun q=>some (AO.row _ _ q)) (by first|rfl|(simp;done)|(simp [eInt];done)|(simp [eLk];done)))) rfl) (finM rfl rfl rfl rfl rfl))
  ·rw [if_neg hnil]
   dsimp only [Option.getD,Option.isSome]
   have hpos:0 < (LL words.length).length:=List.length_pos_iff.2 hnil
   obtain ⟨RL,hRL⟩:∃ z,((LL words.length).map rf_st).map eStp=z:=⟨_,rfl⟩
   rw [hRL] at hLl
   rw [hRL]
   refine zqg13 ?_
   exact W.ret (finTrL (σ':=⟨[(6,.sl 0),(7,.sc (.bool true))],[(0,.row 69 5 RL)],1⟩) (zqu (fun q=>bif Nat.beq q 0 then 1 else q) (by repeat (first|exact trivial|refine ⟨⟨?_,?_,?_⟩,?_⟩|rfl|exact congrArg (fun q=>some (AO.row _ _ q)) (by first|rfl|(simp;done)|(simp [eInt];done)|(simp [eLk];done)))) rfl) (finM rfl rfl rfl rfl rfl))
 have hwat:=hWat k hlt
 have hsat:=hSat k hlt
 obtain ⟨sp1,sp2,sp3⟩:=hsp0 k hlt
 have h1:=Hbad k hlt hP
 have h2:=Hdash k hlt hP
 have h3:=fun x=>Hon k hlt x hP
 have h4:=fun x=>Hfall k hlt x hP
 have h5:=fun x=>Hout k hlt x hP
 have hwk:=hwl words[k] (List.getElem_mem hlt)
 obtain ⟨spv,hspv⟩:∃ z,rf_spot s n words.length k=z:=⟨_,rfl⟩
 rw [hspv] at hsat sp1 sp2 sp3 h1 h2 h3 h4 h5
 have hspe:spotErr s spv=0:=by
  unfold spotErr
  rw [if_neg (by omega),if_neg (by omega)]
 have hins:=fun x=>rInsert_G ((LL k).map rf_st) (rf_st x) (by rw [List.length_map];omega)
 have himap:=fun x=>rf_ins1_map (LL k) x
 obtain ⟨w,hww⟩:∃ z,words[k]=z:=⟨_,rfl⟩
 rw [hww] at hwat h1 h2 h3 h4 h5 hwk
 have hpc:=rParseCell_FS s spv w hspe hwk
 clear Hbad Hdash Hon Hfall Hout Hdone Hlen hWat hSat hsp0
 obtain ⟨RL,hRL⟩:∃ z,((LL k).map rf_st).map eStp=z:=⟨_,rfl⟩
 rw [hRL] at hLl hins ⊢
 obtain ⟨LA,hLA⟩:∃ z,la k=z:=⟨_,rfl⟩
 rw [hLA] at h2 h3 h4 h5 ⊢
 by_cases hsp:0 < spv
 ·by_cases hd:w=[45]
  ·obtain ⟨d1,d2,d3⟩:=h2 hsp hd
   have hbt:(w == ([45]:List UInt8))=true:=by rw [hd];rfl
   clear h1 h2 h3 h4 h5 hins himap hpc
   refine zqg13 ?_
   refine WL.idx rfl rfl zqo hsat ?_
   refine zqg13 ?_
   refine WL.idx rfl rfl zqo hwat ?_
   refine zqg13 ?_
   rw [hbt]
   refine zqg13 ?_
   refine ⟨k+1,⟨by omega,d1⟩,by omega,?_⟩
   rw [d2,d3,hRL]
   exact (zqt id)
  ·have hbf:(w == ([45]:List UInt8))=false:=by simpa using hd
   cases hc:nr_cl s spv w with
   | none =>
    rw [h1 (fun q=>hd q.2) hc]
    rw [hc] at hpc
    unfold rf_pc at hpc
    dsimp only [Option.getD,Option.isSome,List.map]
    dsimp only at hpc
    clear h1 h2 h3 h4 h5 hins himap
    refine W.tr (Tr.freeze 1 rfl) ?_
    refine zqg13 ?_
    refine WL.idx rfl rfl zqo hsat ?_
    refine zqg13 ?_
    refine WL.idx rfl rfl zqo hwat ?_
    refine zqg13 ?_
    rw [hbf]
    refine zqg13 ?_
    refine W.of_wa zqk ?_
    refine WA.dt [false,false,false,false,false,false,false,false,false,false,false,false,false,true,true,false] [] [] 14 zqk zqk zqk trivial trivial ?_
    refine DTK.v0 rfl (stepV_of rfl rfl) ?_
    refine DTK.v0 rfl (stepV_of rfl rfl) ?_
    refine DTK.v0 rfl (stepV_of rfl rfl) ?_
    refine DTK.v0 rfl (idxV_of rfl zqo hsat) ?_
    refine DTK.v0 rfl (stepV_of rfl rfl) ?_
    refine DTK.v0 rfl (stepV_of rfl rfl) ?_
    refine DTK.v0 rfl (stepV_of rfl rfl) ?_
    refine DTK.v0 rfl (idxV_of rfl zqo hwat) ?_
    refine DTK.v0 rfl (stepV_of rfl rfl) ?_
    refine DTK.v0 rfl (zqc Tryz.func229 hpc) ?_
    refine DTK.v0 rfl (stepV_of rfl rfl) ?_
    refine DTK.v0 rfl (stepV_of rfl rfl) ?_
    refine DTK.v0 rfl (stepV_of rfl rfl) ?_
    refine DTK.al rfl rfl rfl rfl trivial (fun _=>trivial) ?_
    refine DTK.sto rfl rfl rfl rfl rfl rfl rfl rfl rfl rfl rfl rfl rfl rfl trivial (fun h=>by cases h) ?_
    refine DTK.v0 rfl (stepV_of rfl rfl) ?_
    refine DTK.nil ?_
    refine zqg13 ?_
    refine W.tr (Tr.nil (t:=6) 69 5 rfl rfl) ?_
    exact W.ret (finTrL (σ':=⟨[(6,.sl 0),(7,.sc (.bool false))],[(0,.row 69 5 [])],1⟩) (zqu (fun q=>bif Nat.beq q 0 then 3 else q) (by repeat (first|exact trivial|refine ⟨⟨?_,?_,?_⟩,?_⟩|rfl|exact congrArg (fun q=>some (AO.row _ _ q)) (by first|rfl|(simp;done)|(simp [eInt];done)|(simp [eLk];done)))) rfl) (finM rfl rfl rfl rfl rfl))
   | some x =>
    obtain ⟨d1,d2,d3⟩:=h3 x hsp hd hc
    rw [hc] at hpc
    unfold rf_pc at hpc
    have hi:=hins x
    have hi2:=himap x
    obtain ⟨xc,xf,xr,xg,xh⟩:=x
    dsimp only at hpc
    rw [hi2,← d2] at hi
    unfold rf_st eStp at hi
    dsimp only at hi
    clear h1 h2 h3 h4 h5 hins himap hi2
    refine W.tr (Tr.freeze 1 rfl) ?_
    refine zqg13 ?_
    refine WL.idx rfl rfl zqo hsat ?_
    refine zqg13 ?_
    refine WL.idx rfl rfl zqo hwat ?_
    refine zqg13 ?_
    rw [hbf]
    refine zqg13 ?_
    refine W.of_wa zqk ?_
    refine WA.dt [false,false,false,false,false,false,false,false,false,false,false,false,false,true,true,false] [] [] 14 zqk zqk zqk trivial trivial ?_
    refine DTK.v0 rfl (stepV_of rfl rfl) ?_
    refine DTK.v0 rfl (stepV_of rfl rfl) ?_
    refine DTK.v0 rfl (stepV_of rfl rfl) ?_
    refine DTK.v0 rfl (idxV_of rfl zqo hsat) ?_
    refine DTK.v0 rfl (stepV_of rfl rfl) ?_
    refine DTK.v0 rfl (stepV_of rfl rfl) ?_
    refine DTK.v0 rfl (stepV_of rfl rfl) ?_
    refine DTK.v0 rfl (idxV_of rfl zqo hwat) ?_
    refine DTK.v0 rfl (stepV_of rfl rfl) ?_
    refine DTK.v0 rfl (zqc Tryz.func229 hpc) ?_
    refine DTK.v0 rfl (stepV_of rfl rfl) ?_
    refine DTK.v0 rfl (stepV_of rfl rfl) ?_
    refine DTK.v0 rfl (stepV_of rfl rfl) ?_
    refine DTK.al rfl rfl rfl rfl trivial (fun _=>trivial) ?_
    refine DTK.sto rfl rfl rfl rfl rfl rfl rfl rfl rfl rfl rfl rfl rfl rfl trivial (fun h=>by cases h) ?_
    refine DTK.v0 rfl (stepV_of rfl rfl) ?_
    refine DTK.nil ?_
    refine zqg13 ?_
    refine WL.idx rfl rfl zqo hsat ?_
    refine zqg13 ?_
    refine WL.cto (truH _) [] rfl rfl (callF Tryz.func230 rfl rfl) hi rfl rfl rfl trivial rfl rfl rfl rfl ?_
    refine zqg13 ?_
    refine ⟨k+1,⟨by omega,d1⟩,by omega,?_⟩
    rw [d3]
    exact (zqu (fun q=>bif Nat.beq q 1 then 3 else q) (by repeat (first|exact trivial|refine ⟨⟨?_,?_,?_⟩,?_⟩|rfl|exact congrArg (fun q=>some (AO.row _ _ q)) (by first|rfl|(simp;done)|(simp [eInt];done)|(simp [eLk];done)))) rfl)
 obtain rfl:spv=0:=by omega
 cases hc:nr_cl s 0 w with
 | none =>
  rw [h1 (fun q=>by omega) hc]
  rw [hc] at hpc
  unfold rf_pc at hpc
  dsimp only [Option.getD,Option.isSome,List.map]
  dsimp only at hpc
  clear h1 h2 h3 h4 h5 hins himap
  refine W.tr (Tr.freeze 1 rfl) ?_
  refine zqg13 ?_
  refine WL.idx rfl rfl zqo hsat ?_
  refine zqg13 ?_
  refine W.of_wa zqk ?_
  refine WA.dt [false,false,false,false,false,false,false,false,false,false,false,false,false,true,true,false] [] [] 14 zqk zqk zqk trivial trivial ?_
  refine DTK.v0 rfl (stepV_of rfl rfl) ?_
  refine DTK.v0 rfl (stepV_of rfl rfl) ?_
  refine DTK.v0 rfl (stepV_of rfl rfl) ?_
  refine DTK.v0 rfl (idxV_of rfl zqo hsat) ?_
  refine DTK.v0 rfl (stepV_of rfl rfl) ?_
  refine DTK.v0 rfl (stepV_of rfl rfl) ?_
  refine DTK.v0 rfl (stepV_of rfl rfl) ?_
  refine DTK.v0 rfl (idxV_of rfl zqo hwat) ?_
  refine DTK.v0 rfl (stepV_of rfl rfl) ?_
  refine DTK.v0 rfl (zqc Tryz.func229 hpc) ?_
  refine DTK.v0 rfl (stepV_of rfl rfl) ?_
  refine DTK.v0 rfl (stepV_of rfl rfl) ?_
  refine DTK.v0 rfl (stepV_of rfl rfl) ?_
  refine DTK.al rfl rfl rfl rfl trivial (fun _=>trivial) ?_
  refine DTK.sto rfl rfl rfl rfl rfl rfl rfl rfl rfl rfl rfl rfl rfl rfl trivial (fun h=>by cases h) ?_
  refine DTK.v0 rfl (stepV_of rfl rfl) ?_
  refine DTK.nil ?_
  refine zqg13 ?_
  refine W.tr (Tr.nil (t:=6) 69 5 rfl rfl) ?_
  exact W.ret (finTrL (σ':=⟨[(6,.sl 0),(7,.sc (.bool false))],[(0,.row 69 5 [])],1⟩) (zqu (fun q=>bif Nat.beq q 0 then 3 else q) (by repeat (first|exact trivial|refine ⟨⟨?_,?_,?_⟩,?_⟩|rfl|exact congrArg (fun q=>some (AO.row _ _ q)) (by first|rfl|(simp;done)|(simp [eInt];done)|(simp [eLk];done)))) rfl) (finM rfl rfl rfl rfl rfl))
 | some x =>
  have h4:=h4 x rfl hc
  have h5:=h5 x rfl hc
  rw [hc] at hpc
  unfold rf_pc at hpc
  have hi:=hins x
  have hi2:=himap x
  obtain ⟨xc,xf,xr,xg,xh⟩:=x
  dsimp only at hpc h4 h5
  by_cases hf:0 < LA∧(s=2∧LA≤xc∨s≠2∧xc≤LA)
  ·rw [h4 hf.1 hf.2]
   dsimp only [Option.getD,Option.isSome,List.map]
   clear h1 h2 h3 h4 h5 hins himap hi2 hi
   refine W.tr (Tr.freeze 1 rfl) ?_
   obtain ⟨f1,f2⟩:=hf
   by_cases s2:s=2
   ·subst s2
    have f3:LA≤xc:=by omega
    clear f2
    refine zqg13 ?_
    refine WL.idx rfl rfl zqo hsat ?_
    refine zqg13 ?_
    refine W.of_wa zqk ?_
    refine WA.dt [false,false,false,false,false,false,false,false,false,false,false,false,false,true,true,false] [] [] 14 zqk zqk zqk trivial trivial ?_
    refine DTK.v0 rfl (stepV_of rfl rfl) ?_
    refine DTK.v0 rfl (stepV_of rfl rfl) ?_
    refine DTK.v0 rfl (stepV_of rfl rfl) ?_
    refine DTK.v0 rfl (idxV_of rfl zqo hsat) ?_
    refine DTK.v0 rfl (stepV_of rfl rfl) ?_
    refine DTK.v0 rfl (stepV_of rfl rfl) ?_
    refine DTK.v0 rfl (stepV_of rfl rfl) ?_
    refine DTK.v0 rfl (idxV_of rfl zqo hwat) ?_
    refine DTK.v0 rfl (stepV_of rfl rfl) ?_
    refine DTK.v0 rfl (zqc Tryz.func229 hpc) ?_
    refine DTK.v0 rfl (stepV_of rfl rfl) ?_
    refine DTK.v0 rfl (stepV_of rfl rfl) ?_
    refine DTK.v0 rfl (stepV_of rfl rfl) ?_
    refine DTK.al rfl rfl rfl rfl trivial (fun _=>trivial) ?_
    refine DTK.sto rfl rfl rfl rfl rfl rfl rfl rfl rfl rfl rfl rfl rfl rfl trivial (fun h=>by cases h) ?_
    refine DTK.v0 rfl (stepV_of rfl rfl) ?_
    refine DTK.nil ?_
    refine zqg13 ?_
    refine WL.idx rfl rfl zqo hsat ?_
    refine zqg13 ?_
    refine W.tr (Tr.nil (t:=6) 69 5 rfl rfl) ?_
    exact W.ret (finTrL (σ':=⟨[(6,.sl 0),(7,.sc (.bool false))],[(0,.row 69 5 [])],1⟩) (zqu (fun q=>bif Nat.beq q 0 then 3 else q) (by repeat (first|exact trivial|refine ⟨⟨?_,?_,?_⟩,?_⟩|rfl|exact congrArg (fun q=>some (AO.row _ _ q)) (by first|rfl|(simp;done)|(simp [eInt];done)|(simp [eLk];done)))) rfl) (finM rfl rfl rfl rfl rfl))
   ·have f3:xc≤LA:=by omega
    clear f2
    refine zqg13 ?_
    refine WL.idx rfl rfl zqo hsat ?_
    refine zqg13 ?_
    refine W.of_wa zqk ?_
    refine WA.dt [false,false,false,false,false,false,false,false,false,false,false,false,false,true,true,false] [] [] 14 zqk zqk zqk trivial trivial ?_
    refine DTK.v0 rfl (stepV_of rfl rfl) ?_
    refine DTK.v0 rfl (stepV_of rfl rfl) ?_
    refine DTK.v0 rfl (stepV_of rfl rfl) ?_
    refine DTK.v0 rfl (idxV_of rfl zqo hsat) ?_
    refine DTK.v0 rfl (stepV_of rfl rfl) ?_
    refine DTK.v0 rfl (stepV_of rfl rfl) ?_
    refine DTK.v0 rfl (stepV_of rfl rfl) ?_
    refine DTK.v0 rfl (idxV_of rfl zqo hwat) ?_
    refine DTK.v0 rfl (stepV_of rfl rfl) ?_
    refine DTK.v0 rfl (zqc Tryz.func229 hpc) ?_
    refine DTK.v0 rfl (stepV_of rfl rfl) ?_
    refine DTK.v0 rfl (stepV_of rfl rfl) ?_
    refine DTK.v0 rfl (stepV_of rfl rfl) ?_
    refine DTK.al rfl rfl rfl rfl trivial (fun _=>trivial) ?_
    refine DTK.sto rfl rfl rfl rfl rfl rfl rfl rfl rfl rfl rfl rfl rfl rfl trivial (fun h=>by cases h) ?_
    refine DTK.v0 rfl (stepV_of rfl rfl) ?_
    refine DTK.nil ?_
    refine zqg13 ?_
    refine WL.idx rfl rfl zqo hsat ?_
    refine zqg13 ?_
    refine W.tr (Tr.nil (t:=6) 69 5 rfl rfl) ?_
    exact W.ret (finTrL (σ':=⟨[(6,.sl 0),(7,.sc (.bool false))],[(0,.row 69 5 [])],1⟩) (zqu (fun q=>bif Nat.beq q 0 then 3 else q) (by repeat (first|exact trivial|refine ⟨⟨?_,?_,?_⟩,?_⟩|rfl|exact congrArg (fun q=>some (AO.row _ _ q)) (by first|rfl|(simp;done)|(simp [eInt];done)|(simp [eLk];done)))) rfl) (finM rfl rfl rfl rfl rfl))
  ·obtain ⟨d1,d2,d3⟩:=h5 hf
   rw [hi2,← d2] at hi
   unfold rf_st eStp at hi
   dsimp only at hi
   clear h1 h2 h3 h4 h5 hins himap hi2
   refine W.tr (Tr.freeze 1 rfl) ?_
   by_cases l0:LA=0
   ·subst l0
    refine zqg13 ?_
    refine WL.idx rfl rfl zqo hsat ?_
    refine zqg13 ?_
    refine W.of_wa zqk ?_
    refine WA.dt [false,false,false,false,false,false,false,false,false,false,false,false,false,true,true,false] [] [] 14 zqk zqk zqk trivial trivial ?_
    refine DTK.v0 rfl (stepV_of rfl rfl) ?_
    refine DTK.v0 rfl (stepV_of rfl rfl) ?_
    refine DTK.v0 rfl (stepV_of rfl rfl) ?_
    refine DTK.v0 rfl (idxV_of rfl zqo hsat) ?_
    refine DTK.v0 rfl (stepV_of rfl rfl) ?_
    refine DTK.v0 rfl (stepV_of rfl rfl) ?_
    refine DTK.v0 rfl (stepV_of rfl rfl) ?_
    refine DTK.v0 rfl (idxV_of rfl zqo hwat) ?_
    refine DTK.v0 rfl (stepV_of rfl rfl) ?_
    refine DTK.v0 rfl (zqc Tryz.func229 hpc) ?_
    refine DTK.v0 rfl (stepV_of rfl rfl) ?_
    refine DTK.v0 rfl (stepV_of rfl rfl) ?_
    refine DTK.v0 rfl (stepV_of rfl rfl) ?_
    refine DTK.al rfl rfl rfl rfl trivial (fun _=>trivial) ?_
    refine DTK.sto rfl rfl rfl rfl rfl rfl rfl rfl rfl rfl rfl rfl rfl rfl trivial (fun h=>by cases h) ?_
    refine DTK.v0 rfl (stepV_of rfl rfl) ?_
    refine DTK.nil ?_
    refine zqg13 ?_
    refine WL.idx rfl rfl zqo hsat ?_
    refine zqg13 ?_
    refine WL.cto (truH _) [] rfl rfl (callF Tryz.func230 rfl rfl) hi rfl rfl rfl trivial rfl rfl rfl rfl ?_
    refine zqg13 ?_
    refine ⟨k+1,⟨by omega,d1⟩,by omega,?_⟩
    rw [d3]
    exact (zqu (fun q=>bif Nat.beq q 1 then 3 else q) (by repeat (first|exact trivial|refine ⟨⟨?_,?_,?_⟩,?_⟩|rfl|exact congrArg (fun q=>some (AO.row _ _ q)) (by first|rfl|(simp;done)|(simp [eInt];done)|(simp [eLk];done)))) rfl)
   by_cases s2:s=2
   ·subst s2
    have f3:xc < LA:=by omega
    clear hf
    refine zqg13 ?_
    refine WL.idx rfl rfl zqo hsat ?_
    refine zqg13 ?_
    refine W.of_wa zqk ?_
    refine WA.dt [false,false,false,false,false,false,false,false,false,false,false,false,false,true,true,false] [] [] 14 zqk zqk zqk trivial trivial ?_
    refine DTK.v0 rfl (stepV_of rfl rfl) ?_
    refine DTK.v0 rfl (stepV_of rfl rfl) ?_
    refine DTK.v0 rfl (stepV_of rfl rfl) ?_
    refine DTK.v0 rfl (idxV_of rfl zqo hsat) ?_
    refine DTK.v0 rfl (stepV_of rfl rfl) ?_
    refine DTK.v0 rfl (stepV_of rfl rfl) ?_
    refine DTK.v0 rfl (stepV_of rfl rfl) ?_
    refine DTK.v0 rfl (idxV_of rfl zqo hwat) ?_
    refine DTK.v0 rfl (stepV_of rfl rfl) ?_
    refine DTK.v0 rfl (zqc Tryz.func229 hpc) ?_
    refine DTK.v0 rfl (stepV_of rfl rfl) ?_
    refine DTK.v0 rfl (stepV_of rfl rfl) ?_
    refine DTK.v0 rfl (stepV_of rfl rfl) ?_
    refine DTK.al rfl rfl rfl rfl trivial (fun _=>trivial) ?_
    refine DTK.sto rfl rfl rfl rfl rfl rfl rfl rfl rfl rfl rfl rfl rfl rfl trivial (fun h=>by cases h) ?_
    refine DTK.v0 rfl (stepV_of rfl rfl) ?_
    refine DTK.nil ?_
    refine zqg13 ?_
    refine WL.idx rfl rfl zqo hsat ?_
    refine zqg13 ?_
    refine WL.cto (truH _) [] rfl rfl (callF Tryz.func230 rfl rfl) hi rfl rfl rfl trivial rfl rfl rfl rfl ?_
    refine zqg13 ?_
    refine ⟨k+1,⟨by omega,d1⟩,by omega,?_⟩
    rw [d3]
    exact (zqu (fun q=>bif Nat.beq q 1 then 3 else q) (by repeat (first|exact trivial|refine ⟨⟨?_,?_,?_⟩,?_⟩|rfl|exact congrArg (fun q=>some (AO.row _ _ q)) (by first|rfl|(simp;done)|(simp [eInt];done)|(simp [eLk];done)))) rfl)
   ·have f3:LA < xc:=by omega
    clear hf
    refine zqg13 ?_
    refine WL.idx rfl rfl zqo hsat ?_
    refine zqg13 ?_
    refine W.of_wa zqk ?_
    refine WA.dt [false,false,false,false,false,false,false,false,false,false,false,false,false,true,true,false] [] [] 14 zqk zqk zqk trivial trivial ?_
    refine DTK.v0 rfl (stepV_of rfl rfl) ?_
    refine DTK.v0 rfl (stepV_of rfl rfl) ?_
    refine DTK.v0 rfl (stepV_of rfl rfl) ?_
    refine DTK.v0 rfl (idxV_of rfl zqo hsat) ?_
    refine DTK.v0 rfl (stepV_of rfl rfl) ?_
    refine DTK.v0 rfl (stepV_of rfl rfl) ?_
    refine DTK.v0 rfl (stepV_of rfl rfl) ?_
    refine DTK.v0 rfl (idxV_of rfl zqo hwat) ?_
    refine DTK.v0 rfl (stepV_of rfl rfl) ?_
    refine DTK.v0 rfl (zqc Tryz.func229 hpc) ?_
    refine DTK.v0 rfl (stepV_of rfl rfl) ?_
    refine DTK.v0 rfl (stepV_of rfl rfl) ?_
    refine DTK.v0 rfl (stepV_of rfl rfl) ?_
    refine DTK.al rfl rfl rfl rfl trivial (fun _=>trivial) ?_
    refine DTK.sto rfl rfl rfl rfl rfl rfl rfl rfl rfl rfl rfl rfl rfl rfl trivial (fun h=>by cases h) ?_
    refine DTK.v0 rfl (stepV_of rfl rfl) ?_
    refine DTK.nil ?_
    refine zqg13 ?_
    refine WL.idx rfl rfl zqo hsat ?_
    refine zqg13 ?_
    refine WL.cto (truH _) [] rfl rfl (callF Tryz.func230 rfl rfl) hi rfl rfl rfl trivial rfl rfl rfl rfl ?_
    refine zqg13 ?_
    refine ⟨k+1,⟨by omega,d1⟩,by omega,?_⟩
    rw [d3]
    exact (zqu (fun q=>bif Nat.beq q 1 then 3 else q) (by repeat (first|exact trivial|refine ⟨⟨?_,?_,?_⟩,?_⟩|rfl|exact congrArg (fun q=>some (AO.row _ _ q)) (by first|rfl|(simp;done)|(simp [eInt];done)|(simp [eLk];done)))) rfl)
theorem rChord_U (s:Int)(hs:1≤s∧s≤4)(cs:List Crs)(st:List Int)(hcs:cs.length≤64)(words:List (List UInt8))(hw:words.length≤390000)(hwl:∀ w∈words,w.length≤400000) :
  Cto truB 0 Tryz.prog 169 [.sc (.int .u8 s),.ag (eIns cs st),.ls 1 (words.map eTx)] [] 0 (.tu [.sl 0,.sc (.bool (nr_ch s (nr_staff s cs) words).isSome)]) [(0,.row 69 5 ((((nr_ch s (nr_staff s cs) words).getD []).map rf_st).map eStp))] 1:=by
 by_cases hb:rf_bad s (nr_staff s cs) words.length
 ·exact rChord_bad s hs cs st hcs words zqo hb
 ·obtain⟨n6,n4⟩:=nr_staff_bd s cs
  have hn:=(rf_ok_ch hb).1
  by_cases s2:s=2
  ·subst s2
   exact rChord_ok 2 hs cs st hcs words hw hwl hb (rf_ch_dn hn n6)
  ·exact rChord_ok s hs cs st hcs words hw hwl hb (rf_ch_up s2 hn n6 n4)
end
section
open Go.RowKit
def rf_yt (s:Int)(bar:Bool):List (List UInt8)→NC
 | sg::_::_=>match scanT (tmM s sg) 0 8 with
  | some x=>⟨bar,x.1,x.2,false,[]⟩
  | none=>⟨bar,0,0,false,[]⟩
 | _=>⟨bar,0,0,false,[]⟩
def rf_y (s:Int)(t:List UInt8):NC :=
 match rq_wds 32 t with
 | w::r=>if w=[124]then rf_yt s true r else rf_yt s false (w::r)
 | []=>⟨false,0,0,false,[]⟩
def rf_evA (x:NC)(q:Nat):AV:=.ag [.sc (.bool x.bar),.sc (.int .i64 (x.v:Int)),.sc (.bool (sgD x.i)),.sc (.bool (sgT x.i)),.sc (.bool x.tie),.sl q]
def rf_rw (x:NC):List (List AV):=(x.l.map rf_st).map eStp
def rf_fX(o:Option NC)(y:NC):NC:=o.getD y
theorem rForm_G (s:Int) (hs:1≤s∧s≤4) (cs:List Crs) (st:List Int) (hcs:cs.length≤64) (t:List UInt8) (ht:t.length≤300000) :
  Cto truB 0 Tryz.prog 101 [.sc (.int .u8 s),.ag (eIns cs st),.sc (.string (bs t))] [] 0 (.tu [rf_evA (rf_fX (nr_form s (nr_staff s cs) t) (rf_y s t)) 0,.sc (.bool (nr_form s (nr_staff s cs) t).isSome)])
   [(0,.row 69 5 (rf_rw (rf_fX (nr_form s (nr_staff s cs) t) (rf_y s t))))] 2:=by
 have hW:=rWords_FS t zqo
 have hwb:=rq_wds_bytes 32 t
 have hwl:(rq_wds 32 t).length≤300001:=by
  rw [rq_wds_len,Lib.count_one]
  have:=List.count_le_length (a:=(32:UInt8)) (l:=t)
  omega
 unfold nr_form rf_y
 obtain ⟨ws,hws⟩:∃ z,rq_wds 32 t=z:=⟨_,rfl⟩
 rw [hws] at hW hwb hwl ⊢
 have hne:ws≠[]:=by rw [← hws];unfold rq_wds;simp
 obtain ⟨w,r,rfl⟩:∃ w r,ws=w::r:=by
  cases ws with
  | nil=>exact absurd rfl hne
  | cons w r=>exact ⟨w,r,rfl⟩
 clear hne hws
 dsimp only
 unfold eIns
 have hrl:r.length≤300000:=by simp at hwl;omega
 have hml:((w::r).map eTx).length=r.length+1:=by simp
 refine Cto.intro truS Tryz.func101 rfl Tryz.ntmps101 (Nat.le_of_ble_eq_true rfl) rfl fun w0 F0 fp pg hB=>?_
 dsimp only [number,Nat.reduceAdd]
 refine zqg14 ?_
 refine WL.vl rfl (zqc Tryz.func97 hW) ?_
 refine zqg14 ?_
 refine WL.idx rfl rfl zqo (show ((w::r).map eTx)[Int.toNat 0]?=some (eTx w) from rfl) ?_
 refine zqg14 ?_
 obtain ⟨bB,W1,hbW,hform,hyt⟩:∃ bB W1,(w=[124]∧bB=true∧W1=r∨w≠[124]∧bB=false∧W1=w::r)∧(if w=[124] then nr_time s (nr_staff s cs) true r else nr_time s (nr_staff s cs) false (w::r))=nr_time s (nr_staff s cs) bB W1∧(if w=[124] then rf_yt s true r else rf_yt s false (w::r))=rf_yt s bB W1:=by
  by_cases e:w=[124]
  ·exact ⟨true,r,.inl ⟨e,rfl,rfl⟩,if_pos e,if_pos e⟩
  ·exact ⟨false,w::r,.inr ⟨e,rfl,rfl⟩,if_neg e,if_neg e⟩
 rw [hform,hyt]
 have hW1b:∀ x∈W1,x.length≤300000:=fun x hx=>by
  rcases hbW with ⟨_,_,e⟩|⟨_,_,e⟩
  ·have:=hwb x (by rw [e] at hx;simp [hx]);omega
  ·have:=hwb x (by rw [e] at hx;exact hx);omega
 have hW1l:W1.length≤300001:=by
  rcases hbW with ⟨_,_,e⟩|⟨_,_,e⟩
  ·rw [e];omega
  ·rw [e];simp;omega
 refine W.meet ⟨[(0,.sc (.int .u8 s)),(4,.pt 0 0 0),(6,.pt 1 0 0),(8,.ls 1 (W1.map eTx)),(9,.pt 2 0 0)],[(0,.box 27 [.ls 3 (cs.map eCrs),.ls 1 (st.map eInt)]),(1,.box 90 [.sc (.bool false),.sc (.int .i64 0),.sc (.bool false),.sc (.bool false),.sc (.bool false),.sc (.slice none 0 0)]),(2,.box 90 [.sc (.bool bB),.sc (.int .i64 0),.sc (.bool false),.sc (.bool false),.sc (.bool false),.sc (.slice none 0 0)])],3⟩ ?_ ?_
 ·rcases hbW with ⟨e,rfl,rfl⟩|⟨e,rfl,rfl⟩
  ·have hb:(w == ([124]:List UInt8))=true:=by rw [e];rfl
   have hp:prt ((w::W1).map eTx) 1 (((w::W1).map eTx).length:Int)=W1.map eTx:=by
    unfold prt
    rw [Int.toNat_natCast,List.take_length];rfl
   rw [hb]
   refine zqg14 ?_
   refine WL.part_ rfl rfl ⟨by omega,by rw [hml];omega,by omega⟩ hp ?_
   refine zqg14 ?_
   refine (?_:Tr _ _ _)
   exact (zqt id)
  ·have hb:(w == ([124]:List UInt8))=false:=by simpa using e
   rw [hb]
   refine zqg14 ?_
   refine (?_:Tr _ _ _)
   exact (zqt id)
 clear hbW hwb hwl hml hform hyt hW
 match W1,hW1b,hW1l with
 | [],_,_ =>
  unfold nr_time rf_yt rf_fX rf_rw rf_evA
  dsimp only
  refine zqg14 ?_
  refine W.tr (Tr.nilBox 69 5 (k:=1) (j:=5) rfl rfl rfl rfl) ?_
  exact W.ret (finTrL (σ':=⟨[(6,.pt 1 0 0),(7,.sc (.bool false))],[(0,.row 69 5 []),(1,.box 90 [.sc (.bool bB),.sc (.int .i64 0),.sc (.bool false),.sc (.bool false),.sc (.bool false),.sl 0])],2⟩) (zqu (fun q=>bif Nat.beq q 0 then 3 else q) (by repeat (first|exact trivial|refine ⟨⟨?_,?_,?_⟩,?_⟩|rfl|exact congrArg (fun q=>some (AO.row _ _ q)) (by first|rfl|(simp;done)|(simp [eInt];done)|(simp [eLk];done)))) rfl) (finMs rfl rfl rfl ⟨rfl,trivial⟩ rfl))
 | [x],_,_ =>
  have hml:(([x]:List (List UInt8)).map eTx).length=1:=rfl
  unfold nr_time rf_yt rf_fX rf_rw rf_evA
  dsimp only
  refine zqg14 ?_
  refine W.tr (Tr.nilBox 69 5 (k:=1) (j:=5) rfl rfl rfl rfl) ?_
  exact W.ret (finTrL (σ':=⟨[(6,.pt 1 0 0),(7,.sc (.bool false))],[(0,.row 69 5 []),(1,.box 90 [.sc (.bool bB),.sc (.int .i64 0),.sc (.bool false),.sc (.bool false),.sc (.bool false),.sl 0])],2⟩) (zqu (fun q=>bif Nat.beq q 0 then 3 else q) (by repeat (first|exact trivial|refine ⟨⟨?_,?_,?_⟩,?_⟩|rfl|exact congrArg (fun q=>some (AO.row _ _ q)) (by first|rfl|(simp;done)|(simp [eInt];done)|(simp [eLk];done)))) rfl) (finMs rfl rfl rfl ⟨rfl,trivial⟩ rfl))
 | sg::w1::r1,hW1b,hW1l =>
 have hml:((sg::w1::r1).map eTx).length=r1.length+2:=by simp
 have hr1l:r1.length≤300000:=by simp at hW1l;omega
 have hpt:=rptm_FS s hs sg
 have hat0:((sg::w1::r1).map eTx)[Int.toNat 0]?=some (eTx sg):=rfl
 cases hsc:scanT (tmM s sg) 0 8 with
 | none =>
  have hnt:nr_time s (nr_staff s cs) bB (sg::w1::r1)=none:=by show (scanT (tmM s sg) 0 8).bind _=_;rw [hsc];rfl
  have hnt2:rf_yt s bB (sg::w1::r1)=⟨bB,0,0,false,[]⟩:=by unfold rf_yt;dsimp only;rw [hsc]
  rw [hnt,hnt2]
  rw [hsc] at hpt
  unfold ptT at hpt
  unfold rf_fX rf_rw rf_evA
  try dsimp only
  refine zqg14 ?_
  refine WL.idx rfl rfl zqo hat0 ?_
  refine zqg14 ?_
  refine WL.vl rfl (zqc Tryz.func168 hpt) ?_
  refine zqg14 ?_
  refine W.tr (Tr.nilBox 69 5 (k:=1) (j:=5) rfl rfl rfl rfl) ?_
  exact W.ret (finTrL (σ':=⟨[(6,.pt 1 0 0),(7,.sc (.bool false))],[(0,.row 69 5 []),(1,.box 90 [.sc (.bool bB),.sc (.int .i64 0),.sc (.bool false),.sc (.bool false),.sc (.bool false),.sl 0])],2⟩) (zqu (fun q=>bif Nat.beq q 0 then 4 else q) (by repeat (first|exact trivial|refine ⟨⟨?_,?_,?_⟩,?_⟩|rfl|exact congrArg (fun q=>some (AO.row _ _ q)) (by first|rfl|(simp;done)|(simp [eInt];done)|(simp [eLk];done)))) rfl) (finMs rfl rfl rfl ⟨rfl,trivial⟩ rfl))
 | some vi =>
 obtain ⟨v,i⟩:=vi
 have hnt:nr_time s (nr_staff s cs) bB (sg::w1::r1)=nr_body s (nr_staff s cs) bB v i (w1::r1):=by show (scanT (tmM s sg) 0 8).bind _=_;rw [hsc];rfl
 have hnt2:rf_yt s bB (sg::w1::r1)=⟨bB,v,i,false,[]⟩:=by unfold rf_yt;dsimp only;rw [hsc]
 rw [hnt,hnt2]
 rw [hsc] at hpt
 unfold ptT at hpt
 dsimp only at hpt
 have hp9:prt ((sg::w1::r1).map eTx) 1 (((sg::w1::r1).map eTx).length:Int)=(w1::r1).map eTx:=by
  unfold prt
  rw [Int.toNat_natCast,List.take_length];rfl
 have hch:=rChord_U s hs cs st hcs (w1::r1) (by simp;omega) (fun x hx=>by have:=hW1b x (List.mem_cons_of_mem _ hx);omega)
 unfold eIns at hch
 obtain ⟨sD,hsD⟩:∃ z,sgD i=z:=⟨_,rfl⟩
 obtain ⟨sT,hsT⟩:∃ z,sgT i=z:=⟨_,rfl⟩
 rw [hsD,hsT] at hpt
 refine zqg14 ?_
 refine WL.idx rfl rfl zqo hat0 ?_
 refine zqg14 ?_
 refine WL.vl rfl (zqc Tryz.func168 hpt) ?_
 refine zqg14 ?_
 refine WL.part_ rfl rfl ⟨by omega,by rw [hml];omega,by omega⟩ hp9 ?_
 refine zqg14 ?_
 clear hpt hat0 hp9 hsc hnt hnt2
 obtain ⟨b1,hb1⟩:∃ b,decide (w1::r1=[[126]]∧s≠4)=b:=⟨_,rfl⟩
 obtain ⟨b2,hb2⟩:∃ b,decide (w1::r1=[[37]]∧s≠3)=b:=⟨_,rfl⟩
 have hat1:((w1::r1).map eTx)[Int.toNat 0]?=some (eTx w1):=rfl
 have hl1:((w1::r1).map eTx).length=r1.length+1:=by simp
 have hB1:b1=(decide (r1=[]) && ((w1 == [126]) && decide (s≠4))):=by
  rw [← hb1,Bool.eq_iff_iff];simp [and_assoc,and_comm,and_left_comm]
 have hB2:b2=(decide (r1=[]) && ((w1 == [37]) && decide (s≠3))):=by
  rw [← hb2,Bool.eq_iff_iff];simp [and_assoc,and_comm,and_left_comm]
 have hbody:nr_body s (nr_staff s cs) bB v i (w1::r1)=if b1=true then some ⟨bB,v,i,true,[]⟩ else if b2=true then some ⟨bB,v,i,false,[]⟩ else (nr_ch s (nr_staff s cs) (w1::r1)).map fun l=>⟨bB,v,i,false,l⟩:=by
  unfold nr_body
  rw [← hb1,← hb2]
  simp only [decide_eq_true_eq]
 rw [hbody]
 obtain ⟨CH,hCH⟩:∃ z,nr_ch s (nr_staff s cs) (w1::r1)=z:=⟨_,rfl⟩
 rw [hCH] at hch ⊢
 obtain ⟨R1,hR1⟩:∃ z,(w1::r1).map eTx=z:=⟨_,rfl⟩
 rw [hR1] at hat1 hl1 hch ⊢
 have hd1:r1≠[]→decide ((r1.length:Int)+1=1)=false:=fun h=>by
  have:0 < r1.length:=by cases r1 with
   | nil=>exact absurd rfl h
   | cons=>simp
  exact decide_eq_false zqo
 have hd2:r1=[]→decide ((r1.length:Int)+1=1)=true:=fun h=>by rw [h];rfl
 clear hbody
 refine WL.meetT ⟨[(0,.sc (.int .u8 s)),(4,.pt 0 0 0),(6,.pt 1 0 0),(8,.ls 1 R1),(9,.pt 2 0 0),(55,.sc (.bool b1))],[(0,.box 27 [.ls 3 (cs.map eCrs),.ls 1 (st.map eInt)]),(1,.box 90 [.sc (.bool false),.sc (.int .i64 0),.sc (.bool false),.sc (.bool false),.sc (.bool false),.sc (.slice none 0 0)]),(2,.box 90 [.sc (.bool bB),.sc (.int .i64 (v:Int)),.sc (.bool sD),.sc (.bool sT),.sc (.bool false),.sc (.slice none 0 0)])],4⟩ ?_ ?_
 ·rw [hl1,Int.natCast_add,Int.natCast_one,hB1]
  clear hB1 hB2 hb1 hb2 hch
  by_cases hr:r1=[]
  ·rw [hd2 hr,decide_eq_true hr]
   refine zqg14 ?_
   refine WL.idx rfl rfl zqo hat1 ?_
   refine zqg14 ?_
   by_cases e:(w1 == ([126]:List UInt8))=true
   ·rw [e]
    by_cases s4:s=4
    ·subst s4
     refine zqg14 ?_
     refine (?_:Tr _ _ _)
     exact (zqt id)
    ·rw [decide_eq_true s4]
     refine zqg14 ?_
     refine (?_:Tr _ _ _)
     exact (zqt id)
   ·rw [Bool.eq_false_iff.2 e]
    refine zqg14 ?_
    refine (?_:Tr _ _ _)
    exact (zqt id)
  ·rw [hd1 hr,decide_eq_false hr]
   refine zqg14 ?_
   refine (?_:Tr _ _ _)
   exact (zqt id)
 cases b1 with
 | true =>
  rw [if_pos rfl]
  unfold rf_fX rf_rw rf_evA
  dsimp only [Option.getD,Option.isSome]
  rw [hsD,hsT]
  refine zqg14 ?_
  refine W.tr (Tr.nilBox 69 5 (k:=1) (j:=5) rfl rfl rfl rfl) ?_
  exact W.ret (finTrL (σ':=⟨[(6,.pt 1 0 0),(7,.sc (.bool true))],[(0,.row 69 5 []),(1,.box 90 [.sc (.bool bB),.sc (.int .i64 (v:Int)),.sc (.bool sD),.sc (.bool sT),.sc (.bool true),.sl 0])],2⟩) (zqu (fun q=>bif Nat.beq q 0 then 4 else q) (by repeat (first|exact trivial|refine ⟨⟨?_,?_,?_⟩,?_⟩|rfl|exact congrArg (fun q=>some (AO.row _ _ q)) (by first|rfl|(simp;done)|(simp [eInt];done)|(simp [eLk];done)))) rfl) (finMs rfl rfl rfl ⟨rfl,trivial⟩ rfl))
 | false =>
 rw [if_neg (by decide)]
 refine zqg14 ?_
 refine WL.meetT ⟨[(0,.sc (.int .u8 s)),(4,.pt 0 0 0),(6,.pt 1 0 0),(8,.ls 1 R1),(9,.pt 2 0 0),(70,.sc (.bool b2))],[(0,.box 27 [.ls 3 (cs.map eCrs),.ls 1 (st.map eInt)]),(1,.box 90 [.sc (.bool false),.sc (.int .i64 0),.sc (.bool false),.sc (.bool false),.sc (.bool false),.sc (.slice none 0 0)]),(2,.box 90 [.sc (.bool bB),.sc (.int .i64 (v:Int)),.sc (.bool sD),.sc (.bool sT),.sc (.bool false),.sc (.slice none 0 0)])],4⟩ ?_ ?_
 ·rw [hl1,Int.natCast_add,Int.natCast_one,hB2]
  clear hB1 hB2 hb1 hb2 hch
  by_cases hr:r1=[]
  ·rw [hd2 hr,decide_eq_true hr]
   refine zqg14 ?_
   refine WL.idx rfl rfl zqo hat1 ?_
   refine zqg14 ?_
   by_cases e:(w1 == ([37]:List UInt8))=true
   ·rw [e]
    by_cases s4:s=3
    ·subst s4
     refine zqg14 ?_
     refine (?_:Tr _ _ _)
     exact (zqt id)
    ·rw [decide_eq_true s4]
     refine zqg14 ?_
     refine (?_:Tr _ _ _)
     exact (zqt id)
   ·rw [Bool.eq_false_iff.2 e]
    refine zqg14 ?_
    refine (?_:Tr _ _ _)
    exact (zqt id)
  ·rw [hd1 hr,decide_eq_false hr]
   refine zqg14 ?_
   refine (?_:Tr _ _ _)
   exact (zqt id)
 cases b2 with
 | true =>
  rw [if_pos rfl]
  unfold rf_fX rf_rw rf_evA
  dsimp only [Option.getD,Option.isSome]
  rw [hsD,hsT]
  refine zqg14 ?_
  refine W.tr (Tr.nilBox 69 5 (k:=1) (j:=5) rfl rfl rfl rfl) ?_
  exact W.ret (finTrL (σ':=⟨[(6,.pt 1 0 0),(7,.sc (.bool true))],[(0,.row 69 5 []),(1,.box 90 [.sc (.bool bB),.sc (.int .i64 (v:Int)),.sc (.bool sD),.sc (.bool sT),.sc (.bool false),.sl 0])],2⟩) (zqu (fun q=>bif Nat.beq q 0 then 4 else q) (by repeat (first|exact trivial|refine ⟨⟨?_,?_,?_⟩,?_⟩|rfl|exact congrArg (fun q=>some (AO.row _ _ q)) (by first|rfl|(simp;done)|(simp [eInt];done)|(simp [eLk];done)))) rfl) (finMs rfl rfl rfl ⟨rfl,trivial⟩ rfl))
 | false =>
 rw [if_neg (by decide)]
 cases CH with
 | none =>
  have hc:=hch
  unfold rf_fX rf_rw rf_evA
  dsimp only [Option.getD,Option.isSome,Option.map]
  rw [hsD,hsT]
  refine zqg14 ?_
  refine WL.cto (truH _) [] rfl rfl (callF Tryz.func169 rfl rfl) hc rfl rfl rfl trivial rfl rfl rfl rfl ?_
  refine zqg14 ?_
  exact W.ret (finTrL (σ':=⟨[(6,.pt 1 0 0),(7,.sc (.bool false))],[(0,.row 69 5 []),(1,.box 90 [.sc (.bool bB),.sc (.int .i64 (v:Int)),.sc (.bool sD),.sc (.bool sT),.sc (.bool false),.sl 0])],2⟩) (zqu (fun q=>bif Nat.beq q 0 then 4 else q) (by repeat (first|exact trivial|refine ⟨⟨?_,?_,?_⟩,?_⟩|rfl|exact congrArg (fun q=>some (AO.row _ _ q)) (by first|rfl|(simp;done)|(simp [eInt];done)|(simp [eLk];done)))) rfl) (finMs rfl rfl rfl ⟨rfl,trivial⟩ rfl))
 | some l =>
  have hc:=hch
  dsimp only [Option.getD,Option.isSome] at hc
  unfold rf_fX rf_rw rf_evA
  dsimp only [Option.getD,Option.isSome,Option.map]
  rw [hsD,hsT]
  obtain ⟨RL,hRL⟩:∃ z,(l.map rf_st).map eStp=z:=⟨_,rfl⟩
  rw [hRL] at hc ⊢
  refine zqg14 ?_
  refine WL.cto (truH _) [] rfl rfl (callF Tryz.func169 rfl rfl) hc rfl rfl rfl trivial rfl rfl rfl rfl ?_
  refine zqg14 ?_
  exact W.ret (finTrL (σ':=⟨[(6,.pt 1 0 0),(7,.sc (.bool true))],[(0,.row 69 5 RL),(1,.box 90 [.sc (.bool bB),.sc (.int .i64 (v:Int)),.sc (.bool sD),.sc (.bool sT),.sc (.bool false),.sl 0])],2⟩) (zqu (fun q=>bif Nat.beq q 0 then 4 else q) (by repeat (first|exact trivial|refine ⟨⟨?_,?_,?_⟩,?_⟩|rfl|exact congrArg (fun q=>some (AO.row _ _ q)) (by first|rfl|(simp;done)|(simp [eInt];done)|(simp [eLk];done)))) rfl) (finMs rfl rfl rfl ⟨rfl,trivial⟩ rfl))
end
section
open Go.RowKit
theorem nr_time_bd {s:Int} {n:Nat} {bar:Bool} {W:List (List UInt8)} {x:NC} (h:nr_time s n bar W=some x):(∀ y∈x.l,1≤y.1∧y.1≤14∧y.2.1≤18)∧x.l.length≤14:=by
 unfold nr_time at h
 split at h
 ·obtain⟨y,_,hy⟩:=Option.bind_eq_some_iff.1 h
  exact⟨(nr_body_bd hy).2.2.2.1,(nr_body_bd hy).2.2.2.2⟩
 ·cases h
theorem nr_form_bd {s:Int} {n:Nat} {t:List UInt8} {x:NC} (h:nr_form s n t=some x):(∀ y∈x.l,1≤y.1∧y.1≤14∧y.2.1≤18)∧x.l.length≤14:=by
 unfold nr_form at h
 split at h
 ·split at h
  ·exact nr_time_bd h
  ·exact nr_time_bd h
 ·cases h
theorem rEvent_G (s:Int) (hs:1≤s∧s≤4) (cs:List Crs) (st:List Int) (hcs:cs.length≤64) (k:Nat) (hk9:k≤1000000) (t:List UInt8) (ht:t.length≤300000) :
  Cto truB 0 Tryz.prog 46 [.sc (.int .u8 s),.ag (eIns cs st),.sc (.int .i64 (k:Int)),.sc (.string (bs t))] [] 0 (.tu [rf_evA (rf_fX (nr_form s (nr_staff s cs) t) (rf_y s t)) 0,.sc (.int .i64 (nr_err s cs k t))])
   [(0,.row 69 5 (rf_rw (rf_fX (nr_form s (nr_staff s cs) t) (rf_y s t))))] 2:=by
 have hf:=rForm_G s hs cs st hcs t ht
 have hbd:∀ x,nr_form s (nr_staff s cs) t=some x→(∀ y∈x.l,1≤y.1∧y.1≤14∧y.2.1≤18)∧x.l.length≤14:=fun x h=>nr_form_bd (s:=s) (n:=nr_staff s cs) (t:=t) (x:=x) h
 unfold nr_err
 obtain ⟨O,hO⟩:∃ z,nr_form s (nr_staff s cs) t=z:=⟨_,rfl⟩
 obtain ⟨Y,hY⟩:∃ z,rf_y s t=z:=⟨_,rfl⟩
 rw [hO,hY] at hf
 rw [hO] at hbd
 rw [hO,hY]
 clear hO hY
 have hcl:(cs.map eCrs).length=cs.length:=List.length_map _
 have hcat:∀ q:Nat,1≤q→q≤cs.length→(cs.map eCrs)[((q:Int) - 1).toNat]?=some [.sc (.int .i64 (cs.getD (q - 1) (0,0,false)).1),.sc (.int .i64 (cs.getD (q - 1) (0,0,false)).2.1),.sc (.bool (cs.getD (q - 1) (0,0,false)).2.2)]:=fun q h1 h2=>by
  rw [show ((q:Int) - 1).toNat=q - 1 by omega,List.getElem?_map,List.getD_eq_getElem?_getD,List.getElem?_eq_getElem (by omega)];rfl
 unfold eIns at hf ⊢
 obtain ⟨CR,hCR⟩:∃ z,cs.map eCrs=z:=⟨_,rfl⟩
 rw [hCR] at hf hcl hcat ⊢
 cases O with
 | none =>
  unfold rf_fX rf_evA at hf ⊢
  dsimp only [Option.getD,Option.isSome] at hf ⊢
  obtain ⟨RW,hRW⟩:∃ z,rf_rw Y=z:=⟨_,rfl⟩
  rw [hRW] at hf ⊢
  obtain ⟨bar,v,i,tie,l⟩:=Y
  dsimp only at hf ⊢
  refine Cto.intro truS Tryz.func46 rfl Tryz.ntmps46 (Nat.le_of_ble_eq_true rfl) rfl fun w0 F0 fp pg hB=>?_
  dsimp only [number,Nat.reduceAdd]
  refine zqg15 ?_
  refine WL.cto (truH _) [] rfl rfl (callF Tryz.func101 rfl rfl) hf rfl rfl rfl trivial rfl rfl rfl rfl ?_
  refine zqg15 ?_
  exact W.ret (finTrL (σ':=⟨[(8,.pt 1 0 0),(9,.sc (.int .i64 4))],[(0,.row 69 5 RW),(1,.box 90 [.sc (.bool bar),.sc (.int .i64 (v:Int)),.sc (.bool (sgD i)),.sc (.bool (sgT i)),.sc (.bool tie),.sl 0])],2⟩) (zqu (fun q=>bif Nat.beq q 0 then 2 else q) (by repeat (first|exact trivial|refine ⟨⟨?_,?_,?_⟩,?_⟩|rfl|exact congrArg (fun q=>some (AO.row _ _ q)) (by first|rfl|(simp;done)|(simp [eInt];done)|(simp [eLk];done)))) rfl) (finMs rfl rfl rfl ⟨rfl,trivial⟩ rfl))
 | some X =>
 obtain ⟨b1,b2⟩:=hbd X rfl
 have hr0:∀ j (h:j < X.l.length),(rf_rw X)[j]?=some (eStp (rf_st X.l[j])):=fun j h=>by
  unfold rf_rw
  rw [List.getElem?_map,List.getElem?_map,List.getElem?_eq_getElem h];rfl
 have hrl:(rf_rw X).length=X.l.length:=by unfold rf_rw;rw [List.length_map,List.length_map]
 unfold rf_fX rf_evA at hf ⊢
 dsimp only [Option.getD,Option.isSome] at hf ⊢
 unfold nr_chk
 obtain ⟨RW,hRW⟩:∃ z,rf_rw X=z:=⟨_,rfl⟩
 rw [hRW] at hf hr0 hrl ⊢
 obtain ⟨bar,v,i,tie,l⟩:=X
 dsimp only at hf hr0 hrl b1 b2 ⊢
 obtain ⟨sD,hsD⟩:∃ z,sgD i=z:=⟨_,rfl⟩
 obtain ⟨sT,hsT⟩:∃ z,sgT i=z:=⟨_,rfl⟩
 rw [hsD,hsT] at hf ⊢
 refine Cto.intro truS Tryz.func46 rfl Tryz.ntmps46 (Nat.le_of_ble_eq_true rfl) rfl fun w0 F0 fp pg hB=>?_
 dsimp only [number,Nat.reduceAdd]
 refine zqg15 ?_
 refine WL.cto (truH _) [] rfl rfl (callF Tryz.func101 rfl rfl) hf rfl rfl rfl trivial rfl rfl rfl rfl ?_
 refine zqg15 ?_
 refine WL.meetT ⟨[(2,.sc (.int .i64 (k:Int))),(5,.pt 0 0 0),(8,.pt 1 0 0),(10,.pt 4 0 0),(31,.sc (.bool (decide (k=0∧v=0))))],[(0,.box 27 [.ls 3 CR,.ls 1 (st.map eInt)]),(1,.box 90 [.sc (.bool false),.sc (.int .i64 0),.sc (.bool false),.sc (.bool false),.sc (.bool false),.sc (.slice none 0 0)]),(2,.row 69 5 RW),(4,.box 90 [.sc (.bool bar),.sc (.int .i64 (v:Int)),.sc (.bool sD),.sc (.bool sT),.sc (.bool tie),.sl 2])],5⟩ ?_ ?_
 ·by_cases k0:k=0
  ·by_cases v0:v=0
   ·rw [decide_eq_true (show (k:Int)=0 by omega),decide_eq_true (show k=0∧v=0 from ⟨k0,v0⟩)]
    refine zqg15 ?_
    refine (?_:Tr _ _ _)
    exact (zqt id)
   ·rw [decide_eq_true (show (k:Int)=0 by omega),decide_eq_false (show ¬ (k=0∧v=0) from fun q=>v0 q.2)]
    refine zqg15 ?_
    refine (?_:Tr _ _ _)
    exact (zqt id)
  ·rw [decide_eq_false (show ¬ (k:Int)=0 by omega),decide_eq_false (show ¬ (k=0∧v=0) from fun q=>k0 q.1)]
   refine zqg15 ?_
   refine (?_:Tr _ _ _)
   exact (zqt id)
 by_cases c20:k=0∧v=0
 ·rw [decide_eq_true c20,if_pos (show (k == 0)=true∧v=0 from ⟨by simpa using c20.1,c20.2⟩)]
  refine zqg15 ?_
  exact W.ret (finTrL (σ':=⟨[(8,.pt 1 0 0),(9,.sc (.int .i64 20))],[(0,.row 69 5 RW),(1,.box 90 [.sc (.bool bar),.sc (.int .i64 (v:Int)),.sc (.bool sD),.sc (.bool sT),.sc (.bool tie),.sl 0])],2⟩) (zqu (fun q=>bif Nat.beq q 0 then 2 else q) (by repeat (first|exact trivial|refine ⟨⟨?_,?_,?_⟩,?_⟩|rfl|exact congrArg (fun q=>some (AO.row _ _ q)) (by first|rfl|(simp;done)|(simp [eInt];done)|(simp [eLk];done)))) rfl) (finMs rfl rfl rfl ⟨rfl,trivial⟩ rfl))
 rw [decide_eq_false c20,if_neg (show ¬ ((k == 0)=true∧v=0) from fun q=>c20 ⟨by simpa using q.1,q.2⟩)]
 refine zqg15 ?_
 refine WL.meetT ⟨[(2,.sc (.int .i64 (k:Int))),(5,.pt 0 0 0),(8,.pt 1 0 0),(10,.pt 4 0 0),(38,.sc (.bool ((k == 0) && tie)))],[(0,.box 27 [.ls 3 CR,.ls 1 (st.map eInt)]),(1,.box 90 [.sc (.bool false),.sc (.int .i64 0),.sc (.bool false),.sc (.bool false),.sc (.bool false),.sc (.slice none 0 0)]),(2,.row 69 5 RW),(4,.box 90 [.sc (.bool bar),.sc (.int .i64 (v:Int)),.sc (.bool sD),.sc (.bool sT),.sc (.bool tie),.sl 2])],5⟩ ?_ ?_
 ·by_cases k0:k=0
  ·rw [decide_eq_true (show (k:Int)=0 by omega),show (k == 0)=true by simpa using k0]
   refine zqg15 ?_
   refine (?_:Tr _ _ _)
   exact (zqt id)
  ·rw [decide_eq_false (show ¬ (k:Int)=0 by omega),show (k == 0)=false by simpa using k0]
   refine zqg15 ?_
   refine (?_:Tr _ _ _)
   exact (zqt id)
 cases hkt:((k == 0) && tie) with
 | true =>
  rw [if_pos rfl]
  refine zqg15 ?_
  exact W.ret (finTrL (σ':=⟨[(8,.pt 1 0 0),(9,.sc (.int .i64 21))],[(0,.row 69 5 RW),(1,.box 90 [.sc (.bool bar),.sc (.int .i64 (v:Int)),.sc (.bool sD),.sc (.bool sT),.sc (.bool tie),.sl 0])],2⟩) (zqu (fun q=>bif Nat.beq q 0 then 2 else q) (by repeat (first|exact trivial|refine ⟨⟨?_,?_,?_⟩,?_⟩|rfl|exact congrArg (fun q=>some (AO.row _ _ q)) (by first|rfl|(simp;done)|(simp [eInt];done)|(simp [eLk];done)))) rfl) (finMs rfl rfl rfl ⟨rfl,trivial⟩ rfl))
 | false =>
 rw [if_neg (by decide)]
 refine zqg15 ?_
 refine W.loop (fun j:Nat=>j≤l.length∧∀ q (h:q < l.length),q < j→nr_note cs l[q]=0) (fun j=>⟨[(5,.pt 0 0 0),(8,.pt 1 0 0),(10,.pt 4 0 0),(12,.sc (.int .i64 (j:Int)))],[(0,.box 27 [.ls 3 CR,.ls 1 (st.map eInt)]),(1,.box 90 [.sc (.bool false),.sc (.int .i64 0),.sc (.bool false),.sc (.bool false),.sc (.bool false),.sc (.slice none 0 0)]),(2,.row 69 5 RW),(4,.box 90 [.sc (.bool bar),.sc (.int .i64 (v:Int)),.sc (.bool sD),.sc (.bool sT),.sc (.bool tie),.sl 2])],5⟩) (fun j=>l.length - j) 0 ⟨by omega,fun q h h2=>absurd h2 zqo⟩ (zqt id) fun j hj=>?_
 obtain ⟨hj,hall⟩:=hj
 by_cases hlt:j < l.length
 rotate_left
 ·obtain rfl:j=l.length:=by omega
  rw [nr_notes_no fun q hq=>hall q hq hq]
  refine zqg15 ?_
  exact W.ret (finTrL (σ':=⟨[(8,.pt 1 0 0),(9,.sc (.int .i64 0))],[(0,.row 69 5 RW),(1,.box 90 [.sc (.bool bar),.sc (.int .i64 (v:Int)),.sc (.bool sD),.sc (.bool sT),.sc (.bool tie),.sl 0])],2⟩) (zqu (fun q=>bif Nat.beq q 0 then 2 else q) (by repeat (first|exact trivial|refine ⟨⟨?_,?_,?_⟩,?_⟩|rfl|exact congrArg (fun q=>some (AO.row _ _ q)) (by first|rfl|(simp;done)|(simp [eInt];done)|(simp [eLk];done)))) rfl) (finMs rfl rfl rfl ⟨rfl,trivial⟩ rfl))
 have hrow:=hr0 j hlt
 have hat:=nr_notes_at hlt hall
 have hb:=b1 _ (List.getElem_mem hlt)
 obtain ⟨PN,hPN⟩:∃ P:Prop,P=∀ q (h:q < l.length),q < j+1→nr_note cs l[q]=0:=⟨_,rfl⟩
 have hnx:nr_note cs l[j]=0→PN:=fun h=>by
  rw [hPN]
  intro q hq hqj
  by_cases e:q=j
  ·subst e;exact h
  ·exact hall q hq zqo
 obtain ⟨⟨c,f,r,g,h⟩,hx⟩:∃ z,l[j]=z:=⟨_,rfl⟩
 rw [hx] at hrow hat hb hnx
 unfold rf_st eStp at hrow
 unfold nr_note at hat hnx
 dsimp only at hrow hat hb hnx
 have hca:=hcat c zqo
 obtain ⟨p1,hp1⟩:∃ z,(cs.getD (c - 1) (0,0,false)).1=z:=⟨_,rfl⟩
 obtain ⟨p2,hp2⟩:∃ z,(cs.getD (c - 1) (0,0,false)).2.1=z:=⟨_,rfl⟩
 obtain ⟨p3,hp3⟩:∃ z,(cs.getD (c - 1) (0,0,false)).2.2=z:=⟨_,rfl⟩
 rw [hp1,hp2,hp3] at hca
 rw [hp2] at hat hnx
 obtain ⟨m,hm⟩:∃ z,cs.length=z:=⟨_,rfl⟩
 rw [hm] at hcl hca hat hnx hcs
 clear hcat hall hr0 b1 hp1 hp2 hp3 hm hf
 by_cases h12:m < c
 ·rw [if_pos h12] at hat hnx
  rw [hat (by decide)]
  refine zqg15 ?_
  refine WL.lda rfl rfl hrow rfl ?_
  refine zqg15 ?_
  exact W.ret (finTrL (σ':=⟨[(8,.pt 1 0 0),(9,.sc (.int .i64 12))],[(0,.row 69 5 RW),(1,.box 90 [.sc (.bool bar),.sc (.int .i64 (v:Int)),.sc (.bool sD),.sc (.bool sT),.sc (.bool tie),.sl 0])],2⟩) (zqu (fun q=>bif Nat.beq q 0 then 2 else q) (by repeat (first|exact trivial|refine ⟨⟨?_,?_,?_⟩,?_⟩|rfl|exact congrArg (fun q=>some (AO.row _ _ q)) (by first|rfl|(simp;done)|(simp [eInt];done)|(simp [eLk];done)))) rfl) (finMs rfl rfl rfl ⟨rfl,trivial⟩ rfl))
 rw [if_neg h12] at hat hnx
 have hca:=hca zqo
 by_cases h13:p2 < (f:Int)
 ·rw [if_pos h13] at hat hnx
  rw [hat (by decide)]
  refine zqg15 ?_
  refine WL.lda rfl rfl hrow rfl ?_
  refine zqg15 ?_
  refine W.drawK zqk zqk ?_
  repeat (first|refine DK.bt rfl rfl zqo ?_|refine DK.bf rfl rfl zqo ?_|refine DK.st rfl ?_|refine DK.ar rfl rfl (by unfold I64;omega) ?_|refine DK.nil ?_)
  refine DK.idx rfl rfl zqo hca ?_
  repeat (first|refine DK.bt rfl rfl zqo ?_|refine DK.bf rfl rfl zqo ?_|refine DK.st rfl ?_|refine DK.ar rfl rfl (by unfold I64;omega) ?_|refine DK.nil ?_)
  refine zqg15 ?_
  exact W.ret (finTrL (σ':=⟨[(8,.pt 1 0 0),(9,.sc (.int .i64 13))],[(0,.row 69 5 RW),(1,.box 90 [.sc (.bool bar),.sc (.int .i64 (v:Int)),.sc (.bool sD),.sc (.bool sT),.sc (.bool tie),.sl 0])],2⟩) (zqu (fun q=>bif Nat.beq q 0 then 2 else q) (by repeat (first|exact trivial|refine ⟨⟨?_,?_,?_⟩,?_⟩|rfl|exact congrArg (fun q=>some (AO.row _ _ q)) (by first|rfl|(simp;done)|(simp [eInt];done)|(simp [eLk];done)))) rfl) (finMs rfl rfl rfl ⟨rfl,trivial⟩ rfl))
 ·rw [if_neg h13] at hat hnx
  have hn2:=hnx rfl
  refine zqg15 ?_
  refine WL.lda rfl rfl hrow rfl ?_
  refine zqg15 ?_
  refine W.drawK zqk zqk ?_
  repeat (first|refine DK.bt rfl rfl zqo ?_|refine DK.bf rfl rfl zqo ?_|refine DK.st rfl ?_|refine DK.ar rfl rfl (by unfold I64;omega) ?_|refine DK.nil ?_)
  refine DK.idx rfl rfl zqo hca ?_
  repeat (first|refine DK.bt rfl rfl zqo ?_|refine DK.bf rfl rfl zqo ?_|refine DK.st rfl ?_|refine DK.ar rfl rfl (by unfold I64;omega) ?_|refine DK.nil ?_)
  refine zqg15 ?_
  exact ⟨j+1,⟨by omega,by rw [hPN] at hn2;exact hn2⟩,by omega,(zqt id)⟩
end
end Go.Proofs.YthehkchjdkdbiaaGreatDoor
