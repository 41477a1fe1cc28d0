/- The column of an event: the program's walk, over trees. -/
import Derived.Test.YthehkchjdkdbiaaGreatDoorCoAGq
set_option maxHeartbeats 4000000
set_option maxRecDepth 100000
set_option linter.unusedVariables false
set_option linter.unusedSimpArgs false
namespace Go.Proofs.YthehkchjdkdbiaaGreatDoor
open Go.RowKit
theorem headW_bar {s:Int} {e:Ev} (h:e.bar=true):headW s e=[[124],tW e.val (sgI e.dot e.three)]:=if_pos h
theorem headW_no {s:Int} {e:Ev} (h:e.bar=false):headW s e=[tW e.val (sgI e.dot e.three)]:=if_neg (by simp [h])
def fillL (n k:Nat):List (List UInt8):=(List.range n).map fun j=>if j<k then [45]else []
theorem fillL_zero (n:Nat):(fillL n 0).map eStr=List.replicate n [.sc (.string ⟨#[]⟩)]:=by
 unfold fillL
 rw [List.map_map]
 apply List.ext_getElem
 ·simp
 ·intro i h1 h2;simp [eStr,bs]
theorem fillL_len(n k:Nat):(fillL n k).length=n:=by simp [fillL]
theorem fillL_succ (n k:Nat)(h:k<n):(fillL n k).set k [45]=fillL n (k+1):=by
 unfold fillL
 apply List.ext_getElem
 ·simp
 ·intro i h1 h2
  rw [List.getElem_set]
  simp only [List.getElem_map,List.getElem_range]
  by_cases e:k=i
  ·rw [if_pos e,if_pos (by omega)]
  ·rw [if_neg e]
   by_cases e2:i<k
   ·rw [if_pos e2,if_pos (by omega)]
   ·rw [if_neg e2,if_neg (by omega)]
theorem fillL_all(s:Int)(L:Int→Nat)(n:Nat):fillL n n=staffL s L n []:=by
 rw [staffL_nil]
 unfold fillL
 apply List.ext_getElem
 ·simp
 ·intro i h1 h2
  have hi:i<n:=by simpa using h1
  simp [hi]
theorem headW_len(s:Int)(e:Ev):(headW s e).length≤2:=by unfold headW;split<;>simp
theorem staffN_le(s:Int)(p:Pce):staffN s p≤6:=by unfold staffN;split<;>omega
theorem staffL_len(s:Int)(L:Int→Nat)(n:Nat)(l:List Stp):(staffL s L n l).length=n:=by simp [staffL]
theorem tW_len (v:Int)(i:Nat)(h:0≤v∧v≤7):(tW v i).length≤2:=by
 unfold tW
 have hc:(cut tmLet (v-1) v).length≤1:=by simp only [cut,List.length_take,List.length_drop];omega
 split
 ·decide
 ·split
  ·omega
  ·split<;>simp<;>omega
theorem stF_len (s:Int)(hs:1≤s∧s≤4)(L:Int→Nat)(l:List Stp)(c:Int)(h:∀ x∈l,(1≤x.1∧x.1≤14)∧(0≤x.2.1∧x.2.1≤18)):(stF s L l c).length≤12:=by
 unfold stF
 split
 ·rename_i x hx
  have:=h x (stOn_eq hx).1
  exact cellS_len _ _ _ _ _ _ _ hs this.1 this.2
 ·simp
theorem in_of {e:Ev} (h:StopsIn e):∀ x∈e.stops,(1≤x.1∧x.1≤14)∧(0≤x.2.1∧x.2.1≤18):=fun x hx=>by
 obtain⟨k,hk,rfl⟩:=List.getElem_of_mem hx
 exact⟨(h k hk).1,(h k hk).2.1⟩
theorem joinW_len {n:Nat} (l:List (List UInt8))(h:∀ t∈l,t.length≤n):(joinW l).length≤(n+1)*l.length:=by
 cases l with
 | nil=>simp [joinW]
 | cons x r =>
  have h1:=spW_len (l:=r) fun t ht=>h t (by simp [ht])
  have h2:=h x (by simp)
  simp only [joinW,List.length_append,List.length_cons,Nat.mul_succ]
  omega
theorem joinW_bd (s:Int) (hs:1≤s∧s≤4) (p:Pce) (i:Int) (e:Ev) (hsg:sgOk e.val e.dot e.three=true) (hv:StopsIn e) (h20:e.stops.length≤20):(colW s p i e).length≤1000∧(joinW (colW s p i e)).length≤1000000:=by
 have hi:=in_of hv
 have hh:=headW_len s e
 have hst:∀ t∈staffL s (fun c=>longestN p.evs i c) (staffN s p) e.stops,t.length≤12:=fun t ht=>by
  unfold staffL at ht
  obtain ⟨j,_,rfl⟩:=List.mem_map.1 ht
  exact stF_len s hs _ _ _ hi
 have hou:∀ t∈outL s (fun c=>longestN p.evs i c) (staffN s p) e.stops,t.length≤12:=fun t ht=>by
  have:t∈(e.stops.filter fun x=>decide (((staffN s p:Nat):Int)<x.1)).map (stT s fun c=>longestN p.evs i c):=by
   unfold outL at ht
   split at ht
   ·simpa using ht
   ·exact ht
  obtain ⟨x,hx,rfl⟩:=List.mem_map.1 this
  have:=hi x (List.mem_filter.1 hx).1
  exact cellS_len _ _ _ _ _ _ _ hs this.1 this.2
 have hlo:=outL_len s (fun c=>longestN p.evs i c) (staffN s p) e.stops
 have hls:=staffL_len s (fun c=>longestN p.evs i c) (staffN s p) e.stops
 have hn6:=staffN_le s p
 have hall:∀ t∈colW s p i e,t.length≤12:=fun t ht=>by
  unfold colW at ht
  rcases List.mem_append.1 ht with ht|ht
  ·have htw:=tW_len e.val (sgI e.dot e.three) ⟨(sg_cases hsg).1,(sg_cases hsg).2.1⟩
   unfold headW at ht
   split at ht
   ·simp only [List.mem_cons,List.not_mem_nil,or_false] at ht
    rcases ht with rfl|rfl
    ·simp
    ·omega
   ·simp only [List.mem_cons,List.not_mem_nil,or_false] at ht
    subst ht;omega
  ·split at ht
   ·simp at ht;subst ht;simp
   ·split at ht
    ·simp at ht;subst ht;simp
    ·split at ht
     ·rcases List.mem_append.1 ht with ht|ht
      ·exact hou t ht
      ·exact hst t ht
     ·rcases List.mem_append.1 ht with ht|ht
      ·exact hst t ht
      ·exact hou t ht
 have hlen:(colW s p i e).length≤40:=by
  unfold colW
  rw [List.length_append]
  split
  ·simp;omega
  ·split
   ·simp;omega
   ·split
    ·rw [List.length_append];omega
    ·rw [List.length_append];omega
 refine ⟨by omega,?_⟩
 have:=joinW_len _ hall
 have h2:(12+1)*(colW s p i e).length≤13*40:=Nat.mul_le_mul_left 13 hlen
 omega
theorem column_FS (s:Int) (hs:1≤s∧s≤4) (p:Pce) (i:Nat) (hi:i < p.evs.length) (hO:PcOk p) (h0:pceE p=0) :
  Ctr Tryz.prog 54 [.sc (.int .u8 s),.sc (sysV s),ePce p,.sc (.int .i64 i)] (.sc (.string (bs (colS s p i p.evs[i])))):=by
 have hn3:=hO.n3
 have hE:=(pceE_zero h0).2.2 i hi
 have hv:=stopsIn_of h0 i hi
 have hsg:=(evE_zero hE).1
 refine zqe Tryz.func54 Tryz.ntmps54 fun w0 F0=>?_;dsimp only [St.init,number,Nat.reduceAdd]
 refine zqg7 ?_
 refine WL.vl rfl (WV.call rfl (callF Tryz.func110 rfl rfl) rfl rfl (timeWord_FS s hs p.evs[i] hsg)) ?_
 refine zqg7 ?_
 refine W.meet ⟨[(0,.sc (.int .u8 s)),(1,.sc (sysV s)),(3,.sc (.int .i64 i)),(6,.pt 0 0 0),(9,.pt 1 0 0),(12,.sl 2)],[(0,.box 30 (ePce p).cells),(1,.box 90 (eEv p.evs[i])),(2,.row 9 1 ((headW s p.evs[i]).map eStr))],3⟩ ?_ ?_
 ·(refine W.cond rfl (fun hif=>?_) (fun hif=>?_)<;>(try simp only [decide_eq_true_eq,decide_eq_false_iff_not,Int.not_lt,Int.not_le,Bool.not_eq_true',Bool.not_eq_false'] at hif))
  ·rw [headW_bar hif]
   refine zqg7 ?_
   refine (?_:Tr _ _ _)
   exact (zqu (fun q=>bif Nat.beq q 2 then 3 else q) (by repeat (first|exact trivial|refine ⟨⟨?_,?_,?_⟩,?_⟩|rfl|exact congrArg (fun q=>some (AO.row _ _ q)) (by first|rfl|(simp;done)|(simp [eInt];done)|(simp [eLk];done)))) rfl)
  ·rw [headW_no hif]
   refine zqg7 ?_
   refine (?_:Tr _ _ _)
   exact (zqu (fun q=>q) (by repeat (first|exact trivial|refine ⟨⟨?_,?_,?_⟩,?_⟩|rfl|exact congrArg (fun q=>some (AO.row _ _ q)) (by first|rfl|(simp;done)|(simp [eInt];done)|(simp [eLk];done)))) rfl)
 obtain ⟨L,hL⟩:∃ L:Int→Nat,L=fun c=>longestN p.evs i c:=⟨_,rfl⟩
 have hwl:=headW_len s p.evs[i]
 have hjl:=joinW_bd s hs p i p.evs[i] hsg hv (hO.n4 i hi)
 unfold colS at *
 obtain ⟨n,hn⟩:∃ n,staffN s p=n:=⟨_,rfl⟩
 have hn6:=staffN_le s p
 rw [hn] at hn6
 have hjoin:=join_FS (colW s p i p.evs[i]) hjl.1 hjl.2
 have e1:p.evs[i].tie=true→colW s p i p.evs[i]=headW s p.evs[i]++[[126]]:=fun h=>by unfold colW;rw [if_pos h]
 have e2:p.evs[i].tie=false→(p.evs[i].stops.length:Int)=0→colW s p i p.evs[i]=headW s p.evs[i]++[[37]]:=fun h h1=>by unfold colW;rw [if_neg (by simp [h]),if_pos (by omega)]
 have e3:p.evs[i].tie=false→¬ (p.evs[i].stops.length:Int)=0→s=2→colW s p i p.evs[i]=headW s p.evs[i]++outL s L n p.evs[i].stops++staffL s L n p.evs[i].stops:=fun h h1 h2=>by
  unfold colW;rw [if_neg (by simp [h]),if_neg (by omega),if_pos h2,hn,← hL,List.append_assoc]
 have e4:p.evs[i].tie=false→¬ (p.evs[i].stops.length:Int)=0→¬ s=2→colW s p i p.evs[i]=headW s p.evs[i]++staffL s L n p.evs[i].stops++outL s L n p.evs[i].stops:=fun h h1 h2=>by
  unfold colW;rw [if_neg (by simp [h]),if_neg (by omega),if_neg h2,hn,← hL,List.append_assoc]
 obtain ⟨hd,hhd⟩:∃ l,headW s p.evs[i]=l:=⟨_,rfl⟩
 obtain ⟨cw,hcw⟩:∃ l,colW s p i p.evs[i]=l:=⟨_,rfl⟩
 rw [hhd] at e1 e2 e3 e4 hwl ⊢
 rw [hcw] at e1 e2 e3 e4 hjoin ⊢
 clear hcw hjl
 refine zqg7 ?_
 (refine W.cond rfl (fun hif=>?_) (fun hif=>?_)<;>(try simp only [decide_eq_true_eq,decide_eq_false_iff_not,Int.not_lt,Int.not_le,Bool.not_eq_true',Bool.not_eq_false'] at hif))
 ·have e:=e1 hif
  rw [e,List.map_append] at hjoin
  rw [e]
  refine zqg7 ?_
  refine WL.tr (Tr.freeze 4 rfl) ?_
  refine WL.vl rfl (zqc Tryz.func111 hjoin) ?_
  refine zqg7 ?_
  exact W.ret zqr
 have htie:=hif
 refine zqg7 ?_
 (refine W.cond rfl (fun hif=>?_) (fun hif=>?_)<;>(try simp only [decide_eq_true_eq,decide_eq_false_iff_not,Int.not_lt,Int.not_le,Bool.not_eq_true',Bool.not_eq_false'] at hif))
 ·have e:=e2 htie hif
  rw [e,List.map_append] at hjoin
  rw [e]
  refine zqg7 ?_
  refine WL.tr (Tr.freeze 4 rfl) ?_
  refine WL.vl rfl (zqc Tryz.func111 hjoin) ?_
  refine zqg7 ?_
  exact W.ret zqr
 have hne:=hif
 have e3:=e3 htie hne
 have e4:=e4 htie hne
 refine zqg7 ?_
 refine W.meet ⟨[(0,.sc (.int .u8 s)),(1,.sc (sysV s)),(3,.sc (.int .i64 i)),(6,.pt 0 0 0),(9,.pt 1 0 0),(12,.sl 2),(13,.sc (.int .i64 (n:Int)))],[(0,.box 30 (ePce p).cells),(1,.box 90 (eEv p.evs[i])),(2,.row 9 1 (hd.map eStr))],3⟩ ?_ ?_
 ·(refine W.cond rfl (fun hif=>?_) (fun hif=>?_)<;>(try simp only [decide_eq_true_eq,decide_eq_false_iff_not,Int.not_lt,Int.not_le,Bool.not_eq_true',Bool.not_eq_false'] at hif))
  ·have hsn:¬ s=4:=by simpa using hif
   have hc0:n=min p.cs.length 6:=by rw [← hn];exact if_neg hsn
   rw [hc0]
   refine zqg7 ?_
   refine WL.vl rfl (WV.call rfl (callF Tryz.func112 rfl rfl) rfl rfl (pstaff_FS p.cs p.st hO.n1)) ?_
   refine zqg7 ?_
   refine (?_:Tr _ _ _)
   exact (zqu (fun q=>q) (by repeat (first|exact trivial|refine ⟨⟨?_,?_,?_⟩,?_⟩|rfl|exact congrArg (fun q=>some (AO.row _ _ q)) (by first|rfl|(simp;done)|(simp [eInt];done)|(simp [eLk];done)))) rfl)
  ·have hsn:s=4:=by simpa using hif
   have hc0:n=0:=by rw [← hn];exact if_pos hsn
   rw [hc0]
   refine zqg7 ?_
   refine (?_:Tr _ _ _)
   exact (zqu (fun q=>q) (by repeat (first|exact trivial|refine ⟨⟨?_,?_,?_⟩,?_⟩|rfl|exact congrArg (fun q=>some (AO.row _ _ q)) (by first|rfl|(simp;done)|(simp [eInt];done)|(simp [eLk];done)))) rfl)
 refine zqg7 ?_
 refine WL.op rfl (WO.make1 (k:=n) rfl rfl rfl rfl rfl rfl (fun k=>by rw [Nat.mul_one];exact toList_madeCells_one _ _) rfl rfl rfl rfl rfl (by omega) rfl) ?_
 refine zqg7 ?_
 have hz:=fillL_zero n
 refine W.loop (fun k:Nat=>k≤n) (fun k=>⟨[(0,.sc (.int .u8 s)),(1,.sc (sysV s)),(3,.sc (.int .i64 i)),(6,.pt 0 0 0),(9,.pt 1 0 0),(12,.sl 2),(13,.sc (.int .i64 (n:Int))),(14,.sl 3),(63,.sc (.int .i64 (n:Int))),(64,.sc (.int .i64 k))],[(0,.box 30 (ePce p).cells),(1,.box 90 (eEv p.evs[i])),(2,.row 9 1 (hd.map eStr)),(3,.row 9 1 ((fillL n k).map eStr))],4⟩) (fun k=>n - k) 0 zqo (zqu (fun q=>q) (by repeat (first|exact trivial|refine ⟨⟨?_,?_,?_⟩,?_⟩|rfl|exact congrArg (fun q=>some (AO.row _ _ q)) hz.symm)) rfl) fun k hk=>?_
 refine zqg7 ?_
 (refine W.cond rfl (fun hif=>?_) (fun hif=>?_)<;>(try simp only [decide_eq_true_eq,decide_eq_false_iff_not,Int.not_lt,Int.not_le,Bool.not_eq_true',Bool.not_eq_false'] at hif))
 ·have hk2:k < n:=by omega
  have hl:=fillL_len n k
  have hset:((fillL n k).map eStr).set k (eStr [45])=(fillL n (k+1)).map eStr:=by rw [← List.map_set,fillL_succ n k hk2]
  have hix:0≤(k:Int)∧(k:Int) < ((fillL n k).map eStr).length:=⟨by omega,by simp [hl];omega⟩
  have hat:((fillL n k).map eStr)[((k:Nat):Int).toNat]?=some (eStr ((fillL n k)[k]' zqo)):=map_at zqo
  refine zqg7 ?_
  refine WL.sto rfl rfl rfl rfl hat (by exact Nat.le_refl _) ?_
  refine zqg7 ?_
  refine ⟨k+1,by omega,by omega,?_⟩
  exact (zqu (fun q=>q) (by repeat (first|exact trivial|refine ⟨⟨?_,?_,?_⟩,?_⟩|rfl|exact congrArg (fun q=>some (AO.row _ _ q)) hset)) rfl)
 have hkn:k=n:=by omega
 rw [hkn,fillL_all s L n]
 refine zqg7 ?_
 refine W.tr (Tr.nil (t:=16) 9 1 rfl rfl) ?_
 have hasc:asc 0 p.evs[i].stops:=asc_of (evE_zero hE).2.2.2
 refine W.loop (fun k:Nat=>k≤p.evs[i].stops.length) (fun k=>⟨[(0,.sc (.int .u8 s)),(1,.sc (sysV s)),(3,.sc (.int .i64 i)),(6,.pt 0 0 0),(9,.pt 1 0 0),(12,.sl 2),(13,.sc (.int .i64 (n:Int))),(14,.sl 3),(16,.sl 4),(72,eStps p.evs[i].stops),(73,.sc (.int .i64 p.evs[i].stops.length)),(74,.sc (.int .i64 k))],[(0,.box 30 (ePce p).cells),(1,.box 90 (eEv p.evs[i])),(2,.row 9 1 (hd.map eStr)),(3,.row 9 1 ((staffL s L n (p.evs[i].stops.take k)).map eStr)),(4,.row 9 1 ((outL s L n (p.evs[i].stops.take k)).map eStr))],5⟩) (fun k=>p.evs[i].stops.length - k) 0 (by omega) (zqu (fun q=>q) (by repeat (first|exact trivial|refine ⟨⟨?_,?_,?_⟩,?_⟩|rfl|exact congrArg (fun q=>some (AO.row _ _ q)) (by rw [List.take_zero];unfold outL;split<;>rfl))) rfl) fun k hk=>?_
 refine zqg7 ?_
 (refine W.cond rfl (fun hif=>?_) (fun hif=>?_)<;>(try simp only [decide_eq_true_eq,decide_eq_false_iff_not,Int.not_lt,Int.not_le,Bool.not_eq_true',Bool.not_eq_false'] at hif))
 ·have hk2:k < p.evs[i].stops.length:=by omega
  have hb:=hv k hk2
  have hlt:=asc_take k hk2 hasc
  have htk:=List.take_succ_eq_append_getElem hk2
  have hLx:(longestN p.evs i p.evs[i].stops[k].1:Int)=L p.evs[i].stops[k].1:=by rw [hL]
  obtain ⟨x,hx⟩:∃ x,p.evs[i].stops[k]=x:=⟨_,rfl⟩
  obtain ⟨tk,htkk⟩:∃ l,p.evs[i].stops.take k=l:=⟨_,rfl⟩
  obtain ⟨tk1,htk1⟩:∃ l,p.evs[i].stops.take (k+1)=l:=⟨_,rfl⟩
  have h20:=hO.n4 i hi
  have hol:=outL_len s L n (p.evs[i].stops.take k)
  rw [List.length_take] at hol
  refine zqg7 ?_
  rw [hx] at hb hlt htk hLx ⊢
  rw [htkk] at hlt htk hol ⊢
  rw [htk1] at htk
  refine W.drawK zqk zqk ?_
  repeat (first|refine DK.st rfl ?_|refine DK.nil ?_)
  refine DK.vl rfl (WV.call rfl (callF Tryz.func95 rfl rfl) rfl rfl (pLong_FS p hO i _)) ?_
  refine DK.vl rfl (WV.call rfl (callF Tryz.func87 rfl rfl) rfl rfl (cell_FS s hs x _ hb.1 hb.2.1 hb.2.2.1 hb.2.2.2.1 hb.2.2.2.2)) ?_
  repeat (first|refine DK.st rfl ?_|refine DK.nil ?_)
  rw [hLx]
  refine zqg7 ?_
  (refine W.cond rfl (fun hif=>?_) (fun hif=>?_)<;>(try simp only [decide_eq_true_eq,decide_eq_false_iff_not,Int.not_lt,Int.not_le,Bool.not_eq_true',Bool.not_eq_false'] at hif))
  ·have hxn:x.1≤n:=hif
   have hs4:s≠4:=fun e=>by rw [← hn,staffN,if_pos e] at hxn;omega
   have hli:1≤lineV s x.1 n∧lineV s x.1 n≤n:=by
    unfold lineV
    rw [if_neg hs4]
    split<;>omega
   have hst:=staffL_snoc s L n tk x hs4 hlt hb.1.1 hxn
   have hou:=outL_in s L n tk x hxn
   rw [← htk] at hst hou
   have hsl:=staffL_len s L n tk
   obtain ⟨lv,hlv⟩:∃ z,lineV s x.1 n=z:=⟨_,rfl⟩
   rw [hlv] at hli hst
   have hix:0≤lv - 1∧lv - 1 < ((staffL s L n tk).map eStr).length:=⟨by omega,by rw [List.length_map,hsl];omega⟩
   have hat:((staffL s L n tk).map eStr)[(lv - 1).toNat]?=some (eStr ((staffL s L n tk)[(lv - 1).toNat]'(by omega))):=map_atZ (by omega) (by rw [hsl];omega)
   have hset:((staffL s L n tk).map eStr).set (lv - 1).toNat (eStr (stT s L x))=(staffL s L n tk1).map eStr:=by rw [hst,List.map_set]
   have hlf:=line_FS s hs x.1 n hb.1 ⟨by omega,by omega⟩
   rw [hlv] at hlf
   refine zqg7 ?_
   refine WL.vl rfl (WV.sys hs lineF rfl rfl (fun vs w=>by kernel_rfl) (fun vs w=>by kernel_rfl) (fun vs w=>by kernel_rfl) (fun vs w=>by kernel_rfl) rfl rfl hlf) ?_
   refine zqg7 ?_
   refine WL.sto rfl rfl rfl rfl hat (by exact Nat.le_refl _) ?_
   refine zqg7 ?_
   refine ⟨k+1,by omega,by omega,?_⟩
   rw [htk1]
   exact (zqu (fun q=>q) (by repeat (first|exact trivial|refine ⟨⟨?_,?_,?_⟩,?_⟩|rfl|exact congrArg (fun q=>some (AO.row _ _ q)) hset|exact congrArg (fun q=>some (AO.row _ _ q)) (congrArg (List.map eStr) hou.symm))) rfl)
  have hxn:¬ x.1≤n:=by omega
  have hst:staffL s L n tk1=staffL s L n tk:=by
   rw [htk]
   unfold staffL
   apply List.map_congr_left
   intro j hj
   rw [stF_snoc s L tk x _ hlt,if_neg]
   have hj:j < n:=by simpa using hj
   unfold cAt
   split<;>omega
  have hou:=outL_out s L n tk x hxn
  rw [← htk] at hou
  have happ1:¬ s=2→(outL s L n tk).map eStr++[eStr (stT s L x)]=(outL s L n tk1).map eStr:=fun h=>by rw [hou,if_neg h,List.map_append];rfl
  have happ2:s=2→[eStr (stT s L x)]++(outL s L n tk).map eStr=(outL s L n tk1).map eStr:=fun h=>by rw [hou,if_pos h];rfl
  refine zqg7 ?_
  refine WL.vl rfl (WV.sys hs behindF rfl rfl (fun vs w=>by kernel_rfl) (fun vs w=>by kernel_rfl) (fun vs w=>by kernel_rfl) (fun vs w=>by kernel_rfl) rfl rfl (behind_FS s hs)) ?_
  refine zqg7 ?_
  (refine W.cond rfl (fun hif=>?_) (fun hif=>?_)<;>(try simp only [decide_eq_true_eq,decide_eq_false_iff_not,Int.not_lt,Int.not_le,Bool.not_eq_true',Bool.not_eq_false'] at hif))
  ·have hs2:s≠2:=by simpa using hif
   have happ1:=happ1 hs2
   refine zqg7 ?_
   refine ⟨k+1,by omega,by omega,?_⟩
   rw [htk1]
   exact (zqu (fun q=>bif Nat.beq q 4 then 7 else q) (by repeat (first|exact trivial|refine ⟨⟨?_,?_,?_⟩,?_⟩|rfl|exact congrArg (fun q=>some (AO.row _ _ q)) (congrArg (List.map eStr) hst.symm)|exact congrArg (fun q=>some (AO.row _ _ q)) happ1)) rfl)
  have hs2:s=2:=by simpa using hif
  have happ2:=happ2 hs2
  refine zqg7 ?_
  refine ⟨k+1,by omega,by omega,?_⟩
  rw [htk1]
  exact (zqu (fun q=>bif Nat.beq q 4 then 7 else q) (by repeat (first|exact trivial|refine ⟨⟨?_,?_,?_⟩,?_⟩|rfl|exact congrArg (fun q=>some (AO.row _ _ q)) (congrArg (List.map eStr) hst.symm)|exact congrArg (fun q=>some (AO.row _ _ q)) happ2)) rfl)
 have hke:k=p.evs[i].stops.length:=by omega
 rw [hke,List.take_length]
 have hsl:=staffL_len s L n p.evs[i].stops
 have hol:=outL_len s L n p.evs[i].stops
 have h20:=hO.n4 i hi
 refine zqg7 ?_
 refine WL.vl rfl (WV.sys hs behindF rfl rfl (fun vs w=>by kernel_rfl) (fun vs w=>by kernel_rfl) (fun vs w=>by kernel_rfl) (fun vs w=>by kernel_rfl) rfl rfl (behind_FS s hs)) ?_
 refine zqg7 ?_
 (refine W.cond rfl (fun hif=>?_) (fun hif=>?_)<;>(try simp only [decide_eq_true_eq,decide_eq_false_iff_not,Int.not_lt,Int.not_le,Bool.not_eq_true',Bool.not_eq_false'] at hif))
 ·have e:=e4 (by simpa using hif)
  rw [e,List.map_append,List.map_append] at hjoin
  rw [e]
  refine zqg7 ?_
  refine WL.tr (Tr.freeze 6 rfl) ?_
  refine WL.vl rfl (zqc Tryz.func111 hjoin) ?_
  refine zqg7 ?_
  exact W.ret zqr
 have e:=e3 (by simpa using hif)
 rw [e,List.map_append,List.map_append] at hjoin
 rw [e]
 refine zqg7 ?_
 refine WL.tr (Tr.freeze 6 rfl) ?_
 refine WL.vl rfl (zqc Tryz.func111 hjoin) ?_
 refine zqg7 ?_
 exact W.ret zqr
end Go.Proofs.YthehkchjdkdbiaaGreatDoor
