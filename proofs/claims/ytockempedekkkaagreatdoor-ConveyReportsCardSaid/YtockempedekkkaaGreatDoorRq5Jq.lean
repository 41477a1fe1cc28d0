/- Lines, numbers: the reference. -/
import Derived.Test.YtockempedekkkaaGreatDoorG8Jq
import Derived.Test.YtockempedekkkaaGreatDoorEGJq
set_option maxHeartbeats 4000000
set_option maxRecDepth 100000
set_option linter.unusedVariables false
set_option linter.unusedSimpArgs false
namespace Go.Proofs.YtockempedekkkaaGreatDoor
section
open Go.RowKit
theorem z36i {z:Int} (h:I64 z:=by unfold I64;omega):I64 z:=h
def rq_sP (c:UInt8)(e:Nat)(t:List UInt8)(k:Nat):Bool:=decide (k=e)|| (t.getD k 0 == c)
def rq_sF(c:UInt8)(e:Nat)(t:List UInt8):Nat→Nat
 | 0=>0
 | k+1=>if rq_sP c e t k then k+1 else rq_sF c e t k
def rq_sR (c:UInt8) (e:Nat) (t:List UInt8):Nat→List (List UInt8)
 | 0=>[]
 | k+1=>if rq_sP c e t k then rq_sR c e t k++[cut t ((rq_sF c e t k:Nat):Int) ((k:Nat):Int)]else rq_sR c e t k
theorem rq_sF_le(c:UInt8)(e:Nat)(t:List UInt8):∀ k,rq_sF c e t k≤k
 | 0=>Nat.le_refl _
 | k+1=>by
  have:=rq_sF_le c e t k
  unfold rq_sF;split<;>omega
theorem rq_sR_len(c:UInt8)(e:Nat)(t:List UInt8):∀ k,(rq_sR c e t k).length≤k
 | 0=>Nat.le_refl _
 | k+1=>by
  have:=rq_sR_len c e t k
  unfold rq_sR;split
  ·simp;omega
  ·omega
theorem rq_s_hit {c:UInt8} {e:Nat} {t:List UInt8} {k:Nat} (h:rq_sP c e t k=true):rq_sF c e t (k+1)=k+1∧rq_sR c e t (k+1)=rq_sR c e t k++[cut t ((rq_sF c e t k:Nat):Int) ((k:Nat):Int)] :=
 ⟨if_pos h,if_pos h⟩
theorem rq_s_no {c:UInt8} {e:Nat} {t:List UInt8} {k:Nat} (h:rq_sP c e t k=false):rq_sF c e t (k+1)=rq_sF c e t k∧rq_sR c e t (k+1)=rq_sR c e t k :=
 ⟨if_neg (by simp [h]),if_neg (by simp [h])⟩
theorem rq_fold (c:UInt8) (t:List UInt8) (k:Nat):rq_joinC c ((t.take k).foldl (rq_spS c) ([],[])).1 ((t.take k).foldl (rq_spS c) ([],[])).2=t.take k:=(rq_sp_join c (t.take k) [] []).trans rfl
theorem rq_cur_cut (c:UInt8) (t:List UInt8) {k:Nat} (h:k≤t.length):((t.take k).foldl (rq_spS c) ([],[])).2.length≤k∧cut t ((k-((t.take k).foldl (rq_spS c) ([],[])).2.length:Nat):Int) ((k:Nat):Int)=((t.take k).foldl (rq_spS c) ([],[])).2:=by
 have hj:=rq_fold c t k
 obtain ⟨ls,hls⟩:∃ z,((t.take k).foldl (rq_spS c) ([],[])).1=z:=⟨_,rfl⟩
 obtain ⟨cu,hcu⟩:∃ z,((t.take k).foldl (rq_spS c) ([],[])).2=z:=⟨_,rfl⟩
 rw [hls,hcu]at hj
 rw [hcu]
 obtain ⟨X,hX⟩:∃ z,(ls.flatMap fun l=>l++[c])=z:=⟨_,rfl⟩
 have e:t.take k=X++cu:=by rw [← hj,← hX];rfl
 have hl:k=X.length+cu.length:=by
  have:=congrArg List.length e
  rw [List.length_take,List.length_append]at this;omega
 refine ⟨by omega,?_⟩
 unfold cut
 rw [Int.toNat_natCast,Int.toNat_natCast,show k-cu.length=X.length by omega,show k-X.length=cu.length by omega]
 have e2:t=X++cu++t.drop k:=by rw [← e,List.take_append_drop]
 rw [e2,List.append_assoc,List.drop_left,List.take_left]
theorem rq_s_inv {c:UInt8} {e:Nat} {t:List UInt8}:∀ k,k≤t.length→k≤e→rq_sR c e t k=((t.take k).foldl (rq_spS c) ([],[])).1∧rq_sF c e t k=k-((t.take k).foldl (rq_spS c) ([],[])).2.length
 | 0,_,_=>by simp [rq_sR,rq_sF]
 | k+1,h,he=>by
  obtain ⟨h1,h2⟩:=rq_s_inv (c:=c) (e:=e) (t:=t) k zqo zqo
  have hc:=rq_cur_cut c t (k:=k) zqo
  have hk:k<t.length:=by omega
  rw [List.take_succ_eq_append_getElem hk,List.foldl_append]
  obtain ⟨s,hs⟩:∃ z,(t.take k).foldl (rq_spS c) ([],[])=z:=⟨_,rfl⟩
  rw [hs] at h1 h2 hc ⊢
  have hg:t.getD k 0=t[k]:=by rw [List.getD_eq_getElem?_getD,List.getElem?_eq_getElem hk];rfl
  by_cases hb:t[k]=c
  ·have hp:rq_sP c e t k=true:=by unfold rq_sP;rw [hg,hb];simp
   rw [(rq_s_hit hp).1,(rq_s_hit hp).2,h1,h2,hc.2]
   simp [rq_spS,hb]
  ·have hp:rq_sP c e t k=false:=by unfold rq_sP;rw [hg];simp [hb];omega
   rw [(rq_s_no hp).1,(rq_s_no hp).2,h1,h2]
   simp [rq_spS,hb]
theorem rq_sP_ge {c:UInt8} {e:Nat} {t:List UInt8} {k:Nat} (hk:k<t.length)(hke:k≠e):rq_sP c e t k=decide (((t.getD k 0).toNat:Int)=(c.toNat:Int)):=by
 unfold rq_sP
 rw [decide_eq_false hke,Bool.false_or]
 by_cases h:t.getD k 0=c
 ·rw [h];simp
 ·have:(t.getD k 0).toNat≠c.toNat:=fun e=>h (UInt8.toNat_inj.1 e)
  rw [decide_eq_false (by omega)];simpa using h
theorem rq_words_end (t:List UInt8):rq_sR 32 t.length t (t.length+1)=rq_wds 32 t:=by
 have hp:rq_sP 32 t.length t t.length=true:=by unfold rq_sP;simp
 obtain ⟨h1,h2⟩:=rq_s_inv (c:=32) (e:=t.length) (t:=t) t.length (Nat.le_refl _) (Nat.le_refl _)
 have hc:=rq_cur_cut 32 t (k:=t.length) (Nat.le_refl _)
 rw [(rq_s_hit hp).2,h2,hc.2,h1,List.take_length];rfl
theorem rq_lines_end (t:List UInt8):rq_sR 10 (t.length+1) t t.length=(rq_spl 10 t).1∧rq_sF 10 (t.length+1) t t.length=t.length-(rq_spl 10 t).2.length∧(rq_spl 10 t).2.length≤t.length∧cut t ((t.length-(rq_spl 10 t).2.length:Nat):Int) (t.length:Int)=(rq_spl 10 t).2:=by
 obtain ⟨h1,h2⟩:=rq_s_inv (c:=10) (e:=t.length+1) (t:=t) t.length (Nat.le_refl _) zqo
 have hc:=rq_cur_cut 10 t (k:=t.length) (Nat.le_refl _)
 rw [List.take_length] at h1 h2 hc
 exact ⟨h1,h2,hc.1,hc.2⟩
theorem rWords_FS (t:List UInt8) (hl:t.length≤1000000):Ctr Tryz.prog 50 [.sc (.string (bs t))] (.ls 1 ((rq_wds 32 t).map eTx)):=by
 rw [← rq_words_end]
 refine zqe Tryz.func50 Tryz.ntmps50 fun w0 F0=>?_;dsimp only [St.init,number,Nat.reduceAdd]
 repeat (first|refine W.gob rfl ?_|refine WL.nil ?_|refine WL.bt rfl rfl rfl zqo ?_|refine WL.bf rfl rfl rfl zqo ?_|refine WL.e1 rfl ?_|refine WL.gyes rfl rfl rfl rfl ?_|refine WL.opno rfl rfl rfl rfl rfl rfl rfl ?_|refine WL.ar rfl rfl z36i ?_|refine WL.len rfl rfl zql ?_|refine WL.app rfl rfl rfl zqs ?_|refine W.condT rfl ?_|refine W.condF rfl ?_)
 (first|refine (?_:W _ _ _ _ _)|refine (?_:WL _ _ _ _ _ _)|skip)
 try dsimp only [St.put,Nat.reduceAdd]
 refine W.tr (Tr.nil (t:=3) 9 1 rfl rfl) ?_
 refine W.loop (fun k:Nat=>k≤t.length+1) (fun k=>⟨[(0,.sc (.string (bs t))),(3,.sl 0),(4,.sc (.int .i64 (rq_sF 32 t.length t k:Nat))),(5,.sc (.int .i64 k))],[(0,.row 9 1 ((rq_sR 32 t.length t k).map eTx))],1⟩) (fun k=>t.length+1 - k) 0 zqo (zqt id) fun k hk=>?_
 have hf:=rq_sF_le 32 t.length t k
 have hr:=rq_sR_len 32 t.length t k
 by_cases hlt:k < t.length+1
 rotate_left
 ·obtain rfl:k=t.length+1:=by omega
  repeat (first|refine W.gob rfl ?_|refine WL.nil ?_|refine WL.bt rfl rfl rfl zqo ?_|refine WL.bf rfl rfl rfl zqo ?_|refine WL.e1 rfl ?_|refine WL.gyes rfl rfl rfl rfl ?_|refine WL.opno rfl rfl rfl rfl rfl rfl rfl ?_|refine WL.ar rfl rfl z36i ?_|refine WL.len rfl rfl zql ?_|refine WL.app rfl rfl rfl zqs ?_|refine W.condT rfl ?_|refine W.condF rfl ?_)
  (first|refine (?_:W _ _ _ _ _)|refine (?_:WL _ _ _ _ _ _)|skip)
  try dsimp only [St.put,Nat.reduceAdd]
  refine W.tr (Tr.freeze 0 rfl) ?_
  exact W.ret zqr
 have ek:((k:Nat):Int).toNat=k:=Int.toNat_natCast k
 have hmap:∀ x,((rq_sR 32 t.length t k++[x]).map eTx)=(rq_sR 32 t.length t k).map eTx++[eTx x]:=fun x=>by rw [List.map_append];rfl
 by_cases he:k=t.length
 ·have hp:rq_sP 32 t.length t k=true:=by unfold rq_sP;simp [he]
  obtain ⟨h1,h2⟩:=rq_s_hit hp
  clear hp
  obtain ⟨fr,hfr⟩:∃ z,rq_sF 32 t.length t k=z:=⟨_,rfl⟩
  rw [hfr] at hf h2 ⊢
  have hc:0≤((fr:Nat):Int)∧((fr:Nat):Int)≤(k:Int)∧(k:Int)≤(t.length:Int):=by omega
  repeat (first|refine W.gob rfl ?_|refine WL.nil ?_|refine WL.bt rfl rfl rfl zqo ?_|refine WL.bf rfl rfl rfl zqo ?_|refine WL.e1 rfl ?_|refine WL.gyes rfl rfl rfl rfl ?_|refine WL.opno rfl rfl rfl rfl rfl rfl rfl ?_|refine WL.ar rfl rfl z36i ?_|refine WL.len rfl rfl zql ?_|refine WL.app rfl rfl rfl zqs ?_|refine W.condT rfl ?_|refine W.condF rfl ?_)
  (first|refine (?_:W _ _ _ _ _)|refine (?_:WL _ _ _ _ _ _)|skip)
  try dsimp only [St.put,Nat.reduceAdd]
  refine WL.cut rfl rfl hc ?_
  repeat (first|refine W.gob rfl ?_|refine WL.nil ?_|refine WL.bt rfl rfl rfl zqo ?_|refine WL.bf rfl rfl rfl zqo ?_|refine WL.e1 rfl ?_|refine WL.gyes rfl rfl rfl rfl ?_|refine WL.opno rfl rfl rfl rfl rfl rfl rfl ?_|refine WL.ar rfl rfl z36i ?_|refine WL.len rfl rfl zql ?_|refine WL.app rfl rfl rfl zqs ?_|refine W.condT rfl ?_|refine W.condF rfl ?_)
  (first|refine (?_:W _ _ _ _ _)|refine (?_:WL _ _ _ _ _ _)|skip)
  try dsimp only [St.put,Nat.reduceAdd]
  refine ⟨k+1,by omega,by omega,?_⟩
  rw [h1,h2,hmap]
  exact (zqu (fun q=>bif Nat.beq q 0 then 2 else q) (by repeat (first|exact trivial|refine ⟨⟨?_,?_,?_⟩,?_⟩|rfl|exact congrArg (fun q=>some (AO.row _ _ q)) (by first|rfl|(simp;done)|(simp [eInt];done)|(simp [eLk];done)))) rfl)
 have hlt2:k < t.length:=by omega
 have hpe:=rq_sP_ge (c:=32) hlt2 he
 obtain ⟨by_,hby⟩:∃ z,((t.getD k 0).toNat:Int)=z:=⟨_,rfl⟩
 rw [hby] at hpe
 by_cases hb:by_=32
 ·obtain ⟨h1,h2⟩:=rq_s_hit (hpe.trans (decide_eq_true hb))
  obtain ⟨fr,hfr⟩:∃ z,rq_sF 32 t.length t k=z:=⟨_,rfl⟩
  rw [hfr] at hf h2 ⊢
  have hc:0≤((fr:Nat):Int)∧((fr:Nat):Int)≤(k:Int)∧(k:Int)≤(t.length:Int):=by omega
  repeat (first|refine W.gob rfl ?_|refine WL.nil ?_|refine WL.bt rfl rfl rfl zqo ?_|refine WL.bf rfl rfl rfl zqo ?_|refine WL.e1 rfl ?_|refine WL.gyes rfl rfl rfl rfl ?_|refine WL.opno rfl rfl rfl rfl rfl rfl rfl ?_|refine WL.ar rfl rfl z36i ?_|refine WL.len rfl rfl zql ?_|refine WL.app rfl rfl rfl zqs ?_|refine W.condT rfl ?_|refine W.condF rfl ?_)
  (first|refine (?_:W _ _ _ _ _)|refine (?_:WL _ _ _ _ _ _)|skip)
  try dsimp only [St.put,Nat.reduceAdd]
  refine WL.six rfl rfl ⟨by omega,by omega⟩ ?_
  simp only [ek,hby]
  repeat (first|refine W.gob rfl ?_|refine WL.nil ?_|refine WL.bt rfl rfl rfl zqo ?_|refine WL.bf rfl rfl rfl zqo ?_|refine WL.e1 rfl ?_|refine WL.gyes rfl rfl rfl rfl ?_|refine WL.opno rfl rfl rfl rfl rfl rfl rfl ?_|refine WL.ar rfl rfl z36i ?_|refine WL.len rfl rfl zql ?_|refine WL.app rfl rfl rfl zqs ?_|refine W.condT rfl ?_|refine W.condF rfl ?_)
  (first|refine (?_:W _ _ _ _ _)|refine (?_:WL _ _ _ _ _ _)|skip)
  try dsimp only [St.put,Nat.reduceAdd]
  refine WL.cut rfl rfl hc ?_
  repeat (first|refine W.gob rfl ?_|refine WL.nil ?_|refine WL.bt rfl rfl rfl zqo ?_|refine WL.bf rfl rfl rfl zqo ?_|refine WL.e1 rfl ?_|refine WL.gyes rfl rfl rfl rfl ?_|refine WL.opno rfl rfl rfl rfl rfl rfl rfl ?_|refine WL.ar rfl rfl z36i ?_|refine WL.len rfl rfl zql ?_|refine WL.app rfl rfl rfl zqs ?_|refine W.condT rfl ?_|refine W.condF rfl ?_)
  (first|refine (?_:W _ _ _ _ _)|refine (?_:WL _ _ _ _ _ _)|skip)
  try dsimp only [St.put,Nat.reduceAdd]
  refine ⟨k+1,by omega,by omega,?_⟩
  rw [h1,h2,hmap]
  exact (zqu (fun q=>bif Nat.beq q 0 then 2 else q) (by repeat (first|exact trivial|refine ⟨⟨?_,?_,?_⟩,?_⟩|rfl|exact congrArg (fun q=>some (AO.row _ _ q)) (by first|rfl|(simp;done)|(simp [eInt];done)|(simp [eLk];done)))) rfl)
 ·obtain ⟨h1,h2⟩:=rq_s_no (hpe.trans (decide_eq_false hb))
  obtain ⟨fr,hfr⟩:∃ z,rq_sF 32 t.length t k=z:=⟨_,rfl⟩
  rw [hfr] at hf h1 ⊢
  repeat (first|refine W.gob rfl ?_|refine WL.nil ?_|refine WL.bt rfl rfl rfl zqo ?_|refine WL.bf rfl rfl rfl zqo ?_|refine WL.e1 rfl ?_|refine WL.gyes rfl rfl rfl rfl ?_|refine WL.opno rfl rfl rfl rfl rfl rfl rfl ?_|refine WL.ar rfl rfl z36i ?_|refine WL.len rfl rfl zql ?_|refine WL.app rfl rfl rfl zqs ?_|refine W.condT rfl ?_|refine W.condF rfl ?_)
  (first|refine (?_:W _ _ _ _ _)|refine (?_:WL _ _ _ _ _ _)|skip)
  try dsimp only [St.put,Nat.reduceAdd]
  refine WL.six rfl rfl ⟨by omega,by omega⟩ ?_
  simp only [ek,hby]
  repeat (first|refine W.gob rfl ?_|refine WL.nil ?_|refine WL.bt rfl rfl rfl zqo ?_|refine WL.bf rfl rfl rfl zqo ?_|refine WL.e1 rfl ?_|refine WL.gyes rfl rfl rfl rfl ?_|refine WL.opno rfl rfl rfl rfl rfl rfl rfl ?_|refine WL.ar rfl rfl z36i ?_|refine WL.len rfl rfl zql ?_|refine WL.app rfl rfl rfl zqs ?_|refine W.condT rfl ?_|refine W.condF rfl ?_)
  (first|refine (?_:W _ _ _ _ _)|refine (?_:WL _ _ _ _ _ _)|skip)
  try dsimp only [St.put,Nat.reduceAdd]
  refine ⟨k+1,by omega,by omega,?_⟩
  rw [h1,h2]
  exact (zqu (fun q=>q) (by repeat (first|exact trivial|refine ⟨⟨?_,?_,?_⟩,?_⟩|rfl|exact congrArg (fun q=>some (AO.row _ _ q)) (by first|rfl|(simp;done)|(simp [eInt];done)|(simp [eLk];done)))) rfl)
end
section
open Go.RowKit
theorem rLines_FS (t:List UInt8) (hl:t.length≤1000000):Ctr Tryz.prog 23 [.sc (.string (bs t))] (.tu [.ls 1 ((if (rq_spl 10 t).2=[] then (rq_spl 10 t).1 else (rq_spl 10 t).1++[(rq_spl 10 t).2]).map eTx),.sc (.bool (decide ((rq_spl 10 t).2=[])))]):=by
 obtain ⟨q1,q2,q3,q4⟩:=rq_lines_end t
 obtain ⟨tl,htl⟩:∃ z,(rq_spl 10 t).2=z:=⟨_,rfl⟩
 obtain ⟨lz,hlz⟩:∃ z,(rq_spl 10 t).1=z:=⟨_,rfl⟩
 rw [htl] at q2 q3 q4 ⊢
 rw [hlz] at q1 ⊢
 refine zqe Tryz.func23 Tryz.ntmps23 fun w0 F0=>?_;dsimp only [St.init,number,Nat.reduceAdd]
 repeat (first|refine W.gob rfl ?_|refine WL.nil ?_|refine WL.bt rfl rfl rfl zqo ?_|refine WL.bf rfl rfl rfl zqo ?_|refine WL.e1 rfl ?_|refine WL.ar rfl rfl z36i ?_|refine WL.len rfl rfl zql ?_|refine WL.app rfl rfl rfl zqs ?_|refine W.condT rfl ?_|refine W.condF rfl ?_)
 (first|refine (?_:W _ _ _ _ _)|refine (?_:WL _ _ _ _ _ _)|skip)
 try dsimp only [St.put,Nat.reduceAdd]
 refine W.tr (Tr.nil (t:=2) 9 1 rfl rfl) ?_
 refine W.loop (fun k:Nat=>k≤t.length) (fun k=>⟨[(0,.sc (.string (bs t))),(2,.sl 0),(4,.sc (.int .i64 (rq_sF 10 (t.length+1) t k:Nat))),(5,.sc (.int .i64 k))],[(0,.row 9 1 ((rq_sR 10 (t.length+1) t k).map eTx))],1⟩) (fun k=>t.length - k) 0 zqo (zqt id) fun k hk=>?_
 have hf:=rq_sF_le 10 (t.length+1) t k
 have hr:=rq_sR_len 10 (t.length+1) t k
 have hmap:∀ (a:List (List UInt8)) x,((a++[x]).map eTx)=a.map eTx++[eTx x]:=fun a x=>by rw [List.map_append];rfl
 by_cases hlt:k < t.length
 rotate_left
 ·obtain rfl:k=t.length:=by omega
  rw [q1] at hr ⊢
  rw [q2] at hf ⊢
  by_cases h0:tl=[]
  ·subst h0
   rw [if_pos rfl,decide_eq_true rfl,List.length_nil,Nat.sub_zero]
   repeat (first|refine W.gob rfl ?_|refine WL.nil ?_|refine WL.bt rfl rfl rfl zqo ?_|refine WL.bf rfl rfl rfl zqo ?_|refine WL.e1 rfl ?_|refine WL.ar rfl rfl z36i ?_|refine WL.len rfl rfl zql ?_|refine WL.app rfl rfl rfl zqs ?_|refine W.condT rfl ?_|refine W.condF rfl ?_)
   (first|refine (?_:W _ _ _ _ _)|refine (?_:WL _ _ _ _ _ _)|skip)
   try dsimp only [St.put,Nat.reduceAdd]
   refine W.tr (Tr.freeze 0 rfl) ?_
   exact W.ret (finN rfl rfl rfl rfl)
  ·rw [if_neg h0,decide_eq_false h0,hmap]
   have hp:0 < tl.length:=List.length_pos_iff.2 h0
   obtain ⟨fr,hfr⟩:∃ z,t.length - tl.length=z:=⟨_,rfl⟩
   rw [hfr] at q4 hf ⊢
   have hc:0≤((fr:Nat):Int)∧((fr:Nat):Int)≤(t.length:Int)∧(t.length:Int)≤(t.length:Int):=by omega
   repeat (first|refine W.gob rfl ?_|refine WL.nil ?_|refine WL.bt rfl rfl rfl zqo ?_|refine WL.bf rfl rfl rfl zqo ?_|refine WL.e1 rfl ?_|refine WL.ar rfl rfl z36i ?_|refine WL.len rfl rfl zql ?_|refine WL.app rfl rfl rfl zqs ?_|refine W.condT rfl ?_|refine W.condF rfl ?_)
   (first|refine (?_:W _ _ _ _ _)|refine (?_:WL _ _ _ _ _ _)|skip)
   try dsimp only [St.put,Nat.reduceAdd]
   refine WL.cut rfl rfl hc ?_
   rw [q4]
   repeat (first|refine W.gob rfl ?_|refine WL.nil ?_|refine WL.bt rfl rfl rfl zqo ?_|refine WL.bf rfl rfl rfl zqo ?_|refine WL.e1 rfl ?_|refine WL.ar rfl rfl z36i ?_|refine WL.len rfl rfl zql ?_|refine WL.app rfl rfl rfl zqs ?_|refine W.condT rfl ?_|refine W.condF rfl ?_)
   (first|refine (?_:W _ _ _ _ _)|refine (?_:WL _ _ _ _ _ _)|skip)
   try dsimp only [St.put,Nat.reduceAdd]
   refine W.tr (Tr.freeze 2 rfl) ?_
   exact W.ret (finN rfl rfl rfl rfl)
 have ek:((k:Nat):Int).toNat=k:=Int.toNat_natCast k
 have hpe:=rq_sP_ge (c:=10) (e:=t.length+1) hlt zqo
 obtain ⟨by_,hby⟩:∃ z,((t.getD k 0).toNat:Int)=z:=⟨_,rfl⟩
 rw [hby] at hpe
 by_cases hb:by_=10
 ·obtain ⟨h1,h2⟩:=rq_s_hit (hpe.trans (decide_eq_true hb))
  obtain ⟨fr,hfr⟩:∃ z,rq_sF 10 (t.length+1) t k=z:=⟨_,rfl⟩
  rw [hfr] at hf h2 ⊢
  have hc:0≤((fr:Nat):Int)∧((fr:Nat):Int)≤(k:Int)∧(k:Int)≤(t.length:Int):=by omega
  repeat (first|refine W.gob rfl ?_|refine WL.nil ?_|refine WL.bt rfl rfl rfl zqo ?_|refine WL.bf rfl rfl rfl zqo ?_|refine WL.e1 rfl ?_|refine WL.ar rfl rfl z36i ?_|refine WL.len rfl rfl zql ?_|refine WL.app rfl rfl rfl zqs ?_|refine W.condT rfl ?_|refine W.condF rfl ?_)
  (first|refine (?_:W _ _ _ _ _)|refine (?_:WL _ _ _ _ _ _)|skip)
  try dsimp only [St.put,Nat.reduceAdd]
  refine WL.six rfl rfl ⟨by omega,by omega⟩ ?_
  simp only [ek,hby]
  repeat (first|refine W.gob rfl ?_|refine WL.nil ?_|refine WL.bt rfl rfl rfl zqo ?_|refine WL.bf rfl rfl rfl zqo ?_|refine WL.e1 rfl ?_|refine WL.ar rfl rfl z36i ?_|refine WL.len rfl rfl zql ?_|refine WL.app rfl rfl rfl zqs ?_|refine W.condT rfl ?_|refine W.condF rfl ?_)
  (first|refine (?_:W _ _ _ _ _)|refine (?_:WL _ _ _ _ _ _)|skip)
  try dsimp only [St.put,Nat.reduceAdd]
  refine WL.cut rfl rfl hc ?_
  repeat (first|refine W.gob rfl ?_|refine WL.nil ?_|refine WL.bt rfl rfl rfl zqo ?_|refine WL.bf rfl rfl rfl zqo ?_|refine WL.e1 rfl ?_|refine WL.ar rfl rfl z36i ?_|refine WL.len rfl rfl zql ?_|refine WL.app rfl rfl rfl zqs ?_|refine W.condT rfl ?_|refine W.condF rfl ?_)
  (first|refine (?_:W _ _ _ _ _)|refine (?_:WL _ _ _ _ _ _)|skip)
  try dsimp only [St.put,Nat.reduceAdd]
  refine ⟨k+1,by omega,by omega,?_⟩
  rw [h1,h2,hmap]
  exact (zqu (fun q=>bif Nat.beq q 0 then 2 else q) (by repeat (first|exact trivial|refine ⟨⟨?_,?_,?_⟩,?_⟩|rfl|exact congrArg (fun q=>some (AO.row _ _ q)) (by first|rfl|(simp;done)|(simp [eInt];done)|(simp [eLk];done)))) rfl)
 ·obtain ⟨h1,h2⟩:=rq_s_no (hpe.trans (decide_eq_false hb))
  obtain ⟨fr,hfr⟩:∃ z,rq_sF 10 (t.length+1) t k=z:=⟨_,rfl⟩
  rw [hfr] at hf h1 ⊢
  repeat (first|refine W.gob rfl ?_|refine WL.nil ?_|refine WL.bt rfl rfl rfl zqo ?_|refine WL.bf rfl rfl rfl zqo ?_|refine WL.e1 rfl ?_|refine WL.ar rfl rfl z36i ?_|refine WL.len rfl rfl zql ?_|refine WL.app rfl rfl rfl zqs ?_|refine W.condT rfl ?_|refine W.condF rfl ?_)
  (first|refine (?_:W _ _ _ _ _)|refine (?_:WL _ _ _ _ _ _)|skip)
  try dsimp only [St.put,Nat.reduceAdd]
  refine WL.six rfl rfl ⟨by omega,by omega⟩ ?_
  simp only [ek,hby]
  repeat (first|refine W.gob rfl ?_|refine WL.nil ?_|refine WL.bt rfl rfl rfl zqo ?_|refine WL.bf rfl rfl rfl zqo ?_|refine WL.e1 rfl ?_|refine WL.ar rfl rfl z36i ?_|refine WL.len rfl rfl zql ?_|refine WL.app rfl rfl rfl zqs ?_|refine W.condT rfl ?_|refine W.condF rfl ?_)
  (first|refine (?_:W _ _ _ _ _)|refine (?_:WL _ _ _ _ _ _)|skip)
  try dsimp only [St.put,Nat.reduceAdd]
  refine ⟨k+1,by omega,by omega,?_⟩
  rw [h1,h2]
  exact (zqu (fun q=>q) (by repeat (first|exact trivial|refine ⟨⟨?_,?_,?_⟩,?_⟩|rfl|exact congrArg (fun q=>some (AO.row _ _ q)) (by first|rfl|(simp;done)|(simp [eInt];done)|(simp [eLk];done)))) rfl)
theorem rq_numG_all:∀ (w:List UInt8)(n:Nat),(∀ b∈w,48≤b.toNat∧b.toNat≤57)→rq_numG n w=some (w.foldl (fun a b=>10*a+(b.toNat-48)) n)
 | [],n,_=>rfl
 | b::r,n,h=>by
  rw [rq_numG,if_pos (h b (by simp)),rq_numG_all r _ fun x hx=>h x (by simp [hx])];rfl
theorem rq_numG_bad:∀ (w:List UInt8) (n:Nat) (k:Nat) (hk:k<w.length),¬ (48≤w[k].toNat∧w[k].toNat≤57)→rq_numG n w=none
 | b::r,n,0,_,h=>by rw [rq_numG,if_neg (by simpa using h)]
 | b::r,n,k+1,hk,h=>by
  rw [rq_numG]
  split
  ·exact rq_numG_bad r _ k (by simpa using hk) (by simpa using h)
  ·rfl
def rq_valN (w:List UInt8)(k:Nat):Nat:=(w.take k).foldl (fun a b=>10*a+(b.toNat-48)) 0
theorem rq_valN_succ {w:List UInt8} {k:Nat} (hk:k<w.length):rq_valN w (k+1)=10*rq_valN w k+(w[k].toNat-48):=by
 unfold rq_valN
 rw [List.take_succ_eq_append_getElem hk,List.foldl_append];rfl
theorem rNumber_FS (w:List UInt8) (hl:w.length≤1000000):Ctr Tryz.prog 51 [.sc (.string (bs w))] (.tu [.sc (.int .i64 (((rq_numR w).getD 0:Nat):Int)),.sc (.bool (rq_numR w).isSome)]):=by
 by_cases h1:w.length < 1
 ·have e:rq_numR w=none:=if_pos (.inl h1)
  rw [e]
  refine zqe Tryz.func51 Tryz.ntmps51 fun w0 F0=>?_;dsimp only [St.init,number,Nat.reduceAdd]
  repeat (first|refine W.gob rfl ?_|refine WL.nil ?_|refine WL.bt rfl rfl rfl zqo ?_|refine WL.bf rfl rfl rfl zqo ?_|refine WL.e1 rfl ?_|refine WL.gyes rfl rfl rfl rfl ?_|refine WL.opno rfl rfl rfl rfl rfl rfl rfl ?_|refine WL.ar rfl rfl z36i ?_|refine WL.len rfl rfl zql ?_|refine W.condT rfl ?_|refine W.condF rfl ?_)
  (first|refine (?_:W _ _ _ _ _)|refine (?_:WL _ _ _ _ _ _)|skip)
  try dsimp only [St.put,Nat.reduceAdd]
  exact W.ret (finN rfl rfl rfl rfl)
 by_cases h2:3 < w.length
 ·have e:rq_numR w=none:=if_pos (.inr (.inl h2))
  rw [e]
  refine zqe Tryz.func51 Tryz.ntmps51 fun w0 F0=>?_;dsimp only [St.init,number,Nat.reduceAdd]
  repeat (first|refine W.gob rfl ?_|refine WL.nil ?_|refine WL.bt rfl rfl rfl zqo ?_|refine WL.bf rfl rfl rfl zqo ?_|refine WL.e1 rfl ?_|refine WL.gyes rfl rfl rfl rfl ?_|refine WL.opno rfl rfl rfl rfl rfl rfl rfl ?_|refine WL.ar rfl rfl z36i ?_|refine WL.len rfl rfl zql ?_|refine W.condT rfl ?_|refine W.condF rfl ?_)
  (first|refine (?_:W _ _ _ _ _)|refine (?_:WL _ _ _ _ _ _)|skip)
  try dsimp only [St.put,Nat.reduceAdd]
  exact W.ret (finN rfl rfl rfl rfl)
 have ez:((0:Int)).toNat=0:=rfl
 have hz:((w.getD 0 0).toNat:Int)=48↔w.getD 0 0=48:=⟨fun h=>UInt8.toNat_inj.1 (by show _=48;omega),fun h=>by rw [h];rfl⟩
 obtain ⟨b0,hb0⟩:∃ z,((w.getD 0 0).toNat:Int)=z:=⟨_,rfl⟩
 rw [hb0] at hz
 by_cases h3:b0=48∧1 < w.length
 ·have e:rq_numR w=none:=if_pos (.inr (.inr ⟨hz.1 h3.1,h3.2⟩))
  rw [e]
  obtain ⟨h4,h5⟩:=h3
  refine zqe Tryz.func51 Tryz.ntmps51 fun w0 F0=>?_;dsimp only [St.init,number,Nat.reduceAdd]
  repeat (first|refine W.gob rfl ?_|refine WL.nil ?_|refine WL.bt rfl rfl rfl zqo ?_|refine WL.bf rfl rfl rfl zqo ?_|refine WL.e1 rfl ?_|refine WL.gyes rfl rfl rfl rfl ?_|refine WL.opno rfl rfl rfl rfl rfl rfl rfl ?_|refine WL.ar rfl rfl z36i ?_|refine WL.len rfl rfl zql ?_|refine W.condT rfl ?_|refine W.condF rfl ?_)
  (first|refine (?_:W _ _ _ _ _)|refine (?_:WL _ _ _ _ _ _)|skip)
  try dsimp only [St.put,Nat.reduceAdd]
  refine WL.six rfl rfl ⟨by omega,by omega⟩ ?_
  simp only [ez,hb0]
  repeat (first|refine W.gob rfl ?_|refine WL.nil ?_|refine WL.bt rfl rfl rfl zqo ?_|refine WL.bf rfl rfl rfl zqo ?_|refine WL.e1 rfl ?_|refine WL.gyes rfl rfl rfl rfl ?_|refine WL.opno rfl rfl rfl rfl rfl rfl rfl ?_|refine WL.ar rfl rfl z36i ?_|refine WL.len rfl rfl zql ?_|refine W.condT rfl ?_|refine W.condF rfl ?_)
  (first|refine (?_:W _ _ _ _ _)|refine (?_:WL _ _ _ _ _ _)|skip)
  try dsimp only [St.put,Nat.reduceAdd]
  exact W.ret (finN rfl rfl rfl rfl)
 have e:rq_numR w=rq_numG 0 w:=if_neg (by
  rintro (h|h|h)
  ·exact h1 h
  ·exact h2 h
  ·exact h3 ⟨hz.2 h.1,h.2⟩)
 rw [e]
 have key:∀ {Q:Prop},(b0≠48→Q)→(b0=48→w.length≤1→Q)→Q:=fun {Q} f g=>by
  by_cases h:b0=48
  ·exact g h zqo
  ·exact f h
 refine zqe Tryz.func51 Tryz.ntmps51 fun w0 F0=>?_;dsimp only [St.init,number,Nat.reduceAdd]
 repeat (first|refine W.gob rfl ?_|refine WL.nil ?_|refine WL.bt rfl rfl rfl zqo ?_|refine WL.bf rfl rfl rfl zqo ?_|refine WL.e1 rfl ?_|refine WL.gyes rfl rfl rfl rfl ?_|refine WL.opno rfl rfl rfl rfl rfl rfl rfl ?_|refine WL.ar rfl rfl z36i ?_|refine WL.len rfl rfl zql ?_|refine W.condT rfl ?_|refine W.condF rfl ?_)
 (first|refine (?_:W _ _ _ _ _)|refine (?_:WL _ _ _ _ _ _)|skip)
 try dsimp only [St.put,Nat.reduceAdd]
 refine WL.six rfl rfl ⟨by omega,by omega⟩ ?_
 simp only [ez,hb0]
 refine key (fun h4=>?_) (fun h4 h5=>?_)
 all_goals
  repeat (first|refine W.gob rfl ?_|refine WL.nil ?_|refine WL.bt rfl rfl rfl zqo ?_|refine WL.bf rfl rfl rfl zqo ?_|refine WL.e1 rfl ?_|refine WL.gyes rfl rfl rfl rfl ?_|refine WL.opno rfl rfl rfl rfl rfl rfl rfl ?_|refine WL.ar rfl rfl z36i ?_|refine WL.len rfl rfl zql ?_|refine W.condT rfl ?_|refine W.condF rfl ?_)
  (first|refine (?_:W _ _ _ _ _)|refine (?_:WL _ _ _ _ _ _)|skip)
  try dsimp only [St.put,Nat.reduceAdd]
  refine W.loop (fun k:Nat=>k≤w.length∧∀ j (hj:j < w.length),j < k→48≤w[j].toNat∧w[j].toNat≤57) (fun k=>⟨[(0,.sc (.string (bs w))),(4,.sc (.int .i64 (rq_valN w k:Nat))),(5,.sc (.int .i64 k))],[],0⟩) (fun k=>w.length - k) 0 ⟨by omega,fun j hj h=>absurd h zqo⟩ (zqt id) fun k hk=>?_
  obtain ⟨hk,hall⟩:=hk
  by_cases hlt:k < w.length
  rotate_left
  ·obtain rfl:k=w.length:=by omega
   have hg:=rq_numG_all w 0 fun b hb=>by
    obtain ⟨j,hj,rfl⟩:=List.mem_iff_getElem.1 hb
    exact hall j hj hj
   have hv:rq_valN w w.length=w.foldl (fun a b=>10*a+(b.toNat - 48)) 0:=by unfold rq_valN;rw [List.take_length]
   rw [hg,← hv]
   repeat (first|refine W.gob rfl ?_|refine WL.nil ?_|refine WL.bt rfl rfl rfl zqo ?_|refine WL.bf rfl rfl rfl zqo ?_|refine WL.e1 rfl ?_|refine WL.gyes rfl rfl rfl rfl ?_|refine WL.opno rfl rfl rfl rfl rfl rfl rfl ?_|refine WL.ar rfl rfl z36i ?_|refine WL.len rfl rfl zql ?_|refine W.condT rfl ?_|refine W.condF rfl ?_)
   (first|refine (?_:W _ _ _ _ _)|refine (?_:WL _ _ _ _ _ _)|skip)
   try dsimp only [St.put,Nat.reduceAdd]
   exact W.ret (finN rfl rfl rfl rfl)
  have ek:((k:Nat):Int).toNat=k:=Int.toNat_natCast k
  have hgd:w.getD k 0=w[k]:=by rw [List.getD_eq_getElem?_getD,List.getElem?_eq_getElem hlt];rfl
  have hbad:=rq_numG_bad w 0 k hlt
  have hvs:=rq_valN_succ hlt
  have hvb:rq_valN w k < 100:=by
   have h10:(10:Nat) ^ k≤10 ^ 2:=Nat.pow_le_pow_right zqo zqo
   have:∀ k,k≤w.length→(∀ j (hj:j < w.length),j < k→48≤w[j].toNat∧w[j].toNat≤57)→rq_valN w k < 10 ^ k:=fun k=>by
    induction k with
    | zero=>intro _ _;simp [rq_valN]
    | succ k ih =>
     intro hk' ha
     have i1:=ih zqo fun j hj hjk=>ha j hj zqo
     have i2:=ha k zqo zqo
     rw [rq_valN_succ (by omega),Nat.pow_succ];omega
   have:=this k hk hall
   have e2:(10:Nat) ^ 2=100:=rfl
   omega
  have hnx:48≤w[k].toNat∧w[k].toNat≤57→∀ j (hj:j < w.length),j < k+1→48≤w[j].toNat∧w[j].toNat≤57:=fun h j hj hjk=>by
   by_cases e:j=k
   ·subst e;exact h
   ·exact hall j hj zqo
  obtain ⟨c,hc⟩:∃ z,w[k].toNat=z:=⟨_,rfl⟩
  rw [hc] at hbad hvs hnx
  have hcc:((w.getD k 0).toNat:Int)=(c:Int):=by rw [hgd,hc]
  obtain ⟨v,hv⟩:∃ z,rq_valN w k=z:=⟨_,rfl⟩
  rw [hv] at hvs hvb ⊢
  clear hall
  by_cases c1:c < 48
  ·rw [hbad (by omega)]
   repeat (first|refine W.gob rfl ?_|refine WL.nil ?_|refine WL.bt rfl rfl rfl zqo ?_|refine WL.bf rfl rfl rfl zqo ?_|refine WL.e1 rfl ?_|refine WL.gyes rfl rfl rfl rfl ?_|refine WL.opno rfl rfl rfl rfl rfl rfl rfl ?_|refine WL.ar rfl rfl z36i ?_|refine WL.len rfl rfl zql ?_|refine W.condT rfl ?_|refine W.condF rfl ?_)
   (first|refine (?_:W _ _ _ _ _)|refine (?_:WL _ _ _ _ _ _)|skip)
   try dsimp only [St.put,Nat.reduceAdd]
   refine WL.six rfl rfl ⟨by omega,by omega⟩ ?_
   simp only [ek,hcc]
   repeat (first|refine W.gob rfl ?_|refine WL.nil ?_|refine WL.bt rfl rfl rfl zqo ?_|refine WL.bf rfl rfl rfl zqo ?_|refine WL.e1 rfl ?_|refine WL.gyes rfl rfl rfl rfl ?_|refine WL.opno rfl rfl rfl rfl rfl rfl rfl ?_|refine WL.ar rfl rfl z36i ?_|refine WL.len rfl rfl zql ?_|refine W.condT rfl ?_|refine W.condF rfl ?_)
   (first|refine (?_:W _ _ _ _ _)|refine (?_:WL _ _ _ _ _ _)|skip)
   try dsimp only [St.put,Nat.reduceAdd]
   exact W.ret (finN rfl rfl rfl rfl)
  by_cases c2:57 < c
  ·rw [hbad (by omega)]
   repeat (first|refine W.gob rfl ?_|refine WL.nil ?_|refine WL.bt rfl rfl rfl zqo ?_|refine WL.bf rfl rfl rfl zqo ?_|refine WL.e1 rfl ?_|refine WL.gyes rfl rfl rfl rfl ?_|refine WL.opno rfl rfl rfl rfl rfl rfl rfl ?_|refine WL.ar rfl rfl z36i ?_|refine WL.len rfl rfl zql ?_|refine W.condT rfl ?_|refine W.condF rfl ?_)
   (first|refine (?_:W _ _ _ _ _)|refine (?_:WL _ _ _ _ _ _)|skip)
   try dsimp only [St.put,Nat.reduceAdd]
   refine WL.six rfl rfl ⟨by omega,by omega⟩ ?_
   simp only [ek,hcc]
   repeat (first|refine W.gob rfl ?_|refine WL.nil ?_|refine WL.bt rfl rfl rfl zqo ?_|refine WL.bf rfl rfl rfl zqo ?_|refine WL.e1 rfl ?_|refine WL.gyes rfl rfl rfl rfl ?_|refine WL.opno rfl rfl rfl rfl rfl rfl rfl ?_|refine WL.ar rfl rfl z36i ?_|refine WL.len rfl rfl zql ?_|refine W.condT rfl ?_|refine W.condF rfl ?_)
   (first|refine (?_:W _ _ _ _ _)|refine (?_:WL _ _ _ _ _ _)|skip)
   try dsimp only [St.put,Nat.reduceAdd]
   refine WL.six rfl rfl ⟨by omega,by omega⟩ ?_
   simp only [ek,hcc]
   repeat (first|refine W.gob rfl ?_|refine WL.nil ?_|refine WL.bt rfl rfl rfl zqo ?_|refine WL.bf rfl rfl rfl zqo ?_|refine WL.e1 rfl ?_|refine WL.gyes rfl rfl rfl rfl ?_|refine WL.opno rfl rfl rfl rfl rfl rfl rfl ?_|refine WL.ar rfl rfl z36i ?_|refine WL.len rfl rfl zql ?_|refine W.condT rfl ?_|refine W.condF rfl ?_)
   (first|refine (?_:W _ _ _ _ _)|refine (?_:WL _ _ _ _ _ _)|skip)
   try dsimp only [St.put,Nat.reduceAdd]
   exact W.ret (finN rfl rfl rfl rfl)
  have hn2:=hnx zqo
  clear hbad hnx
  repeat (first|refine W.gob rfl ?_|refine WL.nil ?_|refine WL.bt rfl rfl rfl zqo ?_|refine WL.bf rfl rfl rfl zqo ?_|refine WL.e1 rfl ?_|refine WL.gyes rfl rfl rfl rfl ?_|refine WL.opno rfl rfl rfl rfl rfl rfl rfl ?_|refine WL.ar rfl rfl z36i ?_|refine WL.len rfl rfl zql ?_|refine W.condT rfl ?_|refine W.condF rfl ?_)
  (first|refine (?_:W _ _ _ _ _)|refine (?_:WL _ _ _ _ _ _)|skip)
  try dsimp only [St.put,Nat.reduceAdd]
  refine WL.six rfl rfl ⟨by omega,by omega⟩ ?_
  simp only [ek,hcc]
  repeat (first|refine W.gob rfl ?_|refine WL.nil ?_|refine WL.bt rfl rfl rfl zqo ?_|refine WL.bf rfl rfl rfl zqo ?_|refine WL.e1 rfl ?_|refine WL.gyes rfl rfl rfl rfl ?_|refine WL.opno rfl rfl rfl rfl rfl rfl rfl ?_|refine WL.ar rfl rfl z36i ?_|refine WL.len rfl rfl zql ?_|refine W.condT rfl ?_|refine W.condF rfl ?_)
  (first|refine (?_:W _ _ _ _ _)|refine (?_:WL _ _ _ _ _ _)|skip)
  try dsimp only [St.put,Nat.reduceAdd]
  refine WL.six rfl rfl ⟨by omega,by omega⟩ ?_
  simp only [ek,hcc]
  repeat (first|refine W.gob rfl ?_|refine WL.nil ?_|refine WL.bt rfl rfl rfl zqo ?_|refine WL.bf rfl rfl rfl zqo ?_|refine WL.e1 rfl ?_|refine WL.gyes rfl rfl rfl rfl ?_|refine WL.opno rfl rfl rfl rfl rfl rfl rfl ?_|refine WL.ar rfl rfl z36i ?_|refine WL.len rfl rfl zql ?_|refine W.condT rfl ?_|refine W.condF rfl ?_)
  (first|refine (?_:W _ _ _ _ _)|refine (?_:WL _ _ _ _ _ _)|skip)
  try dsimp only [St.put,Nat.reduceAdd]
  refine WL.six rfl rfl ⟨by omega,by omega⟩ ?_
  simp only [ek,hcc]
  repeat (first|refine W.gob rfl ?_|refine WL.nil ?_|refine WL.bt rfl rfl rfl zqo ?_|refine WL.bf rfl rfl rfl zqo ?_|refine WL.e1 rfl ?_|refine WL.gyes rfl rfl rfl rfl ?_|refine WL.opno rfl rfl rfl rfl rfl rfl rfl ?_|refine WL.ar rfl rfl z36i ?_|refine WL.len rfl rfl zql ?_|refine W.condT rfl ?_|refine W.condF rfl ?_)
  (first|refine (?_:W _ _ _ _ _)|refine (?_:WL _ _ _ _ _ _)|skip)
  try dsimp only [St.put,Nat.reduceAdd]
  refine WL.sb8 rfl rfl zqo ?_
  refine WL.cvt rfl rfl rfl (I64.wrap z36i) ?_
  repeat (first|refine W.gob rfl ?_|refine WL.nil ?_|refine WL.bt rfl rfl rfl zqo ?_|refine WL.bf rfl rfl rfl zqo ?_|refine WL.e1 rfl ?_|refine WL.gyes rfl rfl rfl rfl ?_|refine WL.opno rfl rfl rfl rfl rfl rfl rfl ?_|refine WL.ar rfl rfl z36i ?_|refine WL.len rfl rfl zql ?_|refine W.condT rfl ?_|refine W.condF rfl ?_)
  (first|refine (?_:W _ _ _ _ _)|refine (?_:WL _ _ _ _ _ _)|skip)
  try dsimp only [St.put,Nat.reduceAdd]
  refine ⟨k+1,⟨by omega,hn2⟩,by omega,?_⟩
  rw [hvs,show ((10*v+(c - 48):Nat):Int)=10*(v:Int)+((c:Int) - 48) by omega]
  exact (zqu (fun q=>q) (by repeat (first|exact trivial|refine ⟨⟨?_,?_,?_⟩,?_⟩|rfl|exact congrArg (fun q=>some (AO.row _ _ q)) (by first|rfl|(simp;done)|(simp [eInt];done)|(simp [eLk];done)))) rfl)
end
end Go.Proofs.YtockempedekkkaaGreatDoor
