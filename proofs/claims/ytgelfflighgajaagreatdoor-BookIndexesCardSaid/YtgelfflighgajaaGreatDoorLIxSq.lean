/- The law BookIndexes. -/
import Derived.Test.YtgelfflighgajaaGreatDoorRIxSq
import Derived.Test.YtgelfflighgajaaGreatDoorCc4Sq
set_option maxHeartbeats 8000000
set_option maxRecDepth 100000
set_option linter.unusedVariables false
set_option linter.unusedSimpArgs false
namespace Go.Proofs.YtgelfflighgajaaGreatDoor
section
open Go.RowKit
theorem z28o {p:Prop} (h:p:=by omega):p:=h
theorem z28i {z:Int} (h:I64 z:=by unfold I64;omega):I64 z:=h
theorem z28s {p:Prop} (h:p:=by first|omega|(simp;done)|(simp;omega)):p:=h
theorem rIndex_no (b:List En) (hB:BkOk b) (n:Int) (h:ixE b n≠0):Ctr Tryz.prog 43 [eBk b,.sc (.int .i64 n)] (.tu [.ls 2 [],.sc (.int .i64 (ixE b n))]):=by
 have hC:=rBkCheck_FS b hB
 by_cases h0:bkE b=0
 rotate_left
 ·rw [(ix_1 h0).1]
  obtain ⟨E,hE⟩:∃ E,bkE b=E:=⟨_,rfl⟩
  rw [hE] at h0 hC ⊢
  refine Ctr.intro Tryz.func43 rfl Tryz.ntmps43 (Nat.le_of_ble_eq_true rfl) (bd_all rfl) fun w0 F0=>?_;dsimp only [St.init,number,Nat.reduceAdd]
  repeat refine W.go rfl ?_
  refine (?_:WL _ _ _ _ _ _)
  refine WL.vl rfl (WV.call rfl (callF Tryz.func60 rfl rfl) rfl rfl hC) ?_
  repeat (first|refine W.gob rfl ?_|refine WL.nil ?_|refine WL.nt rfl rfl rfl z28o ?_|refine WL.e1 rfl ?_|refine W.condT rfl ?_)
  refine (?_:W _ _ _ _ _)
  refine W.tr (Tr.nilR (t:=4) 2 rfl) ?_
  exact W.ret (finN rfl rfl rfl rfl)
 ·have hn:n < 1∨16 < n:=Classical.byContradiction fun hn=>h (ix_3 h0 hn).1
  rw [(ix_2 h0 hn).1]
  rw [h0] at hC
  have hn2:n < 1∨(¬ n < 1∧16 < n):=by omega
  rcases hn2 with hn2|hn2
  all_goals
   refine Ctr.intro Tryz.func43 rfl Tryz.ntmps43 (Nat.le_of_ble_eq_true rfl) (bd_all rfl) fun w0 F0=>?_;dsimp only [St.init,number,Nat.reduceAdd]
   repeat refine W.go rfl ?_
   refine (?_:WL _ _ _ _ _ _)
   refine WL.vl rfl (WV.call rfl (callF Tryz.func60 rfl rfl) rfl rfl hC) ?_
   repeat (first|refine W.gob rfl ?_|refine WL.nil ?_|refine WL.bt rfl rfl rfl z28o ?_|refine WL.bf rfl rfl rfl z28o ?_|refine WL.nf rfl rfl rfl z28o ?_|refine WL.e1 rfl ?_|refine WL.gyes rfl rfl rfl rfl ?_|refine WL.opno rfl rfl rfl rfl rfl rfl rfl ?_|refine W.condT rfl ?_|refine W.condF rfl ?_)
   refine (?_:W _ _ _ _ _)
   refine W.tr (Tr.nilR (t:=4) 2 rfl) ?_
   exact W.ret (finN rfl rfl rfl rfl)
def eBo (x:Bool):List AV:=[.sc (.bool x)]
theorem eBo_set (U:List Bool)(i:Nat)(x:Bool):(U.map eBo).set i (eBo x)=(U.set i x).map eBo:=by rw [List.map_set]
theorem rConc_FS (b:List En) (hB:BkOk b) (n:Int):Ctr Tryz.prog 46 [eBk b,.sc (.int .i64 n)] (.tu [.ls 1 ((conL b n).map eIL),.sc (.int .i64 (ixE b n))]):=by
 by_cases h:ixE b n=0
 rotate_left
 ·have hI:=rIndex_no b hB n h
  rw [show conL b n=[] from if_neg h]
  obtain ⟨E,hE⟩:∃ z,ixE b n=z:=⟨_,rfl⟩
  rw [hE] at h hI ⊢
  refine Ctr.intro Tryz.func46 rfl Tryz.ntmps46 (Nat.le_of_ble_eq_true rfl) (bd_all rfl) fun w0 F0=>?_;dsimp only [St.init,number,Nat.reduceAdd]
  repeat refine W.go rfl ?_
  refine (?_:WL _ _ _ _ _ _)
  refine WL.vl rfl (WV.call rfl (callF Tryz.func43 rfl rfl) rfl rfl hI) ?_
  repeat (first|refine W.gob rfl ?_|refine WL.nil ?_|refine WL.nt rfl rfl rfl z28o ?_|refine WL.e1 rfl ?_|refine W.condT rfl ?_)
  refine (?_:W _ _ _ _ _)
  refine W.tr (Tr.nilR (t:=4) 1 rfl) ?_
  exact W.ret (finN rfl rfl rfl rfl)
 have hBn:=hB.n
 have hBp:=hB.p
 have h0:bkE b=0:=Classical.byContradiction fun h0=>h0 ((ix_1 (n:=n) h0).1.symm.trans h)
 have hn:¬ (n < 1∨16 < n):=fun hn=>by have:=(ix_2 h0 hn).1;omega
 have hI:=rIndexO_FS b hB n h0 hn
 have hEn:=(bkE_zero h0).2
 rw [show conL b n=cnO b n b.length from if_pos h,h]
 obtain ⟨S,hS⟩:∃ z,srt cmR (fun r:Rw=>r.1) (rwK b n b.length)=z:=⟨_,rfl⟩
 rw [hS] at hI
 have hX:∀ k (h:k < b.length),Ctr Tryz.prog 97 [ePce b[k].p,.sc (.int .i64 n)] (.tu [.ls 1 ((rwE k b[k].p n).2.map eInt),.sc (.int .i64 0)]):=fun k hk=>by
  have hF:=rIncipit_FS b[k].p (hBp k hk) n
  obtain ⟨_,hp,_⟩:=enE_zero (hEn k hk)
  have hE0:incE b[k].p n=0:=by unfold incE;rw [if_pos hp,if_neg hn]
  rw [hE0] at hF
  rw [show (rwE k b[k].p n).2=incL b[k].p n from incL_16 hn]
  exact hF
 have hr1:∀ k (h:k < b.length),(rwE k b[k].p n).1=(k:Int):=fun k _=>rfl
 have hBl:(b.map eEn).length=b.length:=List.length_map _
 have hBa:∀ k (h:k < b.length),(b.map eEn)[((k:Nat):Int).toNat]?=some (eEn b[k]):=fun k h=>map_at h
 obtain ⟨BB,hBB⟩:∃ z,b.map eEn=z:=⟨_,rfl⟩
 have hI:Cto truB 0 Tryz.prog 43 [.ag [.ls 5 (b.map eEn)],.sc (.int .i64 n)] [] 0 (.tu [.sl 0,.sc (.int .i64 0)]) [(0,.row 84 2 (S.map eRw))] 1:=hI
 show Ctr Tryz.prog 46 [.ag [.ls 5 (b.map eEn)],.sc (.int .i64 n)] _
 rw [hBB] at hBl hBa hI ⊢
 have hz:List.replicate b.length [AV.sc (.bool false)]=(List.replicate b.length false).map eBo:=by rw [List.map_replicate];rfl
 clear hEn hBp hS
 refine Ctr.intro Tryz.func46 rfl Tryz.ntmps46 (Nat.le_of_ble_eq_true rfl) (bd_all rfl) fun w0 F0=>?_;dsimp only [St.init,number,Nat.reduceAdd]
 repeat refine W.go rfl ?_
 refine (?_:WL _ _ _ _ _ _)
 refine WL.cto (truH _) [] rfl rfl (callF Tryz.func43 rfl rfl) hI rfl rfl rfl trivial rfl rfl rfl rfl ?_
 repeat (first|refine W.gob rfl ?_|refine WL.nil ?_|refine WL.nf rfl rfl rfl z28o ?_|refine WL.e1 rfl ?_|refine WL.len rfl rfl zql ?_|refine W.condF rfl ?_)
 refine (?_:WL _ _ _ _ _ _)
 first|refine W.tr (Tr.nil (t:=8) 23 1 rfl rfl) ?_|refine WL.tr (Tr.nil (t:=8) 23 1 rfl rfl) ?_
 dsimp only [St.put,St.new,St.upd,Nat.reduceAdd]
 refine (?_:WL _ _ _ _ _ _)
 refine WL.mks (x:=⟨4,.bool false,BB.length,BB.length⟩) rfl rfl rfl (show ((BB.length:Nat):Int).toNat=b.length by rw [hBl];simp) ⟨by show 0≤((BB.length:Nat):Int);omega,by show ((BB.length:Nat):Int)≤1000000;omega⟩ ?_
 dsimp only
 rw [hz]
 repeat (first|refine W.gob rfl ?_|refine WL.nil ?_|refine WL.e1 rfl ?_)
 refine (?_:W _ _ _ _ _)
 refine W.loop (fun s:Nat×List Bool=>s.1≤b.length∧s.2.length=b.length∧∀ k (h:k < b.length),s.1≤k→s.2[k]?=some (usB b n s.1 (rwE k b[k].p n))) (fun s=>⟨[(1,.sc (.int .i64 n)),(2,.pt 0 0 0),(8,.sl 1),(9,.sl 2),(10,.sc (.int .i64 s.1))],[(0,.box 48 [.ls 5 BB]),(1,.row 23 1 ((cnO b n s.1).map eIL)),(2,.row 4 1 (s.2.map eBo))],3⟩) (fun s=>b.length - s.1) (0,List.replicate b.length false) ⟨by simp,by simp,fun k hk _=>by rw [List.getElem?_replicate,if_pos hk];rfl⟩ (zqu (fun q=>bif Nat.beq q 1 then 2 else bif Nat.beq q 2 then 3 else q) (by repeat (first|exact trivial|refine ⟨⟨?_,?_,?_⟩,?_⟩|rfl|exact congrArg (fun q=>some (AO.row _ _ q)) rfl)) rfl) fun s hs=>?_
 obtain ⟨i,U⟩:=s
 obtain ⟨hi,hUl,hU⟩:=hs
 dsimp only at hi hUl hU ⊢
 by_cases hlt:i < b.length
 rotate_left
 ·obtain rfl:i=b.length:=by omega
  clear hX hr1 hBa hU
  repeat (first|refine W.gob rfl ?_|refine WL.nil ?_|refine WL.bf rfl rfl rfl z28o ?_|refine WL.e1 rfl ?_|refine WL.len rfl rfl zql ?_|refine W.condF rfl ?_)
  refine (?_:W _ _ _ _ _)
  refine W.tr (Tr.freeze 1 rfl) ?_
  exact W.ret (finN rfl rfl rfl rfl)
 have ha:=hBa i hlt
 have hF:=hX i hlt
 have hr:=hr1 i hlt
 have hUi:=hU i hlt (Nat.le_refl _)
 have hUml:(U.map eBo).length=U.length:=List.length_map _
 have huat:(U.map eBo)[((i:Nat):Int).toNat]?=some (eBo (usB b n i (rwE i b[i].p n))):=by rw [Int.toNat_natCast,List.getElem?_map,hUi];rfl
 have hskip:=cnO_skip (b:=b) (n:=n) hlt
 have hskU:=us_skip (b:=b) (n:=n) hlt
 have hnew:=cn_new (b:=b) (n:=n) hlt
 have hg0:=grK_0 b n (rwE i b[i].p n) hlt
 have hgs:∀ j (hj:j < b.length),i < j→grK b n (rwE i b[i].p n) i (j+1)=if (rwE j b[j].p n).2=(rwE i b[i].p n).2 then grK b n (rwE i b[i].p n) i j++[rwE j b[j].p n] else grK b n (rwE i b[i].p n) i j:=fun j hj hij=>grK_s hij hj
 have hgl:∀ j,j≤b.length→(grK b n (rwE i b[i].p n) i j).length≤b.length:=fun j hj=>by
  unfold grK
  have h1:=List.length_filter_le (alk (rwE i b[i].p n)) ((rwK b n j).drop (i+1))
  have h2:=rwK_len (b:=b) (n:=n) hj
  rw [List.length_drop] at h1
  omega
 have hr16:=(rwE i b[i].p n).3
 obtain ⟨r,hrr⟩:∃ z,rwE i b[i].p n=z:=⟨_,rfl⟩
 rw [hrr] at hF hr huat hskip hskU hnew hg0 hgl hr16
 simp only [hrr] at hgs
 obtain ⟨e,he⟩:∃ z,b[i]=z:=⟨_,rfl⟩
 rw [he] at ha hF
 have hrml:(r.2.map eInt).length=r.2.length:=List.length_map _
 clear he hUi
 by_cases hsk:usB b n i r=true∨¬ lng n r=true
 ·have hnx:(cnO b n i).map eIL=(cnO b n (i+1)).map eIL:=by rw [hskip hsk]
  have hU':∀ k (h:k < b.length),i+1≤k→U[k]?=some (usB b n (i+1) (rwE k b[k].p n)):=fun k hk hik=>by rw [(hskU hsk).2];exact hU k hk (by omega)
  cases hu:usB b n i r with
  | true =>
   rw [hu] at huat
   have huat:(U.map eBo)[((i:Nat):Int).toNat]?=some [.sc (.bool true)]:=huat
   clear hX hr1 hBa hU hskip hskU hnew hg0 hgs hgl hsk
   repeat (first|refine W.gob rfl ?_|refine WL.nil ?_|refine WL.bt rfl rfl rfl z28o ?_|refine WL.e1 rfl ?_|refine WL.len rfl rfl zql ?_|refine W.condT rfl ?_)
   refine (?_:WL _ _ _ _ _ _)
   refine WL.idx rfl rfl z28o ha ?_
   repeat refine WL.e1 rfl ?_
   refine (?_:WL _ _ _ _ _ _)
   refine WL.vl rfl (WV.call rfl (callF Tryz.func97 rfl rfl) rfl rfl hF) ?_
   repeat (first|refine W.gob rfl ?_|refine WL.nil ?_|refine WL.e1 rfl ?_|refine WL.ixs rfl rfl z28s ?_)
   refine (?_:WL _ _ _ _ _ _)
   refine WL.ldr rfl rfl huat rfl rfl ?_
   repeat (first|refine W.gob rfl ?_|refine WL.nil ?_|refine WL.e1 rfl ?_|refine WL.opno rfl rfl rfl rfl rfl rfl rfl ?_|refine WL.ar rfl rfl z28i ?_|refine W.condT rfl ?_)
   refine ⟨(i+1,U),⟨by show i+1≤_;omega,hUl,hU'⟩,by show b.length - (i+1) < b.length - i;omega,?_⟩
   exact (zqu (fun q=>q) (by repeat (first|exact trivial|refine ⟨⟨?_,?_,?_⟩,?_⟩|rfl|exact congrArg (fun q=>some (AO.row _ _ q)) hnx)) rfl)
  | false =>
   rw [hu] at huat
   have huat:(U.map eBo)[((i:Nat):Int).toNat]?=some [.sc (.bool false)]:=huat
   have hlen:(r.2.length:Int) < n:=by
    rcases hsk with hsk|hsk
    ·rw [hu] at hsk;cases hsk
    ·simpa [lng] using hsk
   clear hX hr1 hBa hU hskip hskU hnew hg0 hgs hgl hsk
   repeat (first|refine W.gob rfl ?_|refine WL.nil ?_|refine WL.bt rfl rfl rfl z28o ?_|refine WL.e1 rfl ?_|refine WL.len rfl rfl zql ?_|refine W.condT rfl ?_)
   refine (?_:WL _ _ _ _ _ _)
   refine WL.idx rfl rfl z28o ha ?_
   repeat refine WL.e1 rfl ?_
   refine (?_:WL _ _ _ _ _ _)
   refine WL.vl rfl (WV.call rfl (callF Tryz.func97 rfl rfl) rfl rfl hF) ?_
   repeat (first|refine W.gob rfl ?_|refine WL.nil ?_|refine WL.e1 rfl ?_|refine WL.ixs rfl rfl z28s ?_)
   refine (?_:WL _ _ _ _ _ _)
   refine WL.ldr rfl rfl huat rfl rfl ?_
   repeat (first|refine W.gob rfl ?_|refine WL.nil ?_|refine WL.bt rfl rfl rfl z28o ?_|refine WL.e1 rfl ?_|refine WL.gyes rfl rfl rfl rfl ?_|refine WL.ar rfl rfl z28i ?_|refine WL.len rfl rfl zql ?_|refine W.condT rfl ?_)
   refine ⟨(i+1,U),⟨by show i+1≤_;omega,hUl,hU'⟩,by show b.length - (i+1) < b.length - i;omega,?_⟩
   exact (zqu (fun q=>q) (by repeat (first|exact trivial|refine ⟨⟨?_,?_,?_⟩,?_⟩|rfl|exact congrArg (fun q=>some (AO.row _ _ q)) hnx)) rfl)
 have hu:usB b n i r=false:=by cases hh:usB b n i r with
  | false=>rfl
  | true=>exact absurd (.inl hh) hsk
 have hlg:lng n r=true:=Classical.byContradiction fun hh=>hsk (.inr hh)
 have hlen:n≤(r.2.length:Int):=by simpa [lng] using hlg
 obtain ⟨hcn,hus⟩:=hnew hu hlg
 rw [hu] at huat
 have huat:(U.map eBo)[((i:Nat):Int).toNat]?=some [.sc (.bool false)]:=huat
 have hfirst:[[AV.sc (.int .i64 (i:Int))]]=(ens (r::grK b n r i (i+1))).map eInt:=by
  rw [hg0]
  show _=[eInt r.1]
  rw [hr];rfl
 clear hskip hskU hnew hg0 hsk
 obtain ⟨CO,hCO⟩:∃ z,cnO b n i=z:=⟨_,rfl⟩
 rw [hCO] at hcn ⊢
 repeat (first|refine W.gob rfl ?_|refine WL.nil ?_|refine WL.bt rfl rfl rfl z28o ?_|refine WL.e1 rfl ?_|refine WL.len rfl rfl zql ?_|refine W.condT rfl ?_)
 refine (?_:WL _ _ _ _ _ _)
 refine WL.idx rfl rfl z28o ha ?_
 repeat refine WL.e1 rfl ?_
 refine (?_:WL _ _ _ _ _ _)
 refine WL.vl rfl (WV.call rfl (callF Tryz.func97 rfl rfl) rfl rfl hF) ?_
 repeat (first|refine W.gob rfl ?_|refine WL.nil ?_|refine WL.e1 rfl ?_|refine WL.ixs rfl rfl z28s ?_)
 refine (?_:WL _ _ _ _ _ _)
 refine WL.ldr rfl rfl huat rfl rfl ?_
 repeat (first|refine W.gob rfl ?_|refine WL.nil ?_|refine WL.bf rfl rfl rfl z28o ?_|refine WL.e1 rfl ?_|refine WL.gyes rfl rfl rfl rfl ?_|refine WL.ar rfl rfl z28i ?_|refine WL.len rfl rfl zql ?_|refine W.condF rfl ?_)
 refine (?_:W _ _ _ _ _)
 refine W.loop (fun s:Nat×List Bool=>i < s.1∧s.1≤b.length∧s.2.length=b.length∧∀ k (h:k < b.length),i < k→s.2[k]?=some (if k < s.1 then usB b n (i+1) (rwE k b[k].p n) else usB b n i (rwE k b[k].p n))) (fun s=>⟨[(1,.sc (.int .i64 n)),(2,.pt 0 0 0),(8,.sl 1),(9,.sl 2),(10,.sc (.int .i64 i)),(11,.ls 1 (r.2.map eInt)),(13,.sl 3),(14,.sc (.int .i64 s.1))],[(0,.box 48 [.ls 5 BB]),(1,.row 23 1 (CO.map eIL)),(2,.row 4 1 (s.2.map eBo)),(3,.row 3 1 ((ens (r::grK b n r i s.1)).map eInt))],4⟩) (fun s=>b.length - s.1) (i+1,U) ⟨by show i < i+1;omega,by show i+1≤_;omega,hUl,fun k hk hik=>by rw [if_neg (by show ¬ k < i+1;omega)];exact hU k hk (by omega)⟩ (zqu (fun q=>q) (by repeat (first|exact trivial|refine ⟨⟨?_,?_,?_⟩,?_⟩|rfl|exact congrArg (fun q=>some (AO.row _ _ q)) hfirst)) rfl) fun s hs=>?_
 obtain ⟨j,V⟩:=s
 obtain ⟨hij,hj,hVl,hV⟩:=hs
 dsimp only at hij hj hVl hV ⊢
 have hVml:(V.map eBo).length=V.length:=List.length_map _
 by_cases hjt:j < b.length
 ·have ha2:=hBa j hjt
  have hF2:=hX j hjt
  have hs1:=hgs j hjt hij
  have hVj:=hV j hjt hij
  rw [if_neg (by omega)] at hVj
  have hvat:(V.map eBo)[((j:Nat):Int).toNat]?=some (eBo (usB b n i (rwE j b[j].p n))):=by rw [Int.toNat_natCast,List.getElem?_map,hVj];rfl
  have hy16:=(rwE j b[j].p n).3
  have hy1:=hr1 j hjt
  have husj:=hus (rwE j b[j].p n)
  have hgl1:=hgl j hj
  have hVn:∀ V':List Bool,V'.length=b.length→(∀ k,k≠j→V'[k]?=V[k]?)→V'[j]?=some (usB b n (i+1) (rwE j b[j].p n))→∀ k (h:k < b.length),i < k→V'[k]?=some (if k < j+1 then usB b n (i+1) (rwE k b[k].p n) else usB b n i (rwE k b[k].p n)):=fun V' hl ho hn k hk hik=>by
   by_cases e:k=j
   ·subst e
    rw [if_pos (by omega)];exact hn
   ·rw [ho k e,hV k hk hik]
    by_cases e2:k < j
    ·rw [if_pos e2,if_pos (by omega)]
    ·rw [if_neg e2,if_neg (by omega)]
  obtain ⟨y,hy⟩:∃ z,rwE j b[j].p n=z:=⟨_,rfl⟩
  rw [hy] at hF2 hs1 hVj hvat hy16 hy1 husj hVn
  obtain ⟨e2,he2⟩:∃ z,b[j]=z:=⟨_,rfl⟩
  rw [he2] at ha2 hF2
  have hS:=sameInts_FS r.2 y.2 z28o z28o
  have hGml:((ens (r::grK b n r i j)).map eInt).length=(grK b n r i j).length+1:=by unfold ens;simp
  by_cases hc:r.2=y.2
  ·have hus1:usB b n (i+1) y=true:=by rw [husj,show alk y r=true from decide_eq_true hc,Bool.or_true]
   rw [decide_eq_true hc] at hS
   rw [if_pos hc.symm] at hs1
   have happ:(ens (r::grK b n r i j)).map eInt++[[.sc (.int .i64 (j:Int))]]=(ens (r::grK b n r i (j+1))).map eInt:=by
    rw [hs1]
    have e:ens (r::(grK b n r i j++[y]))=ens (r::grK b n r i j)++[y.1]:=by
     show r.1::(grK b n r i j++[y]).map (·.1)=r.1::(grK b n r i j).map (·.1)++[y.1]
     rw [List.map_append];rfl
    rw [e,List.map_append,hy1];rfl
   have hset:(V.map eBo).set j [.sc (.bool true)]=(V.set j true).map eBo:=eBo_set V j true
   have hV':=hVn (V.set j true) (by rw [List.length_set];exact hVl) (fun k hk=>List.getElem?_set_ne (by omega)) (by rw [List.getElem?_set_self (by omega),hus1])
   obtain ⟨OLD,hOLD⟩:∃ z,usB b n i y=z:=⟨_,rfl⟩
   rw [hOLD] at hvat
   have hvat:(V.map eBo)[((j:Nat):Int).toNat]?=some [.sc (.bool OLD)]:=hvat
   obtain ⟨GP,hGP⟩:∃ z,(ens (r::grK b n r i j)).map eInt=z:=⟨_,rfl⟩
   rw [hGP] at happ hGml ⊢
   clear hX hr1 hBa hU hgs hgl hus hV hVn hcn hGP hc hs1 hfirst
   repeat (first|refine W.gob rfl ?_|refine WL.nil ?_|refine WL.bt rfl rfl rfl z28o ?_|refine WL.e1 rfl ?_|refine WL.len rfl rfl zql ?_|refine W.condT rfl ?_)
   refine (?_:WL _ _ _ _ _ _)
   refine WL.idx rfl rfl z28o ha2 ?_
   repeat refine WL.e1 rfl ?_
   refine (?_:WL _ _ _ _ _ _)
   refine WL.vl rfl (WV.call rfl (callF Tryz.func97 rfl rfl) rfl rfl hF2) ?_
   repeat (first|refine W.gob rfl ?_|refine WL.nil ?_|refine WL.e1 rfl ?_)
   refine (?_:WL _ _ _ _ _ _)
   refine WL.vl rfl (WV.call rfl (callF Tryz.func44 rfl rfl) rfl rfl hS) ?_
   repeat (first|refine W.gob rfl ?_|refine WL.nil ?_|refine WL.e1 rfl ?_|refine WL.ixs rfl rfl z28s ?_|refine WL.app rfl rfl rfl z28s ?_|refine W.condT rfl ?_)
   refine (?_:WL _ _ _ _ _ _)
   refine WL.sto rfl rfl rfl rfl hvat (by show 0+1≤1;omega) ?_
   repeat (first|refine W.gob rfl ?_|refine WL.nil ?_|refine WL.e1 rfl ?_|refine WL.ar rfl rfl z28i ?_)
   refine ⟨(j+1,V.set j true),⟨by show i < j+1;omega,by show j+1≤_;omega,by show (V.set j true).length=_;rw [List.length_set];exact hVl,hV'⟩,by show b.length - (j+1) < b.length - j;omega,?_⟩
   exact (zqu (fun q=>bif Nat.beq q 3 then 5 else q) (by repeat (first|exact trivial|refine ⟨⟨?_,?_,?_⟩,?_⟩|rfl|exact congrArg (fun q=>some (AO.row _ _ q)) hset|exact congrArg (fun q=>some (AO.row _ _ q)) happ)) rfl)
  ·have hus1:usB b n (i+1) y=usB b n i y:=by rw [husj,show alk y r=false from decide_eq_false hc,Bool.or_false]
   rw [decide_eq_false hc] at hS
   rw [if_neg (fun h=>hc h.symm)] at hs1
   have hV':=hVn V hVl (fun k _=>rfl) (by rw [hus1];exact hVj)
   have hsame:(ens (r::grK b n r i j)).map eInt=(ens (r::grK b n r i (j+1))).map eInt:=by rw [hs1]
   obtain ⟨GP,hGP⟩:∃ z,(ens (r::grK b n r i j)).map eInt=z:=⟨_,rfl⟩
   rw [hGP] at hsame hGml ⊢
   clear hX hr1 hBa hU hgs hgl hus hV hVn hcn hGP hc hs1 hfirst
   repeat (first|refine W.gob rfl ?_|refine WL.nil ?_|refine WL.bt rfl rfl rfl z28o ?_|refine WL.e1 rfl ?_|refine WL.len rfl rfl zql ?_|refine W.condT rfl ?_)
   refine (?_:WL _ _ _ _ _ _)
   refine WL.idx rfl rfl z28o ha2 ?_
   repeat refine WL.e1 rfl ?_
   refine (?_:WL _ _ _ _ _ _)
   refine WL.vl rfl (WV.call rfl (callF Tryz.func97 rfl rfl) rfl rfl hF2) ?_
   repeat (first|refine W.gob rfl ?_|refine WL.nil ?_|refine WL.e1 rfl ?_)
   refine (?_:WL _ _ _ _ _ _)
   refine WL.vl rfl (WV.call rfl (callF Tryz.func44 rfl rfl) rfl rfl hS) ?_
   repeat (first|refine W.gob rfl ?_|refine WL.nil ?_|refine WL.e1 rfl ?_|refine WL.ar rfl rfl z28i ?_|refine W.condF rfl ?_)
   refine ⟨(j+1,V),⟨by show i < j+1;omega,by show j+1≤_;omega,hVl,hV'⟩,by show b.length - (j+1) < b.length - j;omega,?_⟩
   exact (zqu (fun q=>q) (by repeat (first|exact trivial|refine ⟨⟨?_,?_,?_⟩,?_⟩|rfl|exact congrArg (fun q=>some (AO.row _ _ q)) hsame)) rfl)
 ·obtain rfl:j=b.length:=by omega
  have hV':∀ k (h:k < b.length),i+1≤k→V[k]?=some (usB b n (i+1) (rwE k b[k].p n)):=fun k hk hik=>by
   rw [hV k hk (by omega),if_pos hk]
  have hgl1:=hgl b.length hj
  have hGml:((ens (r::grK b n r i b.length)).map eInt).length=(grK b n r i b.length).length+1:=by unfold ens;simp
  by_cases hg:1≤(grK b n r i b.length).length
  ·rw [if_pos hg] at hcn
   have hcm:CO.map eIL++[[.ls 1 ((ens (r::grK b n r i b.length)).map eInt)]]=(cnO b n (i+1)).map eIL:=by rw [hcn,List.map_append];rfl
   obtain ⟨GP,hGP⟩:∃ z,(ens (r::grK b n r i b.length)).map eInt=z:=⟨_,rfl⟩
   rw [hGP] at hcm hGml ⊢
   have hCl0:CO.length≤100000:=by
    rw [← hCO]
    unfold cnO
    rw [List.length_map]
    have h1:=List.length_filter_le two ((fsT (rwL b n i)).map (grp (rwL b n b.length)))
    have h2:=fsT_len (rwL b n i)
    have h3:=List.length_filter_le (lng n) (rwK b n i)
    have h4:=rwK_len (b:=b) (n:=n) hi
    rw [List.length_map] at h1
    have h5:(rwL b n i).length=((rwK b n i).filter (lng n)).length:=rfl
    omega
   have hCl:(CO.map eIL).length≤100000:=by rw [List.length_map];exact hCl0
   clear hX hr1 hBa hU hgs hgl hus hV hcn hGP hfirst
   repeat (first|refine W.gob rfl ?_|refine WL.nil ?_|refine WL.bt rfl rfl rfl z28o ?_|refine WL.bf rfl rfl rfl z28o ?_|refine WL.e1 rfl ?_|refine WL.len rfl rfl zql ?_|refine W.condT rfl ?_|refine W.condF rfl ?_)
   refine (?_:WL _ _ _ _ _ _)
   first|refine W.tr (Tr.freeze 3 rfl) ?_|refine WL.tr (Tr.freeze 3 rfl) ?_
   dsimp only [St.freeze]
   repeat (first|refine W.gob rfl ?_|refine WL.nil ?_|refine WL.e1 rfl ?_|refine WL.ar rfl rfl z28i ?_|refine WL.app rfl rfl rfl z28s ?_)
   refine ⟨(i+1,V),⟨by show i+1≤_;omega,hVl,hV'⟩,by show b.length - (i+1) < b.length - i;omega,?_⟩
   exact (zqu (fun q=>bif Nat.beq q 1 then 5 else q) (by repeat (first|exact trivial|refine ⟨⟨?_,?_,?_⟩,?_⟩|rfl|exact congrArg (fun q=>some (AO.row _ _ q)) hcm)) rfl)
  ·rw [if_neg hg] at hcn
   have hcm:CO.map eIL=(cnO b n (i+1)).map eIL:=by rw [hcn]
   obtain ⟨GP,hGP⟩:∃ z,(ens (r::grK b n r i b.length)).map eInt=z:=⟨_,rfl⟩
   rw [hGP] at hGml ⊢
   clear hX hr1 hBa hU hgs hgl hus hV hcn hGP hfirst
   repeat (first|refine W.gob rfl ?_|refine WL.nil ?_|refine WL.bf rfl rfl rfl z28o ?_|refine WL.e1 rfl ?_|refine WL.ar rfl rfl z28i ?_|refine WL.len rfl rfl zql ?_|refine W.condF rfl ?_)
   refine ⟨(i+1,V),⟨by show i+1≤_;omega,hVl,hV'⟩,by show b.length - (i+1) < b.length - i;omega,?_⟩
   exact (zqu (fun q=>q) (by repeat (first|exact trivial|refine ⟨⟨?_,?_,?_⟩,?_⟩|rfl|exact congrArg (fun q=>some (AO.row _ _ q)) hcm)) rfl)
end
section
open Go.RowKit
theorem cn_many (b:List En) (n:Int):(conL b n).length≤b.length∧∀ g∈conL b n,g.length≤b.length:=by
 unfold conL
 split
 ·have h3:=List.length_filter_le (lng n) (rwK b n b.length)
  have h4:=rwK_len (b:=b) (n:=n) (Nat.le_refl _)
  have h5:(rwL b n b.length).length=((rwK b n b.length).filter (lng n)).length:=rfl
  unfold cnc
  refine ⟨?_,fun g hg=>?_⟩
  ·rw [List.length_map]
   have h1:=List.length_filter_le two (cnG (rwL b n b.length))
   have h2:=cnG_len (rwL b n b.length)
   have h2':=fsT_len (rwL b n b.length)
   omega
  ·obtain ⟨q,hq,rfl⟩:=List.mem_map.1 hg
   obtain ⟨r,_,rfl⟩:=List.mem_map.1 (List.mem_filter.1 hq).1
   have:=grp_len (rwL b n b.length) r
   unfold ens
   rw [List.length_map];omega
 ·exact ⟨Nat.zero_le _,fun g hg=>by cases hg⟩
theorem indexes_G (b:List En) (n:Int):Ctg tabB Tryz.prog 12 [eBk b,.sc (.int .i64 n)] (.sc (.bool true)):=by
 have hbg:=bigBk_FS b
 cases hb:bigT b with
 | true =>
  rw [hb] at hbg
  refine Ctg.intro stabB Tryz.func12 rfl Tryz.ntmps12 (Nat.le_of_ble_eq_true rfl) (bd_all rfl) fun w0 F0 hB=>?_;dsimp only [St.init,number,Nat.reduceAdd]
  repeat (first|refine W.gob rfl ?_|refine WL.nil ?_|refine WL.e1 rfl ?_)
  refine (?_:WL _ _ _ _ _ _)
  refine WL.vl rfl (WV.call rfl (callF Tryz.func21 rfl rfl) rfl rfl hbg) ?_
  repeat (first|refine W.go rfl ?_|refine WL.nil ?_|refine W.condT rfl ?_)
  refine (?_:WL _ _ _ _ _ _)
  refine WL.vl rfl (WV.callG hB rfl (callF Tryz.func15 rfl rfl) rfl rfl works11_G) ?_
  repeat refine WL.ev rfl ?_
  refine (?_:W _ _ _ _ _)
  exact W.ret (fin1 rfl rfl rfl rfl)
 | false =>
 rw [hb] at hbg
 have hO:=bkOk_of hb
 have hBn:=hO.n
 have hCp:=rBkCopy_FS b hO
 have hK1:=pConc_FS b hO n
 have hK2:=rConc_FS b hO n
 obtain ⟨hm1,hm2⟩:=cn_many b n
 by_cases h:ixE b n=0
 rotate_left
 ·have hI1:=pIndex_no b hO n h
  have hI2:=rIndex_no b hO n h
  rw [show conL b n=[] from if_neg h] at hK1 hK2
  obtain ⟨E,hE⟩:∃ z,ixE b n=z:=⟨_,rfl⟩
  rw [hE] at h hI1 hI2 hK1 hK2
  clear hm1 hm2
  refine Ctg.intro stabB Tryz.func12 rfl Tryz.ntmps12 (Nat.le_of_ble_eq_true rfl) (bd_all rfl) fun w0 F0 hB=>?_;dsimp only [St.init,number,Nat.reduceAdd]
  repeat (first|refine W.gob rfl ?_|refine WL.nil ?_|refine WL.e1 rfl ?_)
  refine (?_:WL _ _ _ _ _ _)
  refine WL.vl rfl (WV.call rfl (callF Tryz.func21 rfl rfl) rfl rfl hbg) ?_
  repeat (first|refine W.gob rfl ?_|refine WL.nil ?_|refine WL.e1 rfl ?_|refine W.condF rfl ?_)
  refine (?_:WL _ _ _ _ _ _)
  refine WL.vl rfl (WV.call rfl (callF Tryz.func23 rfl rfl) rfl rfl hCp) ?_
  repeat refine WL.e1 rfl ?_
  refine (?_:WL _ _ _ _ _ _)
  refine WL.vl rfl (WV.call rfl (callF Tryz.func42 rfl rfl) rfl rfl hI1) ?_
  repeat (first|refine W.gob rfl ?_|refine WL.nil ?_|refine WL.e1 rfl ?_)
  refine (?_:WL _ _ _ _ _ _)
  refine WL.vl rfl (WV.call rfl (callF Tryz.func43 rfl rfl) rfl rfl hI2) ?_
  repeat (first|refine W.gob rfl ?_|refine WL.nil ?_|refine WL.nf rfl rfl rfl z28o ?_|refine WL.e1 rfl ?_|refine WL.gyes rfl rfl rfl rfl ?_|refine WL.len rfl rfl zql ?_|refine W.condF rfl ?_)
  refine (?_:W _ _ _ _ _)
  refine W.loop (fun _:Unit=>True) (fun _=>⟨[(1,.sc (.int .i64 n)),(2,.pt 0 0 0),(5,.ls 2 []),(7,.ls 2 []),(9,.sc (.int .i64 0))],[(0,.box 48 [.ls 5 (b.map eEn)])],1⟩) (fun _=>0) () trivial (zqt id) fun _ _=>?_
  repeat (first|refine W.gob rfl ?_|refine WL.nil ?_|refine WL.e1 rfl ?_|refine WL.len rfl rfl zql ?_|refine W.condF rfl ?_)
  refine (?_:WL _ _ _ _ _ _)
  refine WL.vl rfl (WV.call rfl (callF Tryz.func23 rfl rfl) rfl rfl hCp) ?_
  repeat refine WL.e1 rfl ?_
  refine (?_:WL _ _ _ _ _ _)
  refine WL.vl rfl (WV.call rfl (callF Tryz.func45 rfl rfl) rfl rfl hK1) ?_
  repeat (first|refine W.gob rfl ?_|refine WL.nil ?_|refine WL.e1 rfl ?_)
  refine (?_:WL _ _ _ _ _ _)
  refine WL.vl rfl (WV.call rfl (callF Tryz.func46 rfl rfl) rfl rfl hK2) ?_
  repeat (first|refine W.gob rfl ?_|refine WL.nil ?_|refine WL.nf rfl rfl rfl z28o ?_|refine WL.e1 rfl ?_|refine WL.gyes rfl rfl rfl rfl ?_|refine WL.len rfl rfl zql ?_|refine W.condF rfl ?_)
  refine (?_:W _ _ _ _ _)
  refine W.loop (fun _:Unit=>True) (fun _=>⟨[(10,.ls 1 []),(12,.ls 1 []),(14,.sc (.int .i64 0))],[],1⟩) (fun _=>0) () trivial (zqt id) fun _ _=>?_
  repeat (first|refine W.gob rfl ?_|refine WL.nil ?_|refine WL.e1 rfl ?_|refine WL.len rfl rfl zql ?_|refine W.condF rfl ?_)
  refine (?_:WL _ _ _ _ _ _)
  refine WL.vl rfl (WV.callG hB rfl (callF Tryz.func15 rfl rfl) rfl rfl works11_G) ?_
  repeat refine WL.ev rfl ?_
  refine (?_:W _ _ _ _ _)
  exact W.ret (fin1 rfl rfl rfl rfl)
 have h0:bkE b=0:=Classical.byContradiction fun h0=>h0 ((ix_1 (n:=n) h0).1.symm.trans h)
 have hn:¬ (n < 1∨16 < n):=fun hn=>by have:=(ix_2 h0 hn).1;omega
 have hI1:=pIndexO_FS b hO n h0 hn
 have hI2:=rIndexO_FS b hO n h0 hn
 have hkl:=rwK_len (b:=b) (n:=n) (Nat.le_refl _)
 have hSl:=srt_len (cm:=cmR) (en:=fun r:Rw=>r.1) (rwK b n b.length)
 obtain ⟨S,hS⟩:∃ z,srt cmR (fun r:Rw=>r.1) (rwK b n b.length)=z:=⟨_,rfl⟩
 rw [hS] at hI1 hI2 hSl
 rw [h] at hK1 hK2
 have hRl:(S.map eRw).length=S.length:=List.length_map _
 have hRa:∀ k (h:k < S.length),(S.map eRw)[((k:Nat):Int).toNat]?=some [.sc (.int .i64 S[k].1),.ls 1 (S[k].2.map eInt)]:=fun k h=>map_at h
 obtain ⟨RR,hRR⟩:∃ z,S.map eRw=z:=⟨_,rfl⟩
 rw [hRR] at hI1 hI2 hRl hRa
 obtain ⟨D,hD⟩:∃ z,conL b n=z:=⟨_,rfl⟩
 rw [hD] at hK1 hK2 hm1 hm2
 have hDl:(D.map eIL).length=D.length:=List.length_map _
 have hDa:∀ k (h:k < D.length),(D.map eIL)[((k:Nat):Int).toNat]?=some [.ls 1 (D[k].map eInt)]:=fun k h=>map_at h
 obtain ⟨DD,hDD⟩:∃ z,D.map eIL=z:=⟨_,rfl⟩
 rw [hDD] at hK1 hK2 hDl hDa
 refine Ctg.intro stabB Tryz.func12 rfl Tryz.ntmps12 (Nat.le_of_ble_eq_true rfl) (bd_all rfl) fun w0 F0 hB=>?_;dsimp only [St.init,number,Nat.reduceAdd]
 repeat (first|refine W.gob rfl ?_|refine WL.nil ?_|refine WL.e1 rfl ?_)
 refine (?_:WL _ _ _ _ _ _)
 refine WL.vl rfl (WV.call rfl (callF Tryz.func21 rfl rfl) rfl rfl hbg) ?_
 repeat (first|refine W.gob rfl ?_|refine WL.nil ?_|refine WL.e1 rfl ?_|refine W.condF rfl ?_)
 refine (?_:WL _ _ _ _ _ _)
 refine WL.vl rfl (WV.call rfl (callF Tryz.func23 rfl rfl) rfl rfl hCp) ?_
 repeat refine WL.e1 rfl ?_
 refine (?_:WL _ _ _ _ _ _)
 refine WL.cto (truH _) [] rfl rfl (callF Tryz.func42 rfl rfl) hI1 rfl rfl rfl trivial rfl rfl rfl rfl ?_
 repeat (first|refine W.gob rfl ?_|refine WL.nil ?_|refine WL.e1 rfl ?_)
 refine (?_:WL _ _ _ _ _ _)
 refine WL.cto (truH _) [] rfl rfl (callF Tryz.func43 rfl rfl) hI2 rfl rfl rfl trivial rfl rfl rfl rfl ?_
 repeat (first|refine W.gob rfl ?_|refine WL.nil ?_|refine WL.nf rfl rfl rfl z28o ?_|refine WL.e1 rfl ?_|refine WL.gyes rfl rfl rfl rfl ?_|refine WL.len rfl rfl zql ?_|refine W.condF rfl ?_)
 refine (?_:W _ _ _ _ _)
 refine W.tr (Tr.freeze 1 rfl) ?_
 refine W.tr (Tr.freeze 2 rfl) ?_
 dsimp only [St.freeze]
 refine (?_:W _ _ _ _ _)
 refine W.loop (fun k:Nat=>k≤S.length) (fun k=>⟨[(1,.sc (.int .i64 n)),(2,.pt 0 0 0),(5,.ls 2 RR),(7,.ls 2 RR),(9,.sc (.int .i64 k))],[(0,.box 48 [.ls 5 (b.map eEn)])],1⟩) (fun k=>S.length - k) 0 z28o (zqt id) fun k hk=>?_
 by_cases hlt:k < S.length
 ·have hat:=hRa k hlt
  have h16:=S[k].3
  have hSm:=sameInts_FS S[k].2 S[k].2 z28o z28o
  rw [decide_eq_true rfl] at hSm
  obtain ⟨x,hx⟩:∃ z,S[k]=z:=⟨_,rfl⟩
  rw [hx] at hat hSm
  clear hRa hDa hm2
  repeat (first|refine W.gob rfl ?_|refine WL.nil ?_|refine WL.bt rfl rfl rfl z28o ?_|refine WL.e1 rfl ?_|refine WL.len rfl rfl zql ?_|refine W.condT rfl ?_)
  refine (?_:W _ _ _ _ _)
  refine W.drawK (by kernel_rfl) (by kernel_rfl) ?_
  repeat refine DK.st rfl ?_
  refine DK.idx rfl rfl z28o hat ?_
  repeat refine DK.st rfl ?_
  refine DK.idx rfl rfl z28o hat ?_
  repeat (first|refine DK.ff rfl (by first|(simp;done)|fail) ?_|refine DK.st rfl ?_)
  refine DK.idx rfl rfl z28o hat ?_
  repeat refine DK.st rfl ?_
  refine DK.idx rfl rfl z28o hat ?_
  repeat refine DK.st rfl ?_
  refine DK.vl rfl (WV.call rfl (callF Tryz.func44 rfl rfl) rfl rfl hSm) ?_
  repeat (first|refine DK.ff rfl (by first|(simp;done)|fail) ?_|refine DK.nil ?_)
  repeat (first|refine W.gob rfl ?_|refine WL.nil ?_|refine WL.e1 rfl ?_|refine WL.ar rfl rfl z28i ?_|refine W.condF rfl ?_)
  exact ⟨k+1,by omega,by omega,(zqt id)⟩
 obtain rfl:k=S.length:=by omega
 clear hRa
 repeat (first|refine W.gob rfl ?_|refine WL.nil ?_|refine WL.bf rfl rfl rfl z28o ?_|refine WL.e1 rfl ?_|refine WL.len rfl rfl zql ?_|refine W.condF rfl ?_)
 refine (?_:WL _ _ _ _ _ _)
 refine WL.vl rfl (WV.call rfl (callF Tryz.func23 rfl rfl) rfl rfl hCp) ?_
 repeat refine WL.e1 rfl ?_
 refine (?_:WL _ _ _ _ _ _)
 refine WL.vl rfl (WV.call rfl (callF Tryz.func45 rfl rfl) rfl rfl hK1) ?_
 repeat (first|refine W.gob rfl ?_|refine WL.nil ?_|refine WL.e1 rfl ?_)
 refine (?_:WL _ _ _ _ _ _)
 refine WL.vl rfl (WV.call rfl (callF Tryz.func46 rfl rfl) rfl rfl hK2) ?_
 repeat (first|refine W.gob rfl ?_|refine WL.nil ?_|refine WL.nf rfl rfl rfl z28o ?_|refine WL.e1 rfl ?_|refine WL.gyes rfl rfl rfl rfl ?_|refine WL.len rfl rfl zql ?_|refine W.condF rfl ?_)
 refine (?_:W _ _ _ _ _)
 refine W.loop (fun k:Nat=>k≤D.length) (fun k=>⟨[(10,.ls 1 DD),(12,.ls 1 DD),(14,.sc (.int .i64 k))],[],1⟩) (fun k=>D.length - k) 0 z28o (zqt id) fun k hk=>?_
 by_cases hlt:k < D.length
 ·have hat:=hDa k hlt
  have hgl:=hm2 _ (List.getElem_mem hlt)
  have hSm:=sameInts_FS D[k] D[k] z28o z28o
  rw [decide_eq_true rfl] at hSm
  obtain ⟨x,hx⟩:∃ z,D[k]=z:=⟨_,rfl⟩
  rw [hx] at hat hSm
  clear hDa hm2
  repeat (first|refine W.gob rfl ?_|refine WL.nil ?_|refine WL.bt rfl rfl rfl z28o ?_|refine WL.e1 rfl ?_|refine WL.len rfl rfl zql ?_|refine W.condT rfl ?_)
  refine (?_:W _ _ _ _ _)
  refine W.drawK (by kernel_rfl) (by kernel_rfl) ?_
  repeat refine DK.st rfl ?_
  refine DK.idx rfl rfl z28o hat ?_
  repeat refine DK.st rfl ?_
  refine DK.idx rfl rfl z28o hat ?_
  repeat refine DK.st rfl ?_
  refine DK.vl rfl (WV.call rfl (callF Tryz.func44 rfl rfl) rfl rfl hSm) ?_
  repeat (first|refine DK.ff rfl (by first|(simp;done)|fail) ?_|refine DK.nil ?_)
  repeat (first|refine W.gob rfl ?_|refine WL.nil ?_|refine WL.e1 rfl ?_|refine WL.ar rfl rfl z28i ?_|refine W.condF rfl ?_)
  exact ⟨k+1,by omega,by omega,(zqt id)⟩
 obtain rfl:k=D.length:=by omega
 clear hDa hm2
 repeat (first|refine W.gob rfl ?_|refine WL.nil ?_|refine WL.bf rfl rfl rfl z28o ?_|refine WL.e1 rfl ?_|refine WL.len rfl rfl zql ?_|refine W.condF rfl ?_)
 refine (?_:WL _ _ _ _ _ _)
 refine WL.vl rfl (WV.callG hB rfl (callF Tryz.func15 rfl rfl) rfl rfl works11_G) ?_
 repeat refine WL.ev rfl ?_
 refine (?_:W _ _ _ _ _)
 exact W.ret (fin1 rfl rfl rfl rfl)
end
end Go.Proofs.YtgelfflighgajaaGreatDoor
