/- A piece among the arguments, as a tree. -/
import Derived.Test.YtaeelcfjkhfpkaaGreatG1Sq
import Derived.Test.YtaeelcfjkhfpkaaGreatOp2Sq
set_option maxHeartbeats 8000000
set_option maxRecDepth 100000
set_option linter.unusedVariables false
set_option linter.unusedSimpArgs false
namespace Go.Proofs.YtaeelcfjkhfpkaaGreat
section
open Go.RowKit
def eSy (s:Int):List AV:=[.sc (.int .u8 s)]
def canB(p:Pce)(s:Int):Bool:=lksE s p == 0 && ((lksR s p).length:Int) == 0
def sysL (p:Pce):List Int:=if pceE p=0 then ([1,2,3,4]:List Int).filter (canB p)else []
theorem WV.addU {P:Program} {C:Cx} {σ:St} {o:Oper} {T Ty:TypeId} {x y:Operand} {m n z:Int} (ho:o.op=.binOp .add T x y Ty)(hx:σ.ev x=some (.sc (.int .u8 m)))(hy:σ.ev y=some (.sc (.int .u8 n)))(hz:IntKind.u8.wrap (m+n)=z):WV P C o σ (.sc (.int .u8 z)) :=
 WV.sc fun G a w ok=>by unfold execOp;simp [ho,ok.evs hx,ok.evs hy,eqGuard,binOp,Op.intArith,hz]
theorem able_FS (p:Pce) (hO:PcOk p):Ctr Tryz.prog 76 [ePce p,.ls 1 (([1,2,3,4]:List Int).map eSy)] (.ls 1 ((([1,2,3,4]:List Int).filter (canB p)).map eSy)):=by
 obtain ⟨SY,hSY⟩:∃ z,([1,2,3,4]:List Int)=z:=⟨_,rfl⟩
 have hl4:SY.length=4:=by rw [← hSY];rfl
 rw [hSY]
 have hAt:∀ k (h:k < SY.length),(SY.map eSy)[((k:Nat):Int).toNat]?=some [.sc (.int .u8 SY[k])]:=fun k h=>by
  rw [Int.toNat_natCast,List.getElem?_map,List.getElem?_eq_getElem h];rfl
 have hEl:(SY.map eSy).length=SY.length:=List.length_map _
 have hnx:∀ k (h:k < SY.length),((SY.take (k+1)).filter (canB p)).map eSy=((SY.take k).filter (canB p)).map eSy++(if canB p SY[k]=true then [[.sc (.int .u8 SY[k])]] else []):=fun k h=>by
  rw [List.take_succ_eq_append_getElem h,List.filter_append,List.map_append]
  congr 1
  rw [List.filter_cons,List.filter_nil]
  split<;>rfl
 have hRl:∀ k,(((SY.take k).filter (canB p)).map eSy).length≤4:=fun k=>by
  rw [List.length_map]
  have:=List.length_filter_le (canB p) (SY.take k)
  rw [List.length_take] at this
  omega
 obtain ⟨SE,hSE⟩:∃ z,SY.map eSy=z:=⟨_,rfl⟩
 rw [hSE] at hAt hEl ⊢
 clear hSE hSY
 refine zqe Tryz.func76 Tryz.ntmps76 fun w0 F0=>?_;dsimp only [St.init,number,Nat.reduceAdd]
 repeat (first|refine W.gob rfl ?_|refine WL.nil ?_|refine WL.e1 rfl ?_|refine WL.len rfl rfl rfl ?_)
 refine (?_:W _ _ _ _ _)
 refine W.tr (Tr.nil (t:=5) 22 1 rfl rfl) ?_
 dsimp only [St.put,St.new,St.upd,Nat.reduceAdd]
 refine (?_:W _ _ _ _ _)
 refine W.loop (fun k:Nat=>k≤SY.length) (fun k=>⟨[(2,.pt 0 0 0),(5,.sl 1),(8,.ls 1 SE),(9,.sc (.int .i64 SE.length)),(10,.sc (.int .i64 k))],[(0,.box 29 [.ls 3 (p.cs.map eCrs),.ls 1 (p.st.map eInt),.ls 6 (p.evs.map eEv)]),(1,.row 22 1 (((SY.take k).filter (canB p)).map eSy))],2⟩) (fun k=>SY.length - k) 0 zqo (zqt id) fun k hk=>?_
 by_cases hlt:k < SY.length
 ·have h1:=hAt k hlt
  have h2:=hnx k hlt
  have h3:=hRl k
  have hC:Ctr Tryz.prog 28 [.sc (.int .u8 SY[k]),.ag [.ls 3 (p.cs.map eCrs),.ls 1 (p.st.map eInt),.ls 6 (p.evs.map eEv)]] (.sc (.bool (canB p SY[k]))):=pCan_FS SY[k] p hO
  obtain ⟨R,hR⟩:∃ z,((SY.take k).filter (canB p)).map eSy=z:=⟨_,rfl⟩
  rw [hR] at h2 h3 ⊢
  cases hb:canB p SY[k] with
  | true =>
   rw [hb] at hC h2
   rw [if_pos rfl] at h2
   repeat (first|refine W.gob rfl ?_|refine WL.nil ?_|refine WL.bt rfl rfl rfl zqo ?_|refine W.condT rfl ?_)
   refine (?_:WL _ _ _ _ _ _)
   refine WL.idx rfl rfl zqo h1 ?_
   repeat (first|refine W.gob rfl ?_|refine WL.nil ?_|refine WL.e1 rfl ?_)
   refine (?_:WL _ _ _ _ _ _)
   refine WL.vl rfl (zqc Tryz.func28 hC) ?_
   repeat (first|refine W.gob rfl ?_|refine WL.nil ?_|refine WL.e1 rfl ?_|refine WL.ar rfl rfl (by unfold I64;omega) ?_|refine WL.app rfl rfl rfl zqs ?_|refine W.condT rfl ?_)
   exact ⟨k+1,by omega,by omega,(zqu (fun q=>bif Nat.beq q 1 then 3 else q) (by repeat (first|exact trivial|refine ⟨⟨?_,?_,?_⟩,?_⟩|rfl|exact congrArg (fun q=>some (AO.row _ _ q)) h2.symm)) rfl)⟩
  | false =>
   rw [hb] at hC h2
   rw [if_neg (by simp),List.append_nil] at h2
   repeat (first|refine W.gob rfl ?_|refine WL.nil ?_|refine WL.bt rfl rfl rfl zqo ?_|refine W.condT rfl ?_)
   refine (?_:WL _ _ _ _ _ _)
   refine WL.idx rfl rfl zqo h1 ?_
   repeat (first|refine W.gob rfl ?_|refine WL.nil ?_|refine WL.e1 rfl ?_)
   refine (?_:WL _ _ _ _ _ _)
   refine WL.vl rfl (zqc Tryz.func28 hC) ?_
   repeat (first|refine W.gob rfl ?_|refine WL.nil ?_|refine WL.e1 rfl ?_|refine WL.ar rfl rfl (by unfold I64;omega) ?_|refine W.condF rfl ?_)
   exact ⟨k+1,by omega,by omega,(zqu (fun q=>q) (by repeat (first|exact trivial|refine ⟨⟨?_,?_,?_⟩,?_⟩|rfl|exact congrArg (fun q=>some (AO.row _ _ q)) h2.symm)) rfl)⟩
 ·obtain rfl:k=SY.length:=by omega
  rw [List.take_length]
  repeat (first|refine W.gob rfl ?_|refine WL.nil ?_|refine WL.bf rfl rfl rfl zqo ?_|refine WL.e1 rfl ?_|refine W.condF rfl ?_)
  refine (?_:W _ _ _ _ _)
  refine W.tr (Tr.freeze 1 rfl) ?_
  exact W.ret zqr
theorem pSystems_FS (p:Pce) (hO:PcOk p):Ctr Tryz.prog 26 [ePce p] (.tu [.ls 1 ((sysL p).map eSy),.sc (.int .i64 (pceE p))]):=by
 have hC:=pCheck_FS p hO
 have hA:=able_FS p hO
 have hPe:ePce p=.ag [.ls 3 (p.cs.map eCrs),.ls 1 (p.st.map eInt),.ls 6 (p.evs.map eEv)]:=rfl
 by_cases h0:pceE p=0
 ·rw [show sysL p=_ from if_pos h0,h0]
  rw [h0] at hC
  rw [hPe] at hA hC ⊢
  obtain ⟨R,hR⟩:∃ z,(([1,2,3,4]:List Int).filter (canB p)).map eSy=z:=⟨_,rfl⟩
  rw [hR] at hA ⊢
  have hA:Ctr Tryz.prog 76 [.ag [.ls 3 (p.cs.map eCrs),.ls 1 (p.st.map eInt),.ls 6 (p.evs.map eEv)],.ls 1 [[.sc (.int .u8 1)],[.sc (.int .u8 2)],[.sc (.int .u8 3)],[.sc (.int .u8 4)]]] (.ls 1 R):=hA
  refine zqe Tryz.func26 Tryz.ntmps26 fun w0 F0=>?_;dsimp only [St.init,number,Nat.reduceAdd]
  repeat (first|refine W.gob rfl ?_|refine WL.nil ?_|refine WL.e1 rfl ?_)
  refine (?_:WL _ _ _ _ _ _)
  refine WL.vl rfl (zqc Tryz.func45 hC) ?_
  repeat (first|refine W.gob rfl ?_|refine WL.nil ?_|refine WL.nf rfl rfl rfl zqo ?_|refine WL.e1 rfl ?_|refine W.condF rfl ?_)
  refine (?_:WL _ _ _ _ _ _)
  refine WL.tr (Tr.freeze 1 rfl) ?_
  refine WL.vl rfl (zqc Tryz.func76 hA) ?_
  repeat (first|refine WL.nil ?_|refine WL.e1 rfl ?_)
  refine (?_:W _ _ _ _ _)
  exact W.ret (finN rfl rfl rfl rfl)
 ·rw [show sysL p=[] from if_neg h0]
  obtain ⟨E,hE⟩:∃ z,pceE p=z:=⟨_,rfl⟩
  rw [hE] at hC h0 ⊢
  rw [hPe] at hC ⊢
  refine zqe Tryz.func26 Tryz.ntmps26 fun w0 F0=>?_;dsimp only [St.init,number,Nat.reduceAdd]
  repeat (first|refine W.gob rfl ?_|refine WL.nil ?_|refine WL.e1 rfl ?_)
  refine (?_:WL _ _ _ _ _ _)
  refine WL.vl rfl (zqc Tryz.func45 hC) ?_
  repeat (first|refine W.gob rfl ?_|refine WL.nil ?_|refine WL.nt rfl rfl rfl zqo ?_|refine WL.e1 rfl ?_|refine W.condT rfl ?_)
  refine (?_:W _ _ _ _ _)
  refine W.tr (Tr.nilLs (t:=2) 1 rfl) ?_
  exact W.ret (finN rfl rfl rfl rfl)
theorem sy_at (p:Pce):∀ k,k≤4→((([1,2,3,4]:List Int).take k).filter (canB p)).length≤4:=fun k _=>by
 have:=List.length_filter_le (canB p) (([1,2,3,4]:List Int).take k)
 rw [List.length_take]at this
 have:([1,2,3,4]:List Int).length=4:=rfl
 omega
theorem rSystems_FS (p:Pce) (hO:PcOk p):Ctr Tryz.prog 27 [ePce p] (.tu [.ls 1 ((sysL p).map eSy),.sc (.int .i64 (pceE p))]):=by
 have hC:=rCheck_FS p hO
 have hPe:ePce p=.ag [.ls 3 (p.cs.map eCrs),.ls 1 (p.st.map eInt),.ls 6 (p.evs.map eEv)]:=rfl
 by_cases h0:pceE p=0
 rotate_left
 ·rw [show sysL p=[] from if_neg h0]
  obtain ⟨E,hE⟩:∃ z,pceE p=z:=⟨_,rfl⟩
  rw [hE] at hC h0 ⊢
  rw [hPe] at hC ⊢
  refine zqe Tryz.func27 Tryz.ntmps27 fun w0 F0=>?_;dsimp only [St.init,number,Nat.reduceAdd]
  repeat (first|refine W.gob rfl ?_|refine WL.nil ?_|refine WL.e1 rfl ?_)
  refine (?_:WL _ _ _ _ _ _)
  refine WL.vl rfl (zqc Tryz.func20 hC) ?_
  repeat (first|refine W.gob rfl ?_|refine WL.nil ?_|refine WL.nt rfl rfl rfl zqo ?_|refine WL.e1 rfl ?_|refine W.condT rfl ?_)
  refine (?_:W _ _ _ _ _)
  refine W.tr (Tr.nilLs (t:=2) 1 rfl) ?_
  exact W.ret (finN rfl rfl rfl rfl)
 rw [show sysL p=_ from if_pos h0,h0]
 rw [h0] at hC
 have hCn:∀ s,Ctr Tryz.prog 77 [.sc (.int .u8 s),.ag [.ls 3 (p.cs.map eCrs),.ls 1 (p.st.map eInt),.ls 6 (p.evs.map eEv)]] (.sc (.bool (canB p s))):=fun s=>rCan_FS s p hO
 have hRl:=sy_at p
 have hnx:∀ k,k < 4→((([1,2,3,4]:List Int).take (k+1)).filter (canB p)).map eSy=((([1,2,3,4]:List Int).take k).filter (canB p)).map eSy++(if canB p ((k:Int)+1)=true then [[.sc (.int .u8 ((k:Int)+1))]] else []):=fun k hk=>by
  have e:([1,2,3,4]:List Int)[k]'(show k < 4 from hk)=(k:Int)+1:=by
   match k,hk with
   | 0,_=>rfl
   | 1,_=>rfl
   | 2,_=>rfl
   | 3,_=>rfl
  rw [List.take_succ_eq_append_getElem (show k < ([1,2,3,4]:List Int).length from hk),List.filter_append,List.map_append]
  congr 1
  rw [e,List.filter_cons,List.filter_nil]
  split<;>rfl
 have hend:(([1,2,3,4]:List Int).take 4).filter (canB p)=([1,2,3,4]:List Int).filter (canB p):=rfl
 have h00:((([1,2,3,4]:List Int).take 0).filter (canB p)).map eSy=[]:=rfl
 obtain ⟨LS,hLS⟩:∃ z:Nat→List Int,(fun k=>(([1,2,3,4]:List Int).take k).filter (canB p))=z:=⟨_,rfl⟩
 have hLe:∀ k,(([1,2,3,4]:List Int).take k).filter (canB p)=LS k:=fun k=>by rw [← hLS]
 simp only [hLe] at hRl hnx h00
 rw [← hend,hLe]
 rw [hPe] at hC ⊢
 clear hend hLe hLS
 refine zqe Tryz.func27 Tryz.ntmps27 fun w0 F0=>?_;dsimp only [St.init,number,Nat.reduceAdd]
 repeat (first|refine W.gob rfl ?_|refine WL.nil ?_|refine WL.e1 rfl ?_)
 refine (?_:WL _ _ _ _ _ _)
 refine WL.vl rfl (zqc Tryz.func20 hC) ?_
 repeat (first|refine W.gob rfl ?_|refine WL.nil ?_|refine WL.nf rfl rfl rfl zqo ?_|refine WL.e1 rfl ?_|refine W.condF rfl ?_)
 refine (?_:W _ _ _ _ _)
 refine W.tr (Tr.nil (t:=5) 22 1 rfl rfl) ?_
 dsimp only [St.put,St.new,St.upd,Nat.reduceAdd]
 refine (?_:W _ _ _ _ _)
 refine W.loop (fun k:Nat=>k≤4) (fun k=>⟨[(1,.pt 0 0 0),(5,.sl 1),(6,.sc (.int .u8 ((k:Int)+1)))],[(0,.box 29 [.ls 3 (p.cs.map eCrs),.ls 1 (p.st.map eInt),.ls 6 (p.evs.map eEv)]),(1,.row 22 1 ((LS k).map eSy))],2⟩) (fun k=>4 - k) 0 zqo (zqu (fun q=>q) (by repeat (first|exact trivial|refine ⟨⟨?_,?_,?_⟩,?_⟩|rfl|exact congrArg (fun q=>some (AO.row _ _ q)) h00.symm)) rfl) fun k hk=>?_
 have h3:=hRl k hk
 have h3l:((LS k).map eSy).length=(LS k).length:=List.length_map _
 by_cases hlt:k < 4
 ·have h2:=hnx k hlt
  have hCk:=hCn ((k:Int)+1)
  obtain ⟨R,hR⟩:∃ z,(LS k).map eSy=z:=⟨_,rfl⟩
  rw [hR] at h2 h3l ⊢
  cases hb:canB p ((k:Int)+1) with
  | true =>
   rw [hb] at hCk h2
   rw [if_pos rfl] at h2
   repeat (first|refine W.gob rfl ?_|refine WL.nil ?_|refine WL.bt rfl rfl rfl zqo ?_|refine WL.e1 rfl ?_|refine W.condT rfl ?_)
   refine (?_:WL _ _ _ _ _ _)
   refine WL.vl rfl (zqc Tryz.func77 hCk) ?_
   repeat (first|refine W.gob rfl ?_|refine WL.nil ?_|refine WL.e1 rfl ?_|refine WL.app rfl rfl rfl zqs ?_|refine W.condT rfl ?_)
   refine (?_:WL _ _ _ _ _ _)
   refine WL.vl rfl (WV.addU (z:=((k+1:Nat):Int)+1) rfl rfl rfl (by rw [IntKind.wrap_u8];omega)) ?_
   repeat (first|refine WL.nil ?_|refine WL.e1 rfl ?_)
   exact ⟨k+1,by omega,by omega,(zqu (fun q=>bif Nat.beq q 1 then 3 else q) (by repeat (first|exact trivial|refine ⟨⟨?_,?_,?_⟩,?_⟩|rfl|exact congrArg (fun q=>some (AO.row _ _ q)) h2.symm)) rfl)⟩
  | false =>
   rw [hb] at hCk h2
   rw [if_neg (by simp),List.append_nil] at h2
   repeat (first|refine W.gob rfl ?_|refine WL.nil ?_|refine WL.bt rfl rfl rfl zqo ?_|refine WL.e1 rfl ?_|refine W.condT rfl ?_)
   refine (?_:WL _ _ _ _ _ _)
   refine WL.vl rfl (zqc Tryz.func77 hCk) ?_
   repeat (first|refine W.gob rfl ?_|refine WL.nil ?_|refine WL.e1 rfl ?_|refine W.condF rfl ?_)
   refine (?_:WL _ _ _ _ _ _)
   refine WL.vl rfl (WV.addU (z:=((k+1:Nat):Int)+1) rfl rfl rfl (by rw [IntKind.wrap_u8];omega)) ?_
   repeat (first|refine WL.nil ?_|refine WL.e1 rfl ?_)
   exact ⟨k+1,by omega,by omega,(zqu (fun q=>q) (by repeat (first|exact trivial|refine ⟨⟨?_,?_,?_⟩,?_⟩|rfl|exact congrArg (fun q=>some (AO.row _ _ q)) h2.symm)) rfl)⟩
 ·obtain rfl:k=4:=by omega
  repeat (first|refine W.gob rfl ?_|refine WL.nil ?_|refine WL.bf rfl rfl rfl zqo ?_|refine WL.e1 rfl ?_|refine W.condF rfl ?_)
  refine (?_:W _ _ _ _ _)
  refine W.tr (Tr.freeze 1 rfl) ?_
  exact W.ret (finN rfl rfl rfl rfl)
end
section
open Go.RowKit Go.WideShapes Go.ChangeShapes Go.Joins Go.Deep
theorem rp_mem {α:Type} {w:World} {n:Nat} {l:List α} {e:α→List AV} {f:α→List Value} {A:Option Addr} {c B:Nat} (hr:Rd w B n A (l.map f)) (hc:l.length≤c)
  (hf:∀ x,(e x).length=n) (hef:∀ x (j:Nat) av,(e x)[j]?=some av→∃ u,av=.sc u∧(f x)[j]?=some u∧u.oneCell'=true):RP (fun q=>w.cell? q) (.ls n (l.map e)) (.slice A l.length c):=by
 have hcell:∀ ad,A=some ad→∀ (k:Nat) x,l[k]?=some x→∀ (j:Nat) u,(f x)[j]?=some u→w.cell? (ad.add (k*n+j))=some u:=fun ad had k x hk j u hu=>by
  have hl:0<(l.map f).length:=by have:=(List.getElem?_eq_some_iff.1 hk).1;simp;omega
  obtain ⟨ad',e',_,h2⟩:=hr hl
  rw [had] at e'
  cases e'
  exact h2 k (f x) (by rw [List.getElem?_map,hk];rfl) j u hu
 have key:∀ (i:Nat) r (j:Nat) av,(l.map e)[i]?=some r→r[j]?=some av→∃ x u,l[i]?=some x∧av=.sc u∧(f x)[j]?=some u∧u.oneCell'=true:=fun i r j av hr' hav=>by
  rw [List.getElem?_map] at hr'
  cases hx:l[i]? with
  | none=>simp [hx] at hr'
  | some x =>
   rw [hx] at hr'
   obtain rfl:e x=r:=by simpa using hr'
   obtain ⟨u,a,b,c⟩:=hef x j av hav
   exact ⟨x,u,rfl,a,b,c⟩
 have hlen:l.length=(l.map e).length:=by simp
 rw [hlen]
 refine .ls n (l.map e) A c (A.getD ⟨0,0,none⟩) (fun i j=>((l[i]?).bind fun x=>(f x)[j]?).getD undef) (by simpa using hc) (fun r hr'=>?_) (fun hp=>?_) (fun i r j av hr' hav=>?_) (fun i r j av hr' hav=>?_)
 ·obtain ⟨x,_,rfl⟩:=List.mem_map.1 hr';exact hf x
 ·obtain ⟨ad,e',_⟩:=hr (by simpa using hp)
  rw [e'];rfl
 ·obtain ⟨x,u,h1,h2,h3,h4⟩:=key i r j av hr' hav
  obtain ⟨ad,e',_⟩:=hr (by have:=(List.getElem?_eq_some_iff.1 h1).1;simp;omega)
  simp only [h1,Option.bind_some,h3,Option.getD_some]
  rw [e']
  exact ⟨hcell ad e' i x h1 j u h3,h4⟩
 ·obtain ⟨x,u,h1,h2,h3,h4⟩:=key i r j av hr' hav
  simp only [h1,Option.bind_some,h3,Option.getD_some,h2]
  exact .sc u
theorem eStp_of(x:Stp)(j:Nat)(av:AV)(h:(eStp x)[j]?=some av):∃ u,av=.sc u∧(stpCells x)[j]?=some u∧u.oneCell'=true:=by
 match j with
 | 0=>cases h;exact⟨_,rfl,rfl,rfl⟩
 | 1=>cases h;exact⟨_,rfl,rfl,rfl⟩
 | 2=>cases h;exact⟨_,rfl,rfl,rfl⟩
 | 3=>cases h;exact⟨_,rfl,rfl,rfl⟩
 | 4=>cases h;exact⟨_,rfl,rfl,rfl⟩
 | j+5=>simp [eStp]at h
section
variable {H:Type} {enc:TypeId×Value→H} {w:World} {base:Nat} {spare:Nat→Bool} {held:Bool}
theorem cap_of_trod {n k c:Nat} {T e:TypeId} {A:Option Addr} {x:DataW H×List MemPlace} (hu:Tryz.prog.underlying T=some (.slice e))(h:DataW.trod enc Tryz.prog w base spare held n T [.slice A k c]=some x):k≤c:=by
 rcases open_slice (P:=Tryz.prog) hu h with⟨h0,_⟩|⟨a,len,cap,m,n',D,Pl,hcs,hb,hl,hm,hmm,_,hi⟩
 ·simp at h0;omega
 ·simp at hcs;omega
theorem open_events_rp {n:Nat} {v:Value} {x:DataW H×List MemPlace} (h:DataW.trod enc Tryz.prog w base spare held n 27 [v]=some x) :
  ∃ evs:List Ev,RP (fun q=>w.cell? q) (.ls 6 (evs.map eEv)) v:=by
 rcases open_slice (P:=Tryz.prog) Tryz.underlying27 h with⟨h0,_⟩|⟨a,len,cap,m,n',D,Pl,hcs,hb,hl,hm,hmm,_,hi⟩
 ·obtain rfl:v=.slice none 0 0:=by simpa using h0
  exact ⟨[],.ls 6 [] none 0 ⟨0,0,none⟩ (fun _ _=>undef) (by simp) (by simp) (fun h=>absurd h (by simp)) (fun i r j av h=>by simp at h) (fun i r j av h=>by simp at h)⟩
 ·obtain rfl:v=.slice (some a) len cap:=by simpa using hcs
  have hlm:len≤m:=by rw [hmm];split<;>omega
  obtain ⟨l,hlen,hq⟩:=list_of (Q:=fun i (x:Ev×(Option Addr×Nat))=>(∀ j u,(evCells x.1 x.2)[j]?=some u→w.cell? (a.add (i*6+j))=some u)∧StpsAt w w.heap.size x.2.1 x.1.stops∧x.1.stops.length≤x.2.2) len (fun i hil=>by
   obtain ⟨cs',hc,ht'⟩:=hi i zqo
   rw [cellsEvent] at hc
   obtain ⟨ys,n2,_,_,hlen,hys,hf⟩:=DataW.trod_struct Tryz.underlying45 ht'
   obtain ⟨_,hcl,hat⟩:=World.cells?_some hc
   match cs',hcl with
   | [u0,u1,u2,u3,u4,u5],_ =>
    have f0:DataW.trod enc Tryz.prog w base spare held n2 4 [u0]=ys[0]?:=by simpa [cellsBool] using hf 0 _ rfl
    have f1:DataW.trod enc Tryz.prog w base spare held n2 42 [u1,u2,u3]=ys[1]?:=by simpa [cellsSign'] using hf 1 _ rfl
    have f2:DataW.trod enc Tryz.prog w base spare held n2 4 [u4]=ys[2]?:=by simpa [cellsBool] using hf 2 _ rfl
    have f3:DataW.trod enc Tryz.prog w base spare held n2 43 [u5]=ys[3]?:=by simpa [cellsStops] using hf 3 _ rfl
    have gy:∀ j,j<4→∃ y,ys[j]?=some y:=fun j hj=>⟨_,List.getElem?_eq_getElem (by rw [hys];exact hj)⟩
    obtain ⟨y0,hy0⟩:=gy 0 zqo
    obtain ⟨y1,hy1⟩:=gy 1 zqo
    obtain ⟨y2,hy2⟩:=gy 2 zqo
    obtain ⟨y3,hy3⟩:=gy 3 zqo
    rw [hy0] at f0;rw [hy1] at f1;rw [hy2] at f2;rw [hy3] at f3
    obtain ⟨zs,n3,_,_,_,hzs,hg⟩:=DataW.trod_struct Tryz.underlying42 f1
    have s0:DataW.trod enc Tryz.prog w base spare held n3 3 [u1]=zs[0]?:=by simpa [cellsInt] using hg 0 _ rfl
    have s1:DataW.trod enc Tryz.prog w base spare held n3 4 [u2]=zs[1]?:=by simpa [cellsBool] using hg 1 _ rfl
    have s2:DataW.trod enc Tryz.prog w base spare held n3 4 [u3]=zs[2]?:=by simpa [cellsBool] using hg 2 _ rfl
    have gz:∀ j,j<3→∃ y,zs[j]?=some y:=fun j hj=>⟨_,List.getElem?_eq_getElem (by rw [hzs];exact hj)⟩
    obtain ⟨z0,hz0⟩:=gz 0 zqo
    obtain ⟨z1,hz1⟩:=gz 1 zqo
    obtain ⟨z2,hz2⟩:=gz 2 zqo
    rw [hz0] at s0;rw [hz1] at s1;rw [hz2] at s2
    obtain ⟨b0,e0,_⟩:=DataW.trod_bool Tryz.underlying4 f0
    obtain ⟨b1,e1,_,_⟩:=DataW.trod_int Tryz.underlying3 s0
    obtain ⟨b2,e2,_⟩:=DataW.trod_bool Tryz.underlying4 s1
    obtain ⟨b3,e3,_⟩:=DataW.trod_bool Tryz.underlying4 s2
    obtain ⟨b4,e4,_⟩:=DataW.trod_bool Tryz.underlying4 f2
    obtain ⟨S,c,l,e5,hlc,_,hS⟩:=open_stops f3
    simp only [List.cons.injEq,and_true] at e0 e1 e2 e3 e4
    subst e0 e1 e2 e3 e4 e5
    refine ⟨(⟨b0,b1,b2,b3,b4,l⟩,(S,c)),fun j u hu=>?_,hS,hlc⟩
    have hj:j<6:=(List.getElem?_eq_some_iff.1 hu).1
    have:=hat j hj
    rw [add_of_add] at this
    rw [this]
    exact hu)
  refine ⟨l.map (·.1),?_⟩
  have hll:len=((l.map (·.1)).map eEv).length:=by simp [hlen]
  have key:∀ (i:Nat) r (j:Nat) av,((l.map (·.1)).map eEv)[i]?=some r→r[j]?=some av→∃ x u,l[i]?=some x∧(evCells x.1 x.2)[j]?=some u∧w.cell? (a.add (i*6+j))=some u∧u.oneCell'=true∧RP (fun q=>w.cell? q) av u:=fun i r j av hr hav=>by
   rw [List.map_map,List.getElem?_map] at hr
   cases hx:l[i]? with
   | none=>simp [hx] at hr
   | some x =>
    rw [hx] at hr
    obtain rfl:eEv x.1=r:=by simpa using hr
    obtain ⟨hkl,hkx⟩:=List.getElem?_eq_some_iff.1 hx
    have q:=hq i hkl
    rw [hkx] at q
    have fin:∀ u,(evCells x.1 x.2)[j]?=some u→u.oneCell'=true→RP (fun q=>w.cell? q) av u→∃ x' u,some x=some x'∧(evCells x'.1 x'.2)[j]?=some u∧w.cell? (a.add (i*6+j))=some u∧u.oneCell'=true∧RP (fun q=>w.cell? q) av u:=fun u h1 h2 h3=>⟨x,u,rfl,h1,q.1 j u h1,h2,h3⟩
    match j with
    | 0=>cases hav;exact fin _ rfl rfl (.sc _)
    | 1=>cases hav;exact fin _ rfl rfl (.sc _)
    | 2=>cases hav;exact fin _ rfl rfl (.sc _)
    | 3=>cases hav;exact fin _ rfl rfl (.sc _)
    | 4=>cases hav;exact fin _ rfl rfl (.sc _)
    | 5=>cases hav;exact fin _ rfl rfl (rp_mem q.2.1 q.2.2 (fun _=>rfl) eStp_of)
    | j+6=>simp [eEv] at hav
  rw [hll]
  refine .ls 6 _ (some a) cap a (fun i j=>((l[i]?).bind fun x=>(evCells x.1 x.2)[j]?).getD undef) (by rw [← hll];exact hl) (fun r hr=>?_) (fun _=>rfl) (fun i r j av hr hav=>?_) (fun i r j av hr hav=>?_)
  ·obtain ⟨x,_,rfl⟩:=List.mem_map.1 hr;rfl
  ·obtain ⟨x,u,h1,h2,h3,h4,_⟩:=key i r j av hr hav
   simp only [h1,Option.bind_some,h2,Option.getD_some]
   exact ⟨h3,h4⟩
  ·obtain ⟨x,u,h1,h2,_,_,h5⟩:=key i r j av hr hav
   simp only [h1,Option.bind_some,h2,Option.getD_some]
   exact h5
theorem open_piece_rp {r:Reach} {b0:Nat} {v:Value} {d:DataW H} {p:List MemPlace} (hv:Value.okWide Tryz.prog w r b0 29 v) (h:DataW.Trod enc Tryz.prog w base spare held 29 v d p) :
  ∃ pc:Pce,RP (fun q=>w.cell? q) (ePce pc) v:=by
 obtain ⟨cs,rfl,hsz⟩:=okWide_struct Tryz.underlying29 hv
 obtain ⟨l⟩:=cs
 match l,hsz.trans cellsPiece with
 | [c0,c1,c2],_ =>
  obtain ⟨fuel,hf⟩:=h
  obtain ⟨ys,n2,_,_,_,hys,hg⟩:=DataW.trod_struct Tryz.underlying29 (by simpa [Value.cells] using hf:DataW.trod enc Tryz.prog w base spare held fuel 29 [c0,c1,c2]=some (d,p))
  have f0:DataW.trod enc Tryz.prog w base spare held n2 26 [c0,c1]=ys[0]?:=by simpa [cellsInstrument] using hg 0 _ rfl
  have f1:DataW.trod enc Tryz.prog w base spare held n2 27 [c2]=ys[1]?:=by simpa [cellsEvents] using hg 1 _ rfl
  obtain ⟨y0,hy0⟩:∃ y,ys[0]?=some y:=⟨_,List.getElem?_eq_getElem (by rw [hys];decide)⟩
  obtain ⟨y1,hy1⟩:∃ y,ys[1]?=some y:=⟨_,List.getElem?_eq_getElem (by rw [hys];decide)⟩
  rw [hy0] at f0;rw [hy1] at f1
  obtain ⟨zs,n3,_,_,_,hzs,hz⟩:=DataW.trod_struct Tryz.underlying26 f0
  have g0:DataW.trod enc Tryz.prog w base spare held n3 23 [c0]=zs[0]?:=by simpa [cellsCourses] using hz 0 _ rfl
  have g1:DataW.trod enc Tryz.prog w base spare held n3 24 [c1]=zs[1]?:=by simpa [cellsInts] using hz 1 _ rfl
  obtain ⟨z0,hz0⟩:∃ y,zs[0]?=some y:=⟨_,List.getElem?_eq_getElem (by rw [hzs];decide)⟩
  obtain ⟨z1,hz1⟩:∃ y,zs[1]?=some y:=⟨_,List.getElem?_eq_getElem (by rw [hzs];decide)⟩
  rw [hz0] at g0;rw [hz1] at g1
  obtain ⟨A1,A2,k1,k2,cs,st,rfl,rfl,l1,l2,hI⟩:=open_ins f0
  obtain ⟨evs,hE⟩:=open_events_rp f1
  have hc1:=cap_of_trod Tryz.underlying23 g0
  have hc2:=cap_of_trod Tryz.underlying24 g1
  refine ⟨⟨cs,st,evs⟩,.ag _ _ rfl fun i av u a b=>?_⟩
  match i with
  | 0=>cases a;cases b;exact rp_mem hI.1 hc1 (fun _=>rfl) eCrs_of
  | 1=>cases a;cases b;exact rp_mem hI.2 hc2 (fun _=>rfl) eInt_of
  | 2=>cases a;cases b;exact hE
  | i+3=>simp at a
end
end
end Go.Proofs.YtaeelcfjkhfpkaaGreat
