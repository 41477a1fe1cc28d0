/- Reading of texts: functions of strings and slices as contracts over trees. -/
import Derived.Test.YthohlofpphjofaaGreatDoorRq5Gq
import Derived.Test.YthohlofpphjofaaGreatDoorFZGq
set_option maxHeartbeats 4000000
set_option maxRecDepth 100000
set_option linter.unusedVariables false
set_option linter.unusedSimpArgs false
namespace Go.Proofs.YthohlofpphjofaaGreatDoor
open Go.RowKit
theorem adN {p:Prop}(h:p:=by
 exact hc.mono fun e w' ⟨he,n,hw⟩=>⟨he,by subst hw;exact bel_drewN (Below.refl _ _) _⟩):p:=h
theorem afc {p:Prop}(h:p:=by
 exact ⟨k+1,by omega,by omega,(mP (fun q=>q) BK rfl)⟩):p:=h
theorem kX {p q:Prop}(k:q)(h:aS q→p:=by
 intro hq
 refine DTK.v0 rfl (stepV_of rfl rfl) ?_
 exact hq.k):p:=h ⟨k⟩
theorem yH (c:UInt8) (t:List UInt8) (ht:t.length≤1000000):Ctg jQ Tryz.prog 38 [.sc (.string (bs t)),.sc (.string (bs [c]))] (.ls 1 ((aV c t).map bg)) :=
 Ctg.agU (T:=9) rfl fun w F hB=>by
  obtain ⟨m,hm⟩:=hB.2.2
  have h:=Tryz.strings_Split (bs t) (bs [c]) m w Jp hm (by rw [bs_size];simp)
  have hd:=Lib.splitB_data (bs [c]) 0 (Lib.countB (bs t) (bs [c])) (bs t)
  have hc:Lib.countB (bs t) (bs [c])=Lib.count t [c]:=by
   show Lib.count (bs t).data.toList (bs [c]).data.toList=_
   rw [bs_data,bs_data]
  rw [bs_data,bs_data,hc,KU] at hd
  have hl:=rY c t
  rw [hc] at h
  rw [hl]
  have hv:(Lib.splitB (bs [c]) 0 (Lib.count t [c]) (bs t)).map Value.string=(aV c t).map fun l=>Value.string (bs l):=by
   rw [← hd,oC]
   exact qO fun x _=>by
    show Value.string x=Value.string (bs x.data.toList)
    obtain ⟨l,rfl⟩:=bs_of x
    rw [bs_data]
  rw [hv] at h
  exact h
theorem Wi {F:View} {u v x:Value}:RP F (.tu [.sc u,.sc v,.sc x]) (.tuple #[u,v,x]):=.tu _ _ rfl fun i av y a b=>by
 match i with
 | 0=>cases a;cases b;exact .sc _
 | 1=>cases a;cases b;exact .sc _
 | 2=>cases a;cases b;exact .sc _
 | i+3=>simp at a
theorem aaj (c:UInt8) (l r:List UInt8) (h:aH c l) (hl:l.length+r.length≤1000000):Ctg jQ Tryz.prog 218 [.sc (.string (bs (l++c::r))),.sc (.string (bs [c]))] (.tu [.sc (.string (bs l)),.sc (.string (bs r)),.sc (.bool true)]) :=
 Ctg.SA (v:=.tuple #[.string (bs l),.string (bs r),.bool true]) rfl (fun F=>Wi) fun w F hB=>by
  obtain ⟨m,hm⟩:=hB.2.2
  have hc:=Tryz.strings_Cut (bs (l++c::r)) (bs [c]) m w (by rw [bs_size];simp;omega) hm
  rw [bs_data,bs_data,Za h] at hc
  exact adN
theorem aal (c:UInt8) (l:List UInt8) (h:aH c l) (hl:l.length≤1000000):Ctg jQ Tryz.prog 218 [.sc (.string (bs l)),.sc (.string (bs [c]))] (.tu [.sc (.string (bs l)),.sc (.string (bs [])),.sc (.bool false)]) :=
 Ctg.SA (v:=.tuple #[.string (bs l),.string (bs []),.bool false]) rfl (fun F=>Wi) fun w F hB=>by
  obtain ⟨m,hm⟩:=hB.2.2
  have hc:=Tryz.strings_Cut (bs l) (bs [c]) m w Jp hm
  rw [bs_data,bs_data,Zb h] at hc
  exact adN
def bM(p l:List UInt8):Bool:=p.isPrefixOf l
theorem agY (l p:List UInt8):Ctr Tryz.prog 217 [.sc (.string (bs l)),.sc (.string (bs p))] (.sc (.bool (bM p l))) :=
 Ctr.vS rfl (fun _=>.sc _) fun w=>(Tryz.stringslite_HasPrefix (bs l) (bs p) w).mono fun e w' ⟨he,hw⟩=>⟨by rw [he,bs_data,bs_data];rfl,by subst hw;exact Below.refl _ _⟩
theorem KN (l p:List UInt8):Ctr Tryz.prog 256 [.sc (.string (bs l)),.sc (.string (bs p))] (.sc (.bool (bM p l))) :=
 Ctr.vS rfl (fun _=>.sc _) fun w=>(Tryz.strings_HasPrefix (bs l) (bs p) w).mono fun e w' ⟨he,hw⟩=>⟨by rw [he,bs_data,bs_data];rfl,by subst hw;exact Below.refl _ _⟩
theorem acA (l p:List UInt8) (h:l.length≤1000000):Ctr Tryz.prog 123 [.sc (.string (bs l)),.sc (.string (bs p))] (.sc (.bool (p.isSuffixOf l))) :=
 Ctr.vS rfl (fun _=>.sc _) fun w=>(Tryz.stringslite_HasSuffix (bs l) (bs p) w Jp).mono fun e w' ⟨he,hw⟩=>⟨by rw [he,bs_data,bs_data];rfl,by subst hw;exact Below.refl _ _⟩
theorem Gj (s:List UInt8)(z:Int):Ctr Tryz.prog 235 [.sc (.string (bs s)),.sc (.int .u8 z)] (.sc (.int .i64 (Lib.indexByte s z.toNat.toUInt8))) :=
 Ctr.vS rfl (fun _=>.sc _) fun w=>(Tryz.strings_IndexByte (bs s) z w).mono fun e w'⟨he,hw⟩=>⟨by rw [he,bs_data],hw ▸ Below.refl _ _⟩
theorem QN (l p:List UInt8) (h:l.length≤1000000):Ctr Tryz.prog 157 [.sc (.string (bs l)),.sc (.string (bs p))] (.tu [.sc (.string (bs (if bM p l=true then l.drop p.length else l))),.sc (.bool (bM p l))]):=by
 have hP:=agY l p
 cases hb:bM p l with
 | false =>
  rw [hb] at hP
  refine jc Tryz.func157 Tryz.ntmps157 fun w0 F0=>?_;dsimp only [St.init,number,Nat.reduceAdd]
  refine Qj ?_
  refine WL.vl rfl (bU Tryz.func217 hP) ?_
  refine Qj ?_
  exact oO
 | true =>
  have hle:p.length≤l.length:=(List.isPrefixOf_iff_prefix.1 hb).length_le
  have hc:cut l p.length l.length=l.drop p.length:=by
   unfold cut
   rw [dB,dB]
   first|(rw [fE];done)|(rw [lC (by simp)];done)|(simp;done)
  have hcb:0≤(p.length:Int)∧(p.length:Int)≤(l.length:Int)∧(l.length:Int)≤(l.length:Int):=by omega
  rw [hb] at hP
  refine jc Tryz.func157 Tryz.ntmps157 fun w0 F0=>?_;dsimp only [St.init,number,Nat.reduceAdd]
  refine Qj ?_
  refine WL.vl rfl (bU Tryz.func217 hP) ?_
  refine Qj ?_
  refine WL.cut rfl rfl hcb ?_
  rw [hc]
  refine Qj ?_
  exact oO
theorem GV (l p:List UInt8) (h:l.length≤1000000):Ctr Tryz.prog 89 [.sc (.string (bs l)),.sc (.string (bs p))] (.tu [.sc (.string (bs (if bM p l=true then l.drop p.length else l))),.sc (.bool (bM p l))]):=by
 have hP:=QN l p h
 refine jc Tryz.func89 Tryz.ntmps89 fun w0 F0=>?_;dsimp only [St.init,number,Nat.reduceAdd]
 refine WG ?_
 refine WL.vl rfl (bU Tryz.func157 hP) ?_
 refine WG ?_
 exact oO
theorem Oy {l:List UInt8} (h:l.getLast?=some 43):([43]:List UInt8).isSuffixOf l=true∧1≤l.length∧l.take (l.length-1)=l.dropLast:=by
 have hne:l≠[]:=by rintro rfl;cases h
 refine⟨?_,List.length_pos_iff.2 hne,(List.dropLast_eq_take).symm⟩
 rw [List.isSuffixOf_iff_suffix]
 refine⟨l.dropLast,?_⟩
 have:=List.dropLast_concat_getLast hne
 rw [List.getLast?_eq_some_getLast hne]at h
 rw [Option.some.inj h]at this
 exact this
theorem Rz {l:List UInt8} (h:l.getLast?≠some 43):([43]:List UInt8).isSuffixOf l=false:=by
 cases hb:([43]:List UInt8).isSuffixOf l with
 | false=>rfl
 | true =>
  obtain⟨u,rfl⟩:=List.isSuffixOf_iff_suffix.1 hb
  exact absurd (by simp) h
theorem QO (l:List UInt8) (h:l.length≤1000000):Ctr Tryz.prog 257 [.sc (.string (bs l)),.sc (.string (bs [43]))] (.tu [.sc (.string (bs (gZ l).1)),.sc (.bool (gZ l).2)]):=by
 have hP:=acA l [43] h
 have h43:([43]:List UInt8).length=1:=rfl
 by_cases hg:l.getLast?=some 43
 ·obtain ⟨h1,h2,h3⟩:=Oy hg
  have e:gZ l=(l.dropLast,true):=if_pos hg
  rw [e]
  rw [h1] at hP
  refine jc Tryz.func257 Tryz.ntmps257 fun w0 F0=>?_;dsimp only [St.init,number,Nat.reduceAdd]
  refine Jj ?_
  refine WL.vl rfl (bU Tryz.func123 hP) ?_
  refine Jj ?_
  have hc:cut l 0 ((l.length:Int) - (([43]:List UInt8).length:Int))=l.dropLast:=by
   rw [← h3]
   unfold cut
   rw [show ((l.length:Int) - (([43]:List UInt8).length:Int)).toNat=l.length - 1 by rw [h43];omega]
   simp
  have hcb:0≤(0:Int)∧(0:Int)≤(l.length:Int) - (([43]:List UInt8).length:Int)∧(l.length:Int) - (([43]:List UInt8).length:Int)≤(l.length:Int):=by rw [h43];omega
  refine Jj ?_
  refine WL.cut rfl rfl hcb ?_
  rw [hc]
  refine Jj ?_
  exact oO
 ·have h1:=Rz hg
  have e:gZ l=(l,false):=if_neg hg
  rw [e]
  rw [h1] at hP
  refine jc Tryz.func257 Tryz.ntmps257 fun w0 F0=>?_;dsimp only [St.init,number,Nat.reduceAdd]
  refine Jj ?_
  refine WL.vl rfl (bU Tryz.func123 hP) ?_
  refine Jj ?_
  exact oO
theorem Xt (l:List UInt8) (h:l.length≤1000000):Ctr Tryz.prog 220 [.sc (.string (bs l)),.sc (.string (bs [43]))] (.tu [.sc (.string (bs (gZ l).1)),.sc (.bool (gZ l).2)]):=by
 have hP:=QO l h
 refine jc Tryz.func220 Tryz.ntmps220 fun w0 F0=>?_;dsimp only [St.init,number,Nat.reduceAdd]
 refine WG ?_
 refine WL.vl rfl (bU Tryz.func257 hP) ?_
 refine WG ?_
 exact oO
theorem CU (a b:List (List UInt8)) (d:List UInt8) (h:∀ w∈a,w≠d) (hl:a.length+b.length≤1000000):Ctr Tryz.prog 158 [.ls 1 ((a++d::b).map bg),.sc (.string (bs d))] (.sc (.int .i64 a.length)):=by
 obtain ⟨L,hL⟩:∃ L,a++d::b=L:=⟨_,rfl⟩
 have hlen:L.length=a.length+b.length+1:=by rw [← hL];simp;omega
 have hat:∀ k (hk:k < a.length) h',L[k]'h'≠d:=fun k hk h'=>by
  subst hL
  rw [Fa hk]
  exact h _ (fA hk)
 have hd:∀ h',L[a.length]'h'=d:=fun h'=>by subst hL;simp
 rw [hL]
 refine jc Tryz.func158 Tryz.ntmps158 fun w0 F0=>?_;dsimp only [St.init,number,Nat.reduceAdd]
 refine Qk ?_
 refine W.loop (fun k:Nat=>k≤a.length) (fun k=>⟨[(0,.ls 1 (L.map bg)),(1,.sc (.string (bs d))),(7,.sc (.int .i64 L.length)),(8,.sc (.int .i64 k))],[],0⟩) (fun k=>a.length - k) 0 aj (zqt id) fun k hk=>?_
 have hkL:k < L.length:=by omega
 by_cases hlt:k < a.length
 ·have hb:(d == L[k])=false:=by simpa using fun e=>hat k hlt hkL e.symm
  refine Qk ?_
  rw [hb]
  refine Qk ?_
  exact afc
 ·obtain rfl:k=a.length:=by omega
  have hb:(d == L[a.length])=true:=by rw [hd];simp
  refine Qk ?_
  rw [hb]
  refine Qk ?_
  exact W.ret vJ
theorem CV (L:List (List UInt8)) (d:List UInt8) (h:∀ w∈L,w≠d) (hl:L.length≤1000000):Ctr Tryz.prog 158 [.ls 1 (L.map bg),.sc (.string (bs d))] (.sc (.int .i64 (-1))):=by
 refine jc Tryz.func158 Tryz.ntmps158 fun w0 F0=>?_;dsimp only [St.init,number,Nat.reduceAdd]
 refine dG ?_
 refine W.loop (fun k:Nat=>k≤L.length) (fun k=>⟨[(0,.ls 1 (L.map bg)),(1,.sc (.string (bs d))),(7,.sc (.int .i64 L.length)),(8,.sc (.int .i64 k))],[],0⟩) (fun k=>L.length - k) 0 aj (zqt id) fun k hk=>?_
 by_cases hlt:k < L.length
 ·have hb:(d == L[k])=false:=by simpa using fun e=>h _ (fA hlt) e.symm
  refine dG ?_
  rw [hb]
  refine dG ?_
  exact afc
 ·obtain rfl:k=L.length:=by omega
  refine dG ?_
  exact W.ret vJ
theorem Xq (l:List (List UInt8)) (h:l.length≤1000000):Cto truB 0 Tryz.prog 161 [.ls 1 (l.map bg)] [] 0 (.sl 0) [(0,.row 9 1 (l.map bg))] 1:=by
 refine Cto.intro truS Tryz.func161 rfl Tryz.ntmps161 (aP rfl) rfl fun w0 F0 fp pg hB=>?_
 refine jw ?_
 refine ac0 ?_
 refine WL.nlq rfl rfl fun b hb=>?_
 cases b with
 | true =>
  have e:=hb rfl
  refine ac0 ?_
  refine W.tr (Tr.nil (t:=2) 9 1 rfl rfl) ?_
  rw [e]
  refine W.tr (σ':=⟨[(2,.sl 0)],[(0,.row 9 1 [])],1⟩) (zqt id) ?_
  exact jJ
 | false =>
  refine ac0 ?_
  refine W.tr (σ':=⟨[(2,.sl 0)],[(0,.row 9 1 (l.map bg))],1⟩) (mP (fun q=>bif Nat.beq q 0 then 1 else q) BK rfl) ?_
  exact jJ
end Go.Proofs.YthohlofpphjofaaGreatDoor
