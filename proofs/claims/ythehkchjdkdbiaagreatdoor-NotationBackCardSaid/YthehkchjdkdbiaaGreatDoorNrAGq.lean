/- Reading of texts: functions of strings and slices as contracts over trees. -/
import Derived.Test.YthehkchjdkdbiaaGreatDoorGYGq
set_option maxHeartbeats 4000000
set_option maxRecDepth 100000
set_option linter.unusedVariables false
set_option linter.unusedSimpArgs false
namespace Go.Proofs.YthehkchjdkdbiaaGreatDoor
open Go.RowKit
theorem splitN_G (c:UInt8) (t:List UInt8) (ht:t.length≤1000000):Ctg tabN Tryz.prog 38 [.sc (.string (bs t)),.sc (.string (bs [c]))] (.ls 1 ((rq_wds c t).map eTx)) :=
 Ctg.of_strs (T:=9) rfl fun w F hB=>by
  obtain ⟨m,hm⟩:=hB.2.2
  have h:=Tryz.strings_Split (bs t) (bs [c]) m w (by rw [bs_size];omega) hm (by rw [bs_size];simp)
  have hd:=Lib.splitB_data (bs [c]) 0 (Lib.countB (bs t) (bs [c])) (bs t)
  have hc:Lib.countB (bs t) (bs [c])=Lib.count t [c]:=by
   show Lib.count (bs t).data.toList (bs [c]).data.toList=_
   rw [bs_data,bs_data]
  rw [bs_data,bs_data,hc,rq_split_wds] at hd
  have hl:=rq_wds_len c t
  rw [hc] at h
  rw [hl]
  have hv:(Lib.splitB (bs [c]) 0 (Lib.count t [c]) (bs t)).map Value.string=(rq_wds c t).map fun l=>Value.string (bs l):=by
   rw [← hd,List.map_map]
   exact List.map_congr_left fun x _=>by
    show Value.string x=Value.string (bs x.data.toList)
    obtain ⟨l,rfl⟩:=bs_of x
    rw [bs_data]
  rw [hv] at h
  exact h
theorem rp_tu3N {F:View} {u v x:Value}:RP F (.tu [.sc u,.sc v,.sc x]) (.tuple #[u,v,x]):=.tu _ _ rfl fun i av y a b=>by
 match i with
 | 0=>cases a;cases b;exact .sc _
 | 1=>cases a;cases b;exact .sc _
 | 2=>cases a;cases b;exact .sc _
 | i+3=>simp at a
theorem cutAtN_G (c:UInt8) (l r:List UInt8) (h:rq_NoB c l) (hl:l.length+r.length≤1000000):Ctg tabN Tryz.prog 218 [.sc (.string (bs (l++c::r))),.sc (.string (bs [c]))] (.tu [.sc (.string (bs l)),.sc (.string (bs r)),.sc (.bool true)]) :=
 Ctg.of_scN (v:=.tuple #[.string (bs l),.string (bs r),.bool true]) rfl (fun F=>rp_tu3N) fun w F hB=>by
  obtain ⟨m,hm⟩:=hB.2.2
  have hc:=Tryz.strings_Cut (bs (l++c::r)) (bs [c]) m w (by rw [bs_size];simp;omega) hm
  rw [bs_data,bs_data,rq_cut_at h] at hc
  exact hc.mono fun e w' ⟨he,n,hw⟩=>⟨he,by subst hw;exact bel_drewN (Below.refl _ _) _⟩
theorem cutNoN_G (c:UInt8) (l:List UInt8) (h:rq_NoB c l) (hl:l.length≤1000000):Ctg tabN Tryz.prog 218 [.sc (.string (bs l)),.sc (.string (bs [c]))] (.tu [.sc (.string (bs l)),.sc (.string (bs [])),.sc (.bool false)]) :=
 Ctg.of_scN (v:=.tuple #[.string (bs l),.string (bs []),.bool false]) rfl (fun F=>rp_tu3N) fun w F hB=>by
  obtain ⟨m,hm⟩:=hB.2.2
  have hc:=Tryz.strings_Cut (bs l) (bs [c]) m w (by rw [bs_size];omega) hm
  rw [bs_data,bs_data,rq_cut_no h] at hc
  exact hc.mono fun e w' ⟨he,n,hw⟩=>⟨he,by subst hw;exact bel_drewN (Below.refl _ _) _⟩
def nr_pfx(p l:List UInt8):Bool:=p.isPrefixOf l
theorem pfxS_FS (l p:List UInt8):Ctr Tryz.prog 217 [.sc (.string (bs l)),.sc (.string (bs p))] (.sc (.bool (nr_pfx p l))) :=
 Ctr.of_sc rfl (fun _=>.sc _) fun w=>(Tryz.stringslite_HasPrefix (bs l) (bs p) w).mono fun e w' ⟨he,hw⟩=>⟨by rw [he,bs_data,bs_data];rfl,by subst hw;exact Below.refl _ _⟩
theorem pfx_FS (l p:List UInt8):Ctr Tryz.prog 256 [.sc (.string (bs l)),.sc (.string (bs p))] (.sc (.bool (nr_pfx p l))) :=
 Ctr.of_sc rfl (fun _=>.sc _) fun w=>(Tryz.strings_HasPrefix (bs l) (bs p) w).mono fun e w' ⟨he,hw⟩=>⟨by rw [he,bs_data,bs_data];rfl,by subst hw;exact Below.refl _ _⟩
theorem sfx_FS (l p:List UInt8) (h:l.length≤1000000):Ctr Tryz.prog 149 [.sc (.string (bs l)),.sc (.string (bs p))] (.sc (.bool (p.isSuffixOf l))) :=
 Ctr.of_sc rfl (fun _=>.sc _) fun w=>(Tryz.stringslite_HasSuffix (bs l) (bs p) w (by rw [bs_size];omega)).mono fun e w' ⟨he,hw⟩=>⟨by rw [he,bs_data,bs_data];rfl,by subst hw;exact Below.refl _ _⟩
theorem indexByteN_FS (s:List UInt8)(z:Int):Ctr Tryz.prog 249 [.sc (.string (bs s)),.sc (.int .u8 z)] (.sc (.int .i64 (Lib.indexByte s z.toNat.toUInt8))) :=
 Ctr.of_sc rfl (fun _=>.sc _) fun w=>(Tryz.strings_IndexByte (bs s) z w).mono fun e w'⟨he,hw⟩=>⟨by rw [he,bs_data],hw ▸ Below.refl _ _⟩
theorem cutPfxS_FS (l p:List UInt8) (h:l.length≤1000000):Ctr Tryz.prog 157 [.sc (.string (bs l)),.sc (.string (bs p))] (.tu [.sc (.string (bs (if nr_pfx p l=true then l.drop p.length else l))),.sc (.bool (nr_pfx p l))]):=by
 have hP:=pfxS_FS l p
 cases hb:nr_pfx p l with
 | false =>
  rw [hb] at hP
  refine zqe Tryz.func157 Tryz.ntmps157 fun w0 F0=>?_;dsimp only [St.init,number,Nat.reduceAdd]
  refine zqg20 ?_
  refine WL.vl rfl (zqc Tryz.func217 hP) ?_
  refine zqg20 ?_
  exact W.ret (fin2 rfl rfl rfl rfl rfl rfl rfl)
 | true =>
  have hle:p.length≤l.length:=(List.isPrefixOf_iff_prefix.1 hb).length_le
  have hc:cut l p.length l.length=l.drop p.length:=by
   unfold cut
   rw [Int.toNat_natCast,Int.toNat_natCast]
   first|(rw [List.take_length];done)|(rw [List.take_of_length_le (by simp)];done)|(simp;done)
  have hcb:0≤(p.length:Int)∧(p.length:Int)≤(l.length:Int)∧(l.length:Int)≤(l.length:Int):=by omega
  rw [hb] at hP
  refine zqe Tryz.func157 Tryz.ntmps157 fun w0 F0=>?_;dsimp only [St.init,number,Nat.reduceAdd]
  refine zqg20 ?_
  refine WL.vl rfl (zqc Tryz.func217 hP) ?_
  refine zqg20 ?_
  refine WL.cut rfl rfl hcb ?_
  rw [hc]
  refine zqg20 ?_
  exact W.ret (fin2 rfl rfl rfl rfl rfl rfl rfl)
theorem cutPfx_FS (l p:List UInt8) (h:l.length≤1000000):Ctr Tryz.prog 89 [.sc (.string (bs l)),.sc (.string (bs p))] (.tu [.sc (.string (bs (if nr_pfx p l=true then l.drop p.length else l))),.sc (.bool (nr_pfx p l))]):=by
 have hP:=cutPfxS_FS l p h
 refine zqe Tryz.func89 Tryz.ntmps89 fun w0 F0=>?_;dsimp only [St.init,number,Nat.reduceAdd]
 refine zqg21 ?_
 refine WL.vl rfl (zqc Tryz.func157 hP) ?_
 refine zqg21 ?_
 exact W.ret (fin2 rfl rfl rfl rfl rfl rfl rfl)
theorem nr_plus_yes {l:List UInt8} (h:l.getLast?=some 43):([43]:List UInt8).isSuffixOf l=true∧1≤l.length∧l.take (l.length-1)=l.dropLast:=by
 have hne:l≠[]:=by rintro rfl;cases h
 refine⟨?_,List.length_pos_iff.2 hne,(List.dropLast_eq_take).symm⟩
 rw [List.isSuffixOf_iff_suffix]
 refine⟨l.dropLast,?_⟩
 have:=List.dropLast_concat_getLast hne
 rw [List.getLast?_eq_some_getLast hne]at h
 rw [Option.some.inj h]at this
 exact this
theorem nr_plus_no {l:List UInt8} (h:l.getLast?≠some 43):([43]:List UInt8).isSuffixOf l=false:=by
 cases hb:([43]:List UInt8).isSuffixOf l with
 | false=>rfl
 | true =>
  obtain⟨u,rfl⟩:=List.isSuffixOf_iff_suffix.1 hb
  exact absurd (by simp) h
theorem cutSfxS_FS (l:List UInt8) (h:l.length≤1000000):Ctr Tryz.prog 257 [.sc (.string (bs l)),.sc (.string (bs [43]))] (.tu [.sc (.string (bs (ri_plus l).1)),.sc (.bool (ri_plus l).2)]):=by
 have hP:=sfx_FS l [43] h
 have h43:([43]:List UInt8).length=1:=rfl
 by_cases hg:l.getLast?=some 43
 ·obtain ⟨h1,h2,h3⟩:=nr_plus_yes hg
  have e:ri_plus l=(l.dropLast,true):=if_pos hg
  rw [e]
  rw [h1] at hP
  refine zqe Tryz.func257 Tryz.ntmps257 fun w0 F0=>?_;dsimp only [St.init,number,Nat.reduceAdd]
  refine zqg22 ?_
  refine WL.vl rfl (zqc Tryz.func149 hP) ?_
  refine zqg22 ?_
  have hc:cut l 0 ((l.length:Int) - (([43]:List UInt8).length:Int))=l.dropLast:=by
   rw [← h3]
   unfold cut
   rw [show ((l.length:Int) - (([43]:List UInt8).length:Int)).toNat=l.length - 1 by rw [h43];omega]
   simp
  have hcb:0≤(0:Int)∧(0:Int)≤(l.length:Int) - (([43]:List UInt8).length:Int)∧(l.length:Int) - (([43]:List UInt8).length:Int)≤(l.length:Int):=by rw [h43];omega
  refine zqg22 ?_
  refine WL.cut rfl rfl hcb ?_
  rw [hc]
  refine zqg22 ?_
  exact W.ret (fin2 rfl rfl rfl rfl rfl rfl rfl)
 ·have h1:=nr_plus_no hg
  have e:ri_plus l=(l,false):=if_neg hg
  rw [e]
  rw [h1] at hP
  refine zqe Tryz.func257 Tryz.ntmps257 fun w0 F0=>?_;dsimp only [St.init,number,Nat.reduceAdd]
  refine zqg22 ?_
  refine WL.vl rfl (zqc Tryz.func149 hP) ?_
  refine zqg22 ?_
  exact W.ret (fin2 rfl rfl rfl rfl rfl rfl rfl)
theorem cutSfx_FS (l:List UInt8) (h:l.length≤1000000):Ctr Tryz.prog 220 [.sc (.string (bs l)),.sc (.string (bs [43]))] (.tu [.sc (.string (bs (ri_plus l).1)),.sc (.bool (ri_plus l).2)]):=by
 have hP:=cutSfxS_FS l h
 refine zqe Tryz.func220 Tryz.ntmps220 fun w0 F0=>?_;dsimp only [St.init,number,Nat.reduceAdd]
 refine zqg21 ?_
 refine WL.vl rfl (zqc Tryz.func257 hP) ?_
 refine zqg21 ?_
 exact W.ret (fin2 rfl rfl rfl rfl rfl rfl rfl)
theorem indexAt_FS (a b:List (List UInt8)) (d:List UInt8) (h:∀ w∈a,w≠d) (hl:a.length+b.length≤1000000):Ctr Tryz.prog 158 [.ls 1 ((a++d::b).map eTx),.sc (.string (bs d))] (.sc (.int .i64 a.length)):=by
 obtain ⟨L,hL⟩:∃ L,a++d::b=L:=⟨_,rfl⟩
 have hlen:L.length=a.length+b.length+1:=by rw [← hL];simp;omega
 have hat:∀ k (hk:k < a.length) h',L[k]'h'≠d:=fun k hk h'=>by
  subst hL
  rw [List.getElem_append_left hk]
  exact h _ (List.getElem_mem hk)
 have hd:∀ h',L[a.length]'h'=d:=fun h'=>by subst hL;simp
 rw [hL]
 refine zqe Tryz.func158 Tryz.ntmps158 fun w0 F0=>?_;dsimp only [St.init,number,Nat.reduceAdd]
 refine zqg23 ?_
 refine W.loop (fun k:Nat=>k≤a.length) (fun k=>⟨[(0,.ls 1 (L.map eTx)),(1,.sc (.string (bs d))),(7,.sc (.int .i64 L.length)),(8,.sc (.int .i64 k))],[],0⟩) (fun k=>a.length - k) 0 zqo (zqt id) fun k hk=>?_
 have hkL:k < L.length:=by omega
 by_cases hlt:k < a.length
 ·have hb:(d == L[k])=false:=by simpa using fun e=>hat k hlt hkL e.symm
  refine zqg23 ?_
  rw [hb]
  refine zqg23 ?_
  exact ⟨k+1,by omega,by omega,(zqu (fun q=>q) (by repeat (first|exact trivial|refine ⟨⟨?_,?_,?_⟩,?_⟩|rfl|exact congrArg (fun q=>some (AO.row _ _ q)) (by first|rfl|(simp;done)|(simp [eInt];done)|(simp [eLk];done)))) rfl)⟩
 ·obtain rfl:k=a.length:=by omega
  have hb:(d == L[a.length])=true:=by rw [hd];simp
  refine zqg23 ?_
  rw [hb]
  refine zqg23 ?_
  exact W.ret zqr
theorem indexNo_FS (L:List (List UInt8)) (d:List UInt8) (h:∀ w∈L,w≠d) (hl:L.length≤1000000):Ctr Tryz.prog 158 [.ls 1 (L.map eTx),.sc (.string (bs d))] (.sc (.int .i64 (-1))):=by
 refine zqe Tryz.func158 Tryz.ntmps158 fun w0 F0=>?_;dsimp only [St.init,number,Nat.reduceAdd]
 refine zqg19 ?_
 refine W.loop (fun k:Nat=>k≤L.length) (fun k=>⟨[(0,.ls 1 (L.map eTx)),(1,.sc (.string (bs d))),(7,.sc (.int .i64 L.length)),(8,.sc (.int .i64 k))],[],0⟩) (fun k=>L.length - k) 0 zqo (zqt id) fun k hk=>?_
 by_cases hlt:k < L.length
 ·have hb:(d == L[k])=false:=by simpa using fun e=>h _ (List.getElem_mem hlt) e.symm
  refine zqg19 ?_
  rw [hb]
  refine zqg19 ?_
  exact ⟨k+1,by omega,by omega,(zqu (fun q=>q) (by repeat (first|exact trivial|refine ⟨⟨?_,?_,?_⟩,?_⟩|rfl|exact congrArg (fun q=>some (AO.row _ _ q)) (by first|rfl|(simp;done)|(simp [eInt];done)|(simp [eLk];done)))) rfl)⟩
 ·obtain rfl:k=L.length:=by omega
  refine zqg19 ?_
  exact W.ret zqr
theorem cloneTx_G (l:List (List UInt8)) (h:l.length≤1000000):Cto truB 0 Tryz.prog 161 [.ls 1 (l.map eTx)] [] 0 (.sl 0) [(0,.row 9 1 (l.map eTx))] 1:=by
 refine Cto.intro truS Tryz.func161 rfl Tryz.ntmps161 (Nat.le_of_ble_eq_true rfl) rfl fun w0 F0 fp pg hB=>?_
 dsimp only [number,Nat.reduceAdd]
 refine zqg24 ?_
 refine WL.nlq rfl rfl fun b hb=>?_
 cases b with
 | true =>
  have e:=hb rfl
  refine zqg24 ?_
  refine W.tr (Tr.nil (t:=2) 9 1 rfl rfl) ?_
  rw [e]
  refine W.tr (σ':=⟨[(2,.sl 0)],[(0,.row 9 1 [])],1⟩) (zqt id) ?_
  exact W.ret (finM rfl rfl rfl rfl rfl)
 | false =>
  refine zqg24 ?_
  refine W.tr (σ':=⟨[(2,.sl 0)],[(0,.row 9 1 (l.map eTx))],1⟩) (zqu (fun q=>bif Nat.beq q 0 then 1 else q) (by repeat (first|exact trivial|refine ⟨⟨?_,?_,?_⟩,?_⟩|rfl|exact congrArg (fun q=>some (AO.row _ _ q)) (by first|rfl|(simp;done)|(simp [eInt];done)|(simp [eLk];done)))) rfl) ?_
  exact W.ret (finM rfl rfl rfl rfl rfl)
end Go.Proofs.YthehkchjdkdbiaaGreatDoor
