/- A walk that knows values as trees: a contract leaves the other objects alone. -/
import Derived.Test.YthehkchjdkdbiaaGreatDoorRCell2Hq
import Derived.Test.YthehkchjdkdbiaaGreatDoorGfHq
import Derived.Lib.TrimU
set_option maxHeartbeats 4000000
set_option maxRecDepth 100000
set_option linter.unusedVariables false
set_option linter.unusedSimpArgs false
namespace Go.Proofs.YthehkchjdkdbiaaGreatDoor
section
open Go.RowKit
theorem splitN_G (c:UInt8) (t:List UInt8) (ht:t.length≤1000000):Ctg tabN Tryz.prog 38 [.sc (.string (bs t)),.sc (.string (bs [c]))] (.ls 1 ((rq_wds c t).map eTx)) :=
 Ctg.of_strs (T:=9) rfl fun w F hB=>by
  obtain ⟨m,hm⟩:=hB.2.2
  have h:=Tryz.strings_Split (bs t) (bs [c]) m w (by rw [bs_size];omega) hm (by rw [bs_size];simp)
  have hd:=Lib.splitB_data (bs [c]) 0 (Lib.countB (bs t) (bs [c])) (bs t)
  have hc:Lib.countB (bs t) (bs [c])=Lib.count t [c]:=by
   show Lib.count (bs t).data.toList (bs [c]).data.toList=_
   rw [bs_data,bs_data]
  rw [bs_data,bs_data,hc,rq_split_wds] at hd
  have hl:=rq_wds_len c t
  rw [hc] at h
  rw [hl]
  have hv:(Lib.splitB (bs [c]) 0 (Lib.count t [c]) (bs t)).map Value.string=(rq_wds c t).map fun l=>Value.string (bs l):=by
   rw [← hd,List.map_map]
   exact List.map_congr_left fun x _=>by
    show Value.string x=Value.string (bs x.data.toList)
    obtain ⟨l,rfl⟩:=bs_of x
    rw [bs_data]
  rw [hv] at h
  exact h
theorem rp_tu3N {F:View} {u v x:Value}:RP F (.tu [.sc u,.sc v,.sc x]) (.tuple #[u,v,x]):=.tu _ _ rfl fun i av y a b=>by
 match i with
 | 0=>cases a;cases b;exact .sc _
 | 1=>cases a;cases b;exact .sc _
 | 2=>cases a;cases b;exact .sc _
 | i+3=>simp at a
theorem cutAtN_G (c:UInt8) (l r:List UInt8) (h:rq_NoB c l) (hl:l.length+r.length≤1000000):Ctg tabN Tryz.prog 218 [.sc (.string (bs (l++c::r))),.sc (.string (bs [c]))] (.tu [.sc (.string (bs l)),.sc (.string (bs r)),.sc (.bool true)]) :=
 Ctg.of_scN (v:=.tuple #[.string (bs l),.string (bs r),.bool true]) rfl (fun F=>rp_tu3N) fun w F hB=>by
  obtain ⟨m,hm⟩:=hB.2.2
  have hc:=Tryz.strings_Cut (bs (l++c::r)) (bs [c]) m w (by rw [bs_size];simp;omega) hm
  rw [bs_data,bs_data,rq_cut_at h] at hc
  exact hc.mono fun e w' ⟨he,n,hw⟩=>⟨he,by subst hw;exact bel_drewN (Below.refl _ _) _⟩
theorem cutNoN_G (c:UInt8) (l:List UInt8) (h:rq_NoB c l) (hl:l.length≤1000000):Ctg tabN Tryz.prog 218 [.sc (.string (bs l)),.sc (.string (bs [c]))] (.tu [.sc (.string (bs l)),.sc (.string (bs [])),.sc (.bool false)]) :=
 Ctg.of_scN (v:=.tuple #[.string (bs l),.string (bs []),.bool false]) rfl (fun F=>rp_tu3N) fun w F hB=>by
  obtain ⟨m,hm⟩:=hB.2.2
  have hc:=Tryz.strings_Cut (bs l) (bs [c]) m w (by rw [bs_size];omega) hm
  rw [bs_data,bs_data,rq_cut_no h] at hc
  exact hc.mono fun e w' ⟨he,n,hw⟩=>⟨he,by subst hw;exact bel_drewN (Below.refl _ _) _⟩
def nr_pfx(p l:List UInt8):Bool:=p.isPrefixOf l
theorem pfxS_FS (l p:List UInt8):Ctr Tryz.prog 217 [.sc (.string (bs l)),.sc (.string (bs p))] (.sc (.bool (nr_pfx p l))) :=
 Ctr.of_sc rfl (fun _=>.sc _) fun w=>(Tryz.stringslite_HasPrefix (bs l) (bs p) w).mono fun e w' ⟨he,hw⟩=>⟨by rw [he,bs_data,bs_data];rfl,by subst hw;exact Below.refl _ _⟩
theorem pfx_FS (l p:List UInt8):Ctr Tryz.prog 256 [.sc (.string (bs l)),.sc (.string (bs p))] (.sc (.bool (nr_pfx p l))) :=
 Ctr.of_sc rfl (fun _=>.sc _) fun w=>(Tryz.strings_HasPrefix (bs l) (bs p) w).mono fun e w' ⟨he,hw⟩=>⟨by rw [he,bs_data,bs_data];rfl,by subst hw;exact Below.refl _ _⟩
theorem sfx_FS (l p:List UInt8) (h:l.length≤1000000):Ctr Tryz.prog 149 [.sc (.string (bs l)),.sc (.string (bs p))] (.sc (.bool (p.isSuffixOf l))) :=
 Ctr.of_sc rfl (fun _=>.sc _) fun w=>(Tryz.stringslite_HasSuffix (bs l) (bs p) w (by rw [bs_size];omega)).mono fun e w' ⟨he,hw⟩=>⟨by rw [he,bs_data,bs_data];rfl,by subst hw;exact Below.refl _ _⟩
theorem indexByteN_FS (s:List UInt8)(z:Int):Ctr Tryz.prog 249 [.sc (.string (bs s)),.sc (.int .u8 z)] (.sc (.int .i64 (Lib.indexByte s z.toNat.toUInt8))) :=
 Ctr.of_sc rfl (fun _=>.sc _) fun w=>(Tryz.strings_IndexByte (bs s) z w).mono fun e w'⟨he,hw⟩=>⟨by rw [he,bs_data],hw ▸ Below.refl _ _⟩
theorem cutPfxS_FS (l p:List UInt8) (h:l.length≤1000000):Ctr Tryz.prog 157 [.sc (.string (bs l)),.sc (.string (bs p))] (.tu [.sc (.string (bs (if nr_pfx p l=true then l.drop p.length else l))),.sc (.bool (nr_pfx p l))]):=by
 have hP:=pfxS_FS l p
 cases hb:nr_pfx p l with
 | false =>
  rw [hb] at hP
  refine zqe Tryz.func157 Tryz.ntmps157 fun w0 F0=>?_;dsimp only [St.init,number,Nat.reduceAdd]
  refine zqg0 ?_
  refine WL.vl rfl (zqc Tryz.func217 hP) ?_
  refine zqg0 ?_
  exact W.ret (fin2 rfl rfl rfl rfl rfl rfl rfl)
 | true =>
  have hle:p.length≤l.length:=(List.isPrefixOf_iff_prefix.1 hb).length_le
  have hc:cut l p.length l.length=l.drop p.length:=by
   unfold cut
   rw [Int.toNat_natCast,Int.toNat_natCast]
   first|(rw [List.take_length];done)|(rw [List.take_of_length_le (by simp)];done)|(simp;done)
  have hcb:0≤(p.length:Int)∧(p.length:Int)≤(l.length:Int)∧(l.length:Int)≤(l.length:Int):=by omega
  rw [hb] at hP
  refine zqe Tryz.func157 Tryz.ntmps157 fun w0 F0=>?_;dsimp only [St.init,number,Nat.reduceAdd]
  refine zqg0 ?_
  refine WL.vl rfl (zqc Tryz.func217 hP) ?_
  refine zqg0 ?_
  refine WL.cut rfl rfl hcb ?_
  rw [hc]
  refine zqg0 ?_
  exact W.ret (fin2 rfl rfl rfl rfl rfl rfl rfl)
theorem cutPfx_FS (l p:List UInt8) (h:l.length≤1000000):Ctr Tryz.prog 89 [.sc (.string (bs l)),.sc (.string (bs p))] (.tu [.sc (.string (bs (if nr_pfx p l=true then l.drop p.length else l))),.sc (.bool (nr_pfx p l))]):=by
 have hP:=cutPfxS_FS l p h
 refine zqe Tryz.func89 Tryz.ntmps89 fun w0 F0=>?_;dsimp only [St.init,number,Nat.reduceAdd]
 refine zqg1 ?_
 refine WL.vl rfl (zqc Tryz.func157 hP) ?_
 refine zqg1 ?_
 exact W.ret (fin2 rfl rfl rfl rfl rfl rfl rfl)
theorem nr_plus_yes {l:List UInt8} (h:l.getLast?=some 43):([43]:List UInt8).isSuffixOf l=true∧1≤l.length∧l.take (l.length-1)=l.dropLast:=by
 have hne:l≠[]:=by rintro rfl;cases h
 refine⟨?_,List.length_pos_iff.2 hne,(List.dropLast_eq_take).symm⟩
 rw [List.isSuffixOf_iff_suffix]
 refine⟨l.dropLast,?_⟩
 have:=List.dropLast_concat_getLast hne
 rw [List.getLast?_eq_some_getLast hne]at h
 rw [Option.some.inj h]at this
 exact this
theorem nr_plus_no {l:List UInt8} (h:l.getLast?≠some 43):([43]:List UInt8).isSuffixOf l=false:=by
 cases hb:([43]:List UInt8).isSuffixOf l with
 | false=>rfl
 | true =>
  obtain⟨u,rfl⟩:=List.isSuffixOf_iff_suffix.1 hb
  exact absurd (by simp) h
theorem cutSfxS_FS (l:List UInt8) (h:l.length≤1000000):Ctr Tryz.prog 257 [.sc (.string (bs l)),.sc (.string (bs [43]))] (.tu [.sc (.string (bs (ri_plus l).1)),.sc (.bool (ri_plus l).2)]):=by
 have hP:=sfx_FS l [43] h
 have h43:([43]:List UInt8).length=1:=rfl
 by_cases hg:l.getLast?=some 43
 ·obtain ⟨h1,h2,h3⟩:=nr_plus_yes hg
  have e:ri_plus l=(l.dropLast,true):=if_pos hg
  rw [e]
  rw [h1] at hP
  refine zqe Tryz.func257 Tryz.ntmps257 fun w0 F0=>?_;dsimp only [St.init,number,Nat.reduceAdd]
  refine zqg2 ?_
  refine WL.vl rfl (zqc Tryz.func149 hP) ?_
  refine zqg2 ?_
  have hc:cut l 0 ((l.length:Int) - (([43]:List UInt8).length:Int))=l.dropLast:=by
   rw [← h3]
   unfold cut
   rw [show ((l.length:Int) - (([43]:List UInt8).length:Int)).toNat=l.length - 1 by rw [h43];omega]
   simp
  have hcb:0≤(0:Int)∧(0:Int)≤(l.length:Int) - (([43]:List UInt8).length:Int)∧(l.length:Int) - (([43]:List UInt8).length:Int)≤(l.length:Int):=by rw [h43];omega
  refine zqg2 ?_
  refine WL.cut rfl rfl hcb ?_
  rw [hc]
  refine zqg2 ?_
  exact W.ret (fin2 rfl rfl rfl rfl rfl rfl rfl)
 ·have h1:=nr_plus_no hg
  have e:ri_plus l=(l,false):=if_neg hg
  rw [e]
  rw [h1] at hP
  refine zqe Tryz.func257 Tryz.ntmps257 fun w0 F0=>?_;dsimp only [St.init,number,Nat.reduceAdd]
  refine zqg2 ?_
  refine WL.vl rfl (zqc Tryz.func149 hP) ?_
  refine zqg2 ?_
  exact W.ret (fin2 rfl rfl rfl rfl rfl rfl rfl)
theorem cutSfx_FS (l:List UInt8) (h:l.length≤1000000):Ctr Tryz.prog 220 [.sc (.string (bs l)),.sc (.string (bs [43]))] (.tu [.sc (.string (bs (ri_plus l).1)),.sc (.bool (ri_plus l).2)]):=by
 have hP:=cutSfxS_FS l h
 refine zqe Tryz.func220 Tryz.ntmps220 fun w0 F0=>?_;dsimp only [St.init,number,Nat.reduceAdd]
 refine zqg1 ?_
 refine WL.vl rfl (zqc Tryz.func257 hP) ?_
 refine zqg1 ?_
 exact W.ret (fin2 rfl rfl rfl rfl rfl rfl rfl)
theorem indexAt_FS (a b:List (List UInt8)) (d:List UInt8) (h:∀ w∈a,w≠d) (hl:a.length+b.length≤1000000):Ctr Tryz.prog 158 [.ls 1 ((a++d::b).map eTx),.sc (.string (bs d))] (.sc (.int .i64 a.length)):=by
 obtain ⟨L,hL⟩:∃ L,a++d::b=L:=⟨_,rfl⟩
 have hlen:L.length=a.length+b.length+1:=by rw [← hL];simp;omega
 have hat:∀ k (hk:k < a.length) h',L[k]'h'≠d:=fun k hk h'=>by
  subst hL
  rw [List.getElem_append_left hk]
  exact h _ (List.getElem_mem hk)
 have hd:∀ h',L[a.length]'h'=d:=fun h'=>by subst hL;simp
 rw [hL]
 refine zqe Tryz.func158 Tryz.ntmps158 fun w0 F0=>?_;dsimp only [St.init,number,Nat.reduceAdd]
 refine zqg3 ?_
 refine W.loop (fun k:Nat=>k≤a.length) (fun k=>⟨[(0,.ls 1 (L.map eTx)),(1,.sc (.string (bs d))),(7,.sc (.int .i64 L.length)),(8,.sc (.int .i64 k))],[],0⟩) (fun k=>a.length - k) 0 zqo (zqt id) fun k hk=>?_
 have hkL:k < L.length:=by omega
 by_cases hlt:k < a.length
 ·have hb:(d == L[k])=false:=by simpa using fun e=>hat k hlt hkL e.symm
  refine zqg3 ?_
  rw [hb]
  refine zqg3 ?_
  exact ⟨k+1,by omega,by omega,(zqu (fun q=>q) (by repeat (first|exact trivial|refine ⟨⟨?_,?_,?_⟩,?_⟩|rfl|exact congrArg (fun q=>some (AO.row _ _ q)) (by first|rfl|(simp;done)|(simp [eInt];done)|(simp [eLk];done)))) rfl)⟩
 ·obtain rfl:k=a.length:=by omega
  have hb:(d == L[a.length])=true:=by rw [hd];simp
  refine zqg3 ?_
  rw [hb]
  refine zqg3 ?_
  exact W.ret zqr
theorem indexNo_FS (L:List (List UInt8)) (d:List UInt8) (h:∀ w∈L,w≠d) (hl:L.length≤1000000):Ctr Tryz.prog 158 [.ls 1 (L.map eTx),.sc (.string (bs d))] (.sc (.int .i64 (-1))):=by
 refine zqe Tryz.func158 Tryz.ntmps158 fun w0 F0=>?_;dsimp only [St.init,number,Nat.reduceAdd]
 refine zqg4 ?_
 refine W.loop (fun k:Nat=>k≤L.length) (fun k=>⟨[(0,.ls 1 (L.map eTx)),(1,.sc (.string (bs d))),(7,.sc (.int .i64 L.length)),(8,.sc (.int .i64 k))],[],0⟩) (fun k=>L.length - k) 0 zqo (zqt id) fun k hk=>?_
 by_cases hlt:k < L.length
 ·have hb:(d == L[k])=false:=by simpa using fun e=>h _ (List.getElem_mem hlt) e.symm
  refine zqg4 ?_
  rw [hb]
  refine zqg4 ?_
  exact ⟨k+1,by omega,by omega,(zqu (fun q=>q) (by repeat (first|exact trivial|refine ⟨⟨?_,?_,?_⟩,?_⟩|rfl|exact congrArg (fun q=>some (AO.row _ _ q)) (by first|rfl|(simp;done)|(simp [eInt];done)|(simp [eLk];done)))) rfl)⟩
 ·obtain rfl:k=L.length:=by omega
  refine zqg4 ?_
  exact W.ret zqr
theorem cloneTx_G (l:List (List UInt8)) (h:l.length≤1000000):Cto truB 0 Tryz.prog 161 [.ls 1 (l.map eTx)] [] 0 (.sl 0) [(0,.row 9 1 (l.map eTx))] 1:=by
 refine Cto.intro truS Tryz.func161 rfl Tryz.ntmps161 (Nat.le_of_ble_eq_true rfl) rfl fun w0 F0 fp pg hB=>?_
 dsimp only [number,Nat.reduceAdd]
 refine zqg5 ?_
 refine WL.nlq rfl rfl fun b hb=>?_
 cases b with
 | true =>
  have e:=hb rfl
  refine zqg5 ?_
  refine W.tr (Tr.nil (t:=2) 9 1 rfl rfl) ?_
  rw [e]
  refine W.tr (σ':=⟨[(2,.sl 0)],[(0,.row 9 1 [])],1⟩) (zqt id) ?_
  exact W.ret (finM rfl rfl rfl rfl rfl)
 | false =>
  refine zqg5 ?_
  refine W.tr (σ':=⟨[(2,.sl 0)],[(0,.row 9 1 (l.map eTx))],1⟩) (zqu (fun q=>bif Nat.beq q 0 then 1 else q) (by repeat (first|exact trivial|refine ⟨⟨?_,?_,?_⟩,?_⟩|rfl|exact congrArg (fun q=>some (AO.row _ _ q)) (by first|rfl|(simp;done)|(simp [eInt];done)|(simp [eLk];done)))) rfl) ?_
  exact W.ret (finM rfl rfl rfl rfl rfl)
end
section
open Go.RowKit
abbrev N5:=Nat×Nat×Nat×Nat×Nat
abbrev Crs:=Int×Int×Bool
open Classical in
noncomputable def nr_cl (s crs:Int)(w:List UInt8):Option N5 :=
 if h:∃ x:N5,pcOk s crs 15 w x.1 x.2.1 x.2.2.1 x.2.2.2.1 x.2.2.2.2 then some (Classical.choose h)else none
theorem nr_cl_some {s crs:Int} {w:List UInt8} {c f r g h:Nat} (hsp:spotErr s crs=0) (a:pcOk s crs 15 w c f r g h):nr_cl s crs w=some (c,f,r,g,h):=by
 have ex:∃ x:N5,pcOk s crs 15 w x.1 x.2.1 x.2.2.1 x.2.2.2.1 x.2.2.2.2:=⟨(c,f,r,g,h),a⟩
 unfold nr_cl
 rw [dif_pos ex]
 obtain ⟨e1,e2,e3,e4,e5⟩:=pcOk_uniq hsp zqo (Classical.choose_spec ex) a
 exact congrArg some (Prod.ext e1 (Prod.ext e2 (Prod.ext e3 (Prod.ext e4 e5))))
theorem nr_cl_of {s crs:Int} {w:List UInt8} {x:N5} (h:nr_cl s crs w=some x):pcOk s crs 15 w x.1 x.2.1 x.2.2.1 x.2.2.2.1 x.2.2.2.2:=by
 unfold nr_cl at h
 split at h
 ·rename_i ex
  cases h
  exact Classical.choose_spec ex
 ·cases h
theorem nr_cl_none {s crs:Int} {w:List UInt8}:(∀ c f r g h:Nat,¬ pcOk s crs 15 w c f r g h)↔nr_cl s crs w=none:=by
 constructor
 ·intro h
  unfold nr_cl
  rw [dif_neg]
  rintro ⟨x,hx⟩
  exact h _ _ _ _ _ hx
 ·intro h c f r g k a
  unfold nr_cl at h
  rw [dif_pos ⟨(c,f,r,g,k),a⟩]at h
  cases h
noncomputable def nr_wd (s:Int)(n i:Nat)(w:List UInt8):Option (Option N5) :=
 if i<n then (if w=[45] then some none else (nr_cl s ((i:Int)+1) w).map some) else (nr_cl s 0 w).map some
noncomputable def nr_x (s:Int)(n:Nat)(W:List (List UInt8))(i:Nat):List N5:=((nr_wd s n i ((W[i]?).getD [])).getD none).toList
noncomputable def nr_L (s:Int)(n:Nat)(W:List (List UInt8))(k:Nat):List N5:=(List.range k).flatMap (nr_x s n W)
noncomputable def nr_R (s:Int)(n:Nat)(W:List (List UInt8))(k:Nat):List N5:=(List.range' k (W.length-k)).flatMap (nr_x s n W)
def nr_asc(l:List N5):Prop:=l.Pairwise fun a b=>a.1<b.1
open Classical in
noncomputable def nr_chW (s:Int)(n:Nat)(W:List (List UInt8)):Option (List N5) :=
 if n≤W.length∧(∀ i (h:i<W.length),(nr_wd s n i W[i]).isSome=true)∧nr_asc (nr_L s n W W.length)∧nr_L s n W W.length≠[]then some (nr_L s n W W.length)else none
theorem nr_ch_short {s:Int} {n:Nat} {W:List (List UInt8)} (h:W.length<n):nr_chW s n W=none:=if_neg fun k=>by have:=k.1;omega
theorem nr_ch_word {s:Int} {n i:Nat} {W:List (List UInt8)} (hi:i<W.length)(h:nr_wd s n i W[i]=none):nr_chW s n W=none:=if_neg fun k=>by
 have:=k.2.1 i hi
 rw [h]at this;cases this
theorem nr_ch_asc {s:Int} {n:Nat} {W:List (List UInt8)} (h:¬ nr_asc (nr_L s n W W.length)):nr_chW s n W=none:=if_neg fun k=>h k.2.2.1
theorem nr_ch_nil {s:Int} {n:Nat} {W:List (List UInt8)} (h:nr_L s n W W.length=[]):nr_chW s n W=none:=if_neg fun k=>k.2.2.2 h
theorem nr_ch_yes {s:Int} {n:Nat} {W:List (List UInt8)} (h1:n≤W.length) (h2:∀ i (h:i<W.length),(nr_wd s n i W[i]).isSome=true) (h3:nr_asc (nr_L s n W W.length)) (h4:nr_L s n W W.length≠[]) :
  nr_chW s n W=some (nr_L s n W W.length):=if_pos ⟨h1,h2,h3,h4⟩
theorem nr_L_0 (s:Int)(n:Nat)(W:List (List UInt8)):nr_L s n W 0=[]:=rfl
theorem nr_L_s (s:Int)(n:Nat)(W:List (List UInt8))(k:Nat):nr_L s n W (k+1)=nr_L s n W k++nr_x s n W k:=by
 unfold nr_L;rw [List.range_succ,List.flatMap_append];simp
theorem nr_L_pre (s:Int)(n:Nat)(W:List (List UInt8)) {k m:Nat} (h:k≤m):nr_L s n W k <+: nr_L s n W m:=by
 obtain⟨d,rfl⟩:=Nat.exists_eq_add_of_le h
 induction d with
 | zero=>exact List.prefix_refl _
 | succ d ih=>exact (ih (by omega)).trans (by rw [← Nat.add_assoc,nr_L_s];exact List.prefix_append _ _)
theorem nr_x_at {s:Int} {n:Nat} {W:List (List UInt8)} {k:Nat} (h:k<W.length):nr_x s n W k=((nr_wd s n k W[k]).getD none).toList:=by
 unfold nr_x;rw [List.getElem?_eq_getElem h];rfl
theorem nr_R_end (s:Int)(n:Nat)(W:List (List UInt8)):nr_R s n W W.length=[]:=by unfold nr_R;rw [Nat.sub_self];rfl
theorem nr_R_s (s:Int)(n:Nat)(W:List (List UInt8)) {k:Nat} (h:k<W.length):nr_R s n W k=nr_x s n W k++nr_R s n W (k+1):=by
 unfold nr_R
 rw [show W.length-k=(W.length-(k+1))+1 by omega,List.range'_succ,List.flatMap_cons]
theorem nr_R_L (s:Int)(n:Nat)(W:List (List UInt8)):nr_R s n W 0=nr_L s n W W.length:=by
 unfold nr_R nr_L;rw [List.range_eq_range',Nat.sub_zero]
theorem nr_R_suf (s:Int) (n:Nat) (W:List (List UInt8)):∀ {k:Nat},k≤W.length→nr_R s n W k <:+ nr_L s n W W.length
 | 0,_=>by rw [nr_R_L];exact List.suffix_refl _
 | k+1,h=>(show nr_R s n W (k+1) <:+ nr_R s n W k by rw [nr_R_s s n W (k:=k) (by omega)];exact List.suffix_append _ _).trans (nr_R_suf s n W (by omega))
theorem nr_cl_crs {s:Int} {c:Nat} {w:List UInt8} {x:N5} (hc:0<c)(h:nr_cl s c w=some x):x.1=c:=by
 have a:=(nr_cl_of h).2.2.1
 unfold standsB at a
 rw [if_pos (by omega)]at a
 have:=of_decide_eq_true (by simpa using a:decide ((x.1:Int)=(c:Int))=true)
 omega
theorem nr_cl_out {s:Int} {w:List UInt8} {x:N5} (h:nr_cl s 0 w=some x):s=4∨6<x.1:=by
 have a:=(nr_cl_of h).2.2.1
 unfold standsB at a
 rw [if_neg (by omega)]at a
 simp only [Bool.or_eq_true,beq_iff_eq,decide_eq_true_eq]at a
 omega
theorem nr_cl_bd {s crs:Int} {w:List UInt8} {x:N5} (h:nr_cl s crs w=some x):1≤x.1∧x.1≤14∧x.2.1≤18∧x.2.2.1≤3∧x.2.2.2.1≤4∧x.2.2.2.2≤15:=by
 obtain⟨a1,a2,a3,a4⟩:=nr_cl_of h
 obtain⟨a5,a6,a7⟩:=stM_ok a4
 omega
theorem nr_wd_bd {s:Int} {n i:Nat} {w:List UInt8} {x:N5} (h:nr_wd s n i w=some (some x)):1≤x.1∧x.1≤14∧x.2.1≤18∧x.2.2.1≤3∧x.2.2.2.1≤4∧x.2.2.2.2≤15:=by
 unfold nr_wd at h
 split at h
 ·split at h
  ·cases h
  ·obtain⟨y,hy,e⟩:=Option.map_eq_some_iff.1 h
   cases e
   exact nr_cl_bd hy
 ·obtain⟨y,hy,e⟩:=Option.map_eq_some_iff.1 h
  cases e
  exact nr_cl_bd hy
theorem nr_x_bd {s:Int} {n:Nat} {W:List (List UInt8)} {i:Nat} {x:N5} (h:x∈nr_x s n W i):1≤x.1∧x.1≤14∧x.2.1≤18∧x.2.2.1≤3∧x.2.2.2.1≤4∧x.2.2.2.2≤15:=by
 unfold nr_x at h
 cases hw:nr_wd s n i ((W[i]?).getD [])with
 | none=>rw [hw]at h;cases h
 | some o =>
  rw [hw]at h
  cases o with
  | none=>cases h
  | some y =>
   obtain rfl:x=y:=by simpa using h
   exact nr_wd_bd hw
theorem nr_L_bd {s:Int} {n:Nat} {W:List (List UInt8)} {k:Nat} {x:N5} (h:x∈nr_L s n W k):1≤x.1∧x.1≤14∧x.2.1≤18∧x.2.2.1≤3∧x.2.2.2.1≤4∧x.2.2.2.2≤15:=by
 obtain⟨i,_,hi⟩:=List.mem_flatMap.1 h
 exact nr_x_bd hi
theorem nr_asc_len:∀ {l:List N5} {a:Nat},nr_asc l→(∀ x∈l,a<x.1∧x.1≤14)→l.length+a≤14∨l=[]
 | [],_,_,_=>.inr rfl
 | x::r,a,h,hb=>by
  have h1:=hb x (by simp)
  obtain⟨h2,h3⟩:=List.pairwise_cons.1 h
  rcases nr_asc_len (a:=x.1) h3 (fun y hy=>⟨h2 y hy,(hb y (by simp [hy])).2⟩) with k|k
  ·simp only [List.length_cons];omega
  ·subst k;simp only [List.length_cons,List.length_nil];omega
def nr_rev (s:Int)(words:List (List UInt8)):List (List UInt8):=if s=2 then words.reverse else words
def nr_staff(s:Int)(cs:List Crs):Nat:=if s=4 then 0 else min cs.length 6
noncomputable def nr_ch (s:Int)(n:Nat)(words:List (List UInt8)):Option (List N5):=nr_chW s n (nr_rev s words)
structure NC where
 bar:Bool
 v:Nat
 i:Nat
 tie:Bool
 l:List N5
noncomputable def nr_body (s:Int) (n:Nat) (bar:Bool) (v i:Nat) (ws:List (List UInt8)):Option NC :=
 if ws=[[126]]∧s≠4 then some ⟨bar,v,i,true,[]⟩else if ws=[[37]]∧s≠3 then some ⟨bar,v,i,false,[]⟩else (nr_ch s n ws).map fun l=>⟨bar,v,i,false,l⟩
noncomputable def nr_time (s:Int)(n:Nat)(bar:Bool):List (List UInt8)→Option NC
 | sg::w::r=>(scanT (tmM s sg) 0 8).bind fun x=>nr_body s n bar x.1 x.2 (w::r)
 | _=>none
noncomputable def nr_form (s:Int)(n:Nat)(t:List UInt8):Option NC :=
 match rq_wds 32 t with
 | w::r=>if w=[124]then nr_time s n true r else nr_time s n false (w::r)
 | []=>none
def nr_note (cs:List Crs) (x:N5):Int:=if cs.length<x.1 then 12 else if (cs.getD (x.1-1) (0,0,false)).2.1<(x.2.1:Int)then 13 else 0
def nr_notes(cs:List Crs):List N5→Int
 | []=>0
 | x::r=>if nr_note cs x≠0 then nr_note cs x else nr_notes cs r
def nr_chk(cs:List Crs)(first:Bool)(x:NC):Int:=if first=true∧x.v=0 then 20 else if(first && x.tie)=true then 21 else nr_notes cs x.l
noncomputable def nr_err (s:Int)(cs:List Crs)(k:Nat)(t:List UInt8):Int :=
 match nr_form s (nr_staff s cs) t with
 | none=>4
 | some x=>nr_chk cs (k == 0) x
noncomputable def nr_nc (s:Int) (cs:List Crs) (t:List UInt8):NC:=(nr_form s (nr_staff s cs) t).getD ⟨false,0,0,false,[]⟩
noncomputable def nr_bad (s:Int)(cs:List Crs):Nat→List (List UInt8)→Option (Nat×Int)
 | _,[]=>none
 | k,t::r=>if nr_err s cs k t≠0 then some (k,nr_err s cs k t) else nr_bad s cs (k+1) r
theorem nr_bad_at {s:Int} {cs:List Crs}:∀ {L:List (List UInt8)} {k j:Nat} (hj:j<L.length),(∀ i (hi:i<L.length),i<j→nr_err s cs (k+i) L[i]=0)→nr_err s cs (k+j) L[j]≠0→nr_bad s cs k L=some (k+j,nr_err s cs (k+j) L[j])
 | t::r,k,0,hj,_,h=>by
  unfold nr_bad
  rw [if_pos (by simpa using h)];rfl
 | t::r,k,j+1,hj,h1,h=>by
  have h0:=h1 0 (by simp) (by omega)
  simp only [Nat.add_zero,List.getElem_cons_zero] at h0
  unfold nr_bad
  rw [if_neg (by rw [h0];decide),nr_bad_at (k:=k+1) (j:=j) (by simpa using hj) (fun i hi hij=>by
   have:=h1 (i+1) (by simpa using hi) (by omega)
   rw [List.getElem_cons_succ] at this
   rw [← this];congr 1;omega) (by
   rw [List.getElem_cons_succ] at h
   rw [show k+1+j=k+(j+1) by omega];exact h)]
  rw [List.getElem_cons_succ,show k+1+j=k+(j+1) by omega]
theorem nr_bad_none {s:Int} {cs:List Crs}:∀ {L:List (List UInt8)} {k:Nat},(∀ i (hi:i<L.length),nr_err s cs (k+i) L[i]=0)→nr_bad s cs k L=none
 | [],_,_=>rfl
 | t::r,k,h=>by
  have h0:=h 0 (by simp)
  simp only [Nat.add_zero,List.getElem_cons_zero] at h0
  unfold nr_bad
  rw [if_neg (by rw [h0];decide)]
  exact nr_bad_none fun i hi=>by
   have:=h (i+1) (by simpa using hi)
   rw [List.getElem_cons_succ] at this
   rw [← this];congr 1;omega
def nr_evW(x:NC)(w:N5→Int):Ev:=⟨x.bar,x.v,sgD x.i,sgT x.i,x.tie,x.l.map fun n=>(n.1,n.2.1,n.2.2.1,n.2.2.2.1,w n)⟩
def nr_ev0(x:NC):Ev:=nr_evW x fun _=>0
def nr_rh(x:NC):Ev:=nr_evW x fun n=>(n.2.2.2.2:Int)
def nr_lg (E:List NC)(i:Nat)(x:N5):Int:=(longestN (E.map nr_ev0) i x.1:Int)
def nr_hE (s:Int)(E:List NC)(i:Nat)(x:N5):Bool:=decide (x.2.2.2.2≠0) && (decide (nr_lg E i x=0)|| (decide (s=1) && decide (nr_lg E i x<x.2.2.2.2)))
def nr_hV(s:Int)(E:List NC)(i:Nat)(x:N5):Int:=if x.2.2.2.2=0 then 0 else if s=1 then(x.2.2.2.2:Int)else nr_lg E i x
def nr_hB (s:Int) (E:List NC):Option Nat:=(List.range E.length).find? fun i=>((E[i]?).getD ⟨false,0,0,false,[]⟩).l.any (nr_hE s E i)
def nr_fin (s:Int)(E:List NC):List Ev:=E.mapIdx fun i x=>nr_evW x (nr_hV s E i)
def nr_sys(l:List UInt8):Option Int :=
 if l.take 10=[116,97,98,108,97,116,117,114,101,32]then
  (if [102,114,101,110,99,104]=l.drop 10 then some 1 else if [105,116,97,108,105,97,110]=l.drop 10 then some 2 else if [115,112,97,110,105,115,104]=l.drop 10 then some 3 else if [103,101,114,109,97,110]=l.drop 10 then some 4 else none)
 else none
def nr_ins (t:List UInt8):(List Crs×List Int)×Int :=
 if (ri_raw t).2≠0 then (([],[]),(ri_raw t).2)else if insE (ri_raw t).1.1 (ri_raw t).1.2≠0 then (([],[]),insE (ri_raw t).1.1 (ri_raw t).1.2)else ((ri_raw t).1,0)
abbrev NRes:=Int×Pce×Int×Int
def nr_no(line e:Int):NRes:=(0,⟨[],[],[]⟩,line,e)
noncomputable def nr_evs (s:Int)(cs:List Crs)(st:List Int)(tl:List UInt8)(L:List (List UInt8)):NRes :=
 match nr_bad s cs 0 L with
 | some (k,e)=>nr_no ((k:Int)+3) e
 | none =>
  if tl≠[] then nr_no ((L.length:Int)+3) 4 else
  match nr_hB s (L.map (nr_nc s cs)) with
  | some i=>nr_no ((i:Int)+3) 24
  | none=>(s,⟨cs,st,nr_fin s (L.map (nr_nc s cs))⟩,0,0)
noncomputable def nr_two (s:Int)(tl:List UInt8):List (List UInt8)→NRes
 | []=>nr_no 2 4
 | l::L =>
  if (nr_ins l).2≠0 then nr_no 2 (nr_ins l).2 else
  if 400<L.length+(if tl=[]then 0 else 1)then nr_no 403 2 else nr_evs s (nr_ins l).1.1 (nr_ins l).1.2 tl L
noncomputable def nr_one (tl:List UInt8):List (List UInt8)→NRes
 | []=>nr_no 1 4
 | l::L=>match nr_sys l with
  | none=>nr_no 1 4
  | some s=>nr_two s tl L
noncomputable def nr_read (t:List UInt8):NRes:=nr_one (rq_spl 10 t).2 (rq_spl 10 t).1
end
section
open Go.RowKit
theorem nr_asc_sym:((List.range' 1 4).all fun s=>(List.range' 1 14).all fun c=>(List.range 19).all fun f=>(rS (s:Int) (c:Int) (f:Int)).all fun b=>decide (b.toNat<128))=true:=by decide +kernel
theorem nr_asc_mk:((List.range' 1 4).all fun s=>((List.range 4).all fun r=>(rR (s:Int) (r:Int)).all fun b=>decide (b.toNat<128)) && ((List.range 5).all fun g=>(rG (s:Int) (g:Int)).all fun b=>decide (b.toNat<128)) && ((List.range 16).all fun h=>(pH (s:Int) (h:Int) 15).all fun b=>decide (b.toNat<128)))=true:=by decide +kernel
theorem nr_ascii {s crs:Int} {w:List UInt8} {c f r g h:Nat} (hsp:spotErr s crs=0) (a:pcOk s crs 15 w c f r g h):∀ b∈w,b.toNat<128:=by
 have hs:=spotErr_sys hsp
 obtain ⟨a1,a2,a3,a4⟩:=a
 obtain ⟨a5,a6,a7⟩:=stM_ok a4
 obtain ⟨l1,l2⟩:=sym_law s c f hs zqo zqo
 unfold cellOk at a6
 simp only [Bool.and_eq_true] at a6
 obtain ⟨k,rfl⟩:=Int.eq_ofNat_of_zero_le (show 0≤s by omega)
 have h1:=List.all_eq_true.1 (List.all_eq_true.1 (List.all_eq_true.1 (List.all_eq_true.1 nr_asc_sym k (List.mem_range'_1.2 zqo)) c (List.mem_range'_1.2 zqo)) f (List.mem_range.2 zqo))
 have h2:=List.all_eq_true.1 nr_asc_mk k (List.mem_range'_1.2 zqo)
 simp only [Bool.and_eq_true] at h2
 have h3:=List.all_eq_true.1 (List.all_eq_true.1 h2.1.1 r (List.mem_range.2 zqo))
 have h4:=List.all_eq_true.1 (List.all_eq_true.1 h2.1.2 g (List.mem_range.2 zqo))
 have h5:=List.all_eq_true.1 (List.all_eq_true.1 h2.2 h (List.mem_range.2 zqo))
 intro b hb
 rw [← a7] at hb
 unfold cellS at hb
 rw [l2 a6.1.1.1] at hb
 simp only [List.mem_append] at hb
 rcases hb with((x|x)|x)|x
 ·exact of_decide_eq_true (h1 b x)
 ·exact of_decide_eq_true (h3 b x)
 ·exact of_decide_eq_true (h4 b x)
 ·exact of_decide_eq_true (h5 b x)
def nr_NoP(s crs:Int)(w:List UInt8)(pos:Nat):Prop:=∀ c f r g h:Nat,pcOk s crs 15 w c f r g h→pos≤(rS s c f).length
theorem nr_NoP_0(s crs:Int)(w:List UInt8):nr_NoP s crs w 0:=fun _ _ _ _ _ _=>Nat.zero_le _
theorem nr_get {l:List UInt8} {i:Nat} (h:i<l.length):(bs l)[i]'(by rw [bs_size];exact h)=l[i]:=by
 have:(bs l).data.toList=l:=bs_data l
 simp only [ByteArray.getElem_eq_getElem_data]
 rw [← Array.getElem_toList]
 congr 1
theorem nr_NoP_s {s crs:Int} {w:List UInt8} {pos:Nat} (hsp:spotErr s crs=0) (hp:pos<w.length+1) (hN:nr_NoP s crs w pos)
  (hno:pos=0∨∀ c f:Nat,placeOf s crs (w.take pos)=((c:Int),(f:Int),0)→rm_mk s (decide (0<(f:Int))) (w.drop pos)=none):nr_NoP s crs w (pos+(Utf8.decode (bs (w++[32])) pos).2):=by
 intro c f r g h a
 have h1:=hN c f r g h a
 obtain ⟨b1,b2,b3,b4⟩:=rm_complete hsp a
 have hlt:pos<(rS s c f).length:=by
  rcases Nat.lt_or_ge pos (rS s c f).length with k|k
  ·exact k
  ·exfalso
   have e:(rS s c f).length=pos:=by omega
   rw [e] at b3 b4
   rcases hno with h0|hno
   ·omega
   ·rw [hno c f b3] at b4;cases b4
 have hpw:pos<w.length:=by omega
 have hsz:pos<(bs (w++[32])).size:=by rw [bs_size,List.length_append];simp;omega
 have hb:((bs (w++[32]))[pos]'hsz).toNat<128:=by
  rw [nr_get (by rw [List.length_append];simp;omega),List.getElem_append_left hpw]
  exact nr_ascii hsp a _ (List.getElem_mem hpw)
 rw [decode_ascii _ _ hsz hb]
 exact hlt
theorem nr_NoP_end {s crs:Int} {w:List UInt8} {pos:Nat} (hsp:spotErr s crs=0)(hp:w.length+1≤pos)(hN:nr_NoP s crs w pos):nr_cl s crs w=none :=
 nr_cl_none.1 fun c f r g h a=>by
  have h1:=hN c f r g h a
  obtain⟨b1,b2,b3,b4⟩:=rm_complete hsp a
  omega
def eWr (s:Int)(x:N5):List AV:=[.sc (.int .i64 x.1),.sc (.int .i64 x.2.1),.sc (.int .i64 x.2.2.1),.sc (.int .i64 x.2.2.2.1),.sc (.int .i64 0),.sc (.int .i64 (rm_hold s x.2.2.2.2))]
theorem nr_hit {s crs:Int} {w:List UInt8} {n:Nat} {c f:Nat} {x:Int×Int×Int} (hsp:spotErr s crs=0) (h1:1≤n) (hn:n≤w.length) (hp:placeOf s crs (w.take n)=((c:Int),(f:Int),0)) (hm:rm_mk s (decide (0<(f:Int))) (w.drop n)=some x) :
  ∃ y:N5,nr_cl s crs w=some y∧(c:Int)=(y.1:Int)∧(f:Int)=(y.2.1:Int)∧x.1=(y.2.2.1:Int)∧x.2.1=(y.2.2.2.1:Int)∧x.2.2=rm_hold s y.2.2.2.2:=by
 obtain ⟨c',f',r,g,h,e1,e2,a,rfl⟩:=rm_sound hsp h1 hn hp hm
 exact ⟨(c',f',r,g,h),nr_cl_some hsp a,e1,e2,rfl,rfl,rfl⟩
end
section
open Go.RowKit
def nr_crsE(e:Ev):List Int×Bool:=(e.stops.map fun x=>x.1,restB e)
theorem nr_hasB(c:Int)(l:List Stp):hasB c l=(l.map fun x=>x.1).any fun x=>x == c:=by
 unfold hasB;rw [List.any_map];rfl
theorem nr_runL {c:Int}:∀ (k:Nat) {l m:List Ev},l.map nr_crsE=m.map nr_crsE→runL c k l=runL c k m
 | 0,l,m,_=>by simp [runL]
 | k+1,[],[],_=>rfl
 | k+1,[],y::m,h=>by simp at h
 | k+1,x::l,[],h=>by simp at h
 | k+1,x::l,y::m,h=>by
  rw [List.map_cons,List.map_cons] at h
  obtain⟨h1,h2⟩:=List.cons.inj h
  unfold nr_crsE at h1
  obtain⟨h3,h4⟩:=Prod.mk.inj h1
  have ih:=nr_runL (c:=c) k h2
  unfold runL
  rw [h4,nr_hasB,nr_hasB,h3,ih]
theorem nr_longest {l m:List Ev} (h:l.map nr_crsE=m.map nr_crsE) (i c:Int):longestN l i c=longestN m i c:=by
 have hl:l.length=m.length:=by have:=congrArg List.length h;simpa using this
 unfold longestN
 rw [hl,nr_runL 15 (l:=l.drop (i.toNat+1)) (m:=m.drop (i.toNat+1)) (by rw [List.map_drop,List.map_drop,h])]
def nr_stp(w:N5→Int)(n:N5):Stp:=(n.1,n.2.1,n.2.2.1,n.2.2.2.1,w n)
def nr_stK (U V:N5→Int)(k:Nat)(l:List N5):List Stp:=(l.take k).map (nr_stp V)++(l.drop k).map (nr_stp U)
def nr_stN (U:N5→Int)(V:Nat→N5→Int)(E:List NC)(n k:Nat):List Ev :=
 E.mapIdx fun i x=>if i<n then nr_evW x (V i) else if i=n then { nr_evW x U with stops:=nr_stK U (V n) k x.l } else nr_evW x U
section
variable {U:N5→Int} {V:Nat→N5→Int} {E:List NC} {n k:Nat}
theorem nr_stN_len:(nr_stN U V E n k).length=E.length:=List.length_mapIdx
theorem nr_stK_0 (U V:N5→Int)(l:List N5):nr_stK U V 0 l=l.map (nr_stp U):=by unfold nr_stK;simp
theorem nr_stK_all (U V:N5→Int)(l:List N5):nr_stK U V l.length l=l.map (nr_stp V):=by unfold nr_stK;simp
theorem nr_stK_len(U V:N5→Int)(k:Nat)(l:List N5):(nr_stK U V k l).length=l.length:=by
 unfold nr_stK;rw [List.length_append,List.length_map,List.length_map,List.length_take,List.length_drop];omega
theorem nr_stK_get {V:N5→Int} {l:List N5} (h:k<l.length):(nr_stK U V k l)[k]?=some (nr_stp U l[k]):=by
 unfold nr_stK
 have hl:((l.take k).map (nr_stp V)).length=k:=by rw [List.length_map,List.length_take];omega
 rw [List.getElem?_append_right (by omega),hl,Nat.sub_self,List.getElem?_map,List.getElem?_drop,Nat.add_zero,List.getElem?_eq_getElem h];rfl
theorem nr_stK_put {V:N5→Int} {l:List N5} (h:k<l.length):(nr_stK U V k l).set k (nr_stp V l[k])=nr_stK U V (k+1) l:=by
 unfold nr_stK
 have hl:((l.take k).map (nr_stp V)).length=k:=by rw [List.length_map,List.length_take];omega
 rw [List.set_append_right _ _ (by omega),hl,Nat.sub_self,List.drop_eq_getElem_cons h,List.map_cons,List.set_cons_zero,List.take_succ_eq_append_getElem h,List.map_append,List.append_assoc];rfl
theorem nr_stK_same {V:N5→Int} {l:List N5} (h:k<l.length) (e:V l[k]=U l[k]):nr_stK U V (k+1) l=nr_stK U V k l:=by
 rw [← nr_stK_put h]
 have h1:=nr_stK_get (U:=U) (V:=V) h
 have hk:k<(nr_stK U V k l).length:=by rw [nr_stK_len];exact h
 rw [List.getElem?_eq_getElem hk] at h1
 have h2:=Option.some.inj h1
 have h3:nr_stp V l[k]=nr_stp U l[k]:=by unfold nr_stp;rw [e]
 rw [h3,← h2,List.set_getElem_self]
theorem nr_stN_0 (U:N5→Int)(V:Nat→N5→Int)(E:List NC):nr_stN U V E 0 0=E.map fun x=>nr_evW x U:=by
 apply List.ext_getElem (by rw [nr_stN_len,List.length_map])
 intro i h1 h2
 simp only [nr_stN,List.getElem_mapIdx,List.getElem_map,Nat.not_lt_zero,if_false]
 split
 ·rw [nr_stK_0];rfl
 ·rfl
theorem nr_stN_all (U:N5→Int)(V:Nat→N5→Int)(E:List NC):nr_stN U V E E.length 0=E.mapIdx fun i x=>nr_evW x (V i):=by
 apply List.ext_getElem (by rw [nr_stN_len,List.length_mapIdx])
 intro i h1 h2
 have hi:i<E.length:=by rw [List.length_mapIdx]at h2;exact h2
 simp only [nr_stN,List.getElem_mapIdx]
 rw [if_pos hi]
theorem nr_stN_next (h:n<E.length):nr_stN U V E n E[n].l.length=nr_stN U V E (n+1) 0:=by
 apply List.ext_getElem (by rw [nr_stN_len,nr_stN_len])
 intro i h1 h2
 simp only [nr_stN,List.getElem_mapIdx]
 by_cases e1:i<n
 ·rw [if_pos e1,if_pos (by omega)]
 ·rw [if_neg e1]
  by_cases e2:i=n
  ·subst e2
   rw [if_pos rfl,if_pos (by omega),nr_stK_all];rfl
  ·rw [if_neg e2,if_neg (by omega)]
   split
   ·rw [nr_stK_0];rfl
   ·rfl
theorem nr_stN_at (h:n<E.length):(nr_stN U V E n k)[n]?=some { nr_evW E[n] U with stops:=nr_stK U (V n) k E[n].l }:=by
 rw [List.getElem?_eq_getElem (by rw [nr_stN_len];exact h)]
 simp only [nr_stN,List.getElem_mapIdx]
 simp
theorem nr_stN_set (h:n<E.length)(f:Ev→List AV)(j:Nat):((nr_stN U V E n j).map f).set n (f { nr_evW E[n] U with stops:=nr_stK U (V n) k E[n].l })=(nr_stN U V E n k).map f:=by
 rw [← List.map_set]
 congr 1
 apply List.ext_getElem (by rw [List.length_set,nr_stN_len,nr_stN_len])
 intro i h1 h2
 rw [List.getElem_set]
 simp only [nr_stN,List.getElem_mapIdx]
 by_cases e:n=i
 ·subst e
  rw [if_pos rfl,if_neg (Nat.lt_irrefl n),if_pos rfl]
 ·rw [if_neg e]
  by_cases e2:i<n
  ·rw [if_pos e2,if_pos e2]
  ·rw [if_neg e2,if_neg (fun h=>e h.symm),if_neg e2,if_neg (fun h=>e h.symm)]
theorem nr_evW_crs (x:NC)(w w':N5→Int):nr_crsE (nr_evW x w)=nr_crsE (nr_evW x w'):=by
 unfold nr_crsE nr_evW restB
 simp [Function.comp_def]
theorem nr_stK_crs (U V:N5→Int)(k:Nat)(l:List N5):(nr_stK U V k l).map (fun x=>x.1)=l.map fun x=>(x.1:Int):=by
 unfold nr_stK
 rw [List.map_append,List.map_map,List.map_map]
 have:∀ w:N5→Int,((fun x:Stp=>x.1) ∘ nr_stp w)=fun x=>(x.1:Int):=fun w=>rfl
 rw [this,this,← List.map_append,List.take_append_drop]
theorem nr_stN_crs:(nr_stN U V E n k).map nr_crsE=(E.map nr_ev0).map nr_crsE:=by
 apply List.ext_getElem (by simp [nr_stN_len])
 intro i h1 h2
 rw [List.getElem_map,List.getElem_map,List.getElem_map]
 simp only [nr_stN,List.getElem_mapIdx]
 split
 ·exact nr_evW_crs _ _ _
 ·split
  ·unfold nr_crsE restB nr_ev0 nr_evW
   dsimp only
   rw [nr_stK_crs,nr_stK_len]
   simp [Function.comp_def]
  ·exact nr_evW_crs _ _ _
theorem nr_stN_long (i:Nat)(c:Int):longestN (nr_stN U V E n k) i c=longestN (E.map nr_ev0) i c:=nr_longest nr_stN_crs _ _
theorem nr_stN_stops {i:Nat} (h:i<E.length):((nr_stN U V E n k)[i]'(by rw [nr_stN_len];exact h)).stops.length=E[i].l.length:=by
 simp only [nr_stN,List.getElem_mapIdx]
 split
 ·exact List.length_map _
 ·split
  ·exact nr_stK_len _ _ _ _
  ·exact List.length_map _
end
theorem nr_getD {E:List NC} {i:Nat} (h:i<E.length):(E[i]?).getD ⟨false,0,0,false,[]⟩=E[i]:=by rw [List.getElem?_eq_getElem h];rfl
theorem nr_hB_at {s:Int} {E:List NC} {i k:Nat} (hi:i<E.length) (h0:∀ j (hj:j<E.length),j<i→E[j].l.any (nr_hE s E j)=false) (hk:k<E[i].l.length) (h1:nr_hE s E i E[i].l[k]=true):nr_hB s E=some i:=by
 unfold nr_hB
 have e:List.range E.length=List.range i++i::List.range' (i+1) (E.length-(i+1)):=by
  obtain ⟨d,hd⟩:∃ d,E.length-(i+1)=d:=⟨_,rfl⟩
  rw [hd,show E.length=i+(d+1) by omega,List.range_eq_range',List.range_eq_range',← List.range'_append_1,List.range'_succ]
  simp
 rw [e,List.find?_append,List.find?_eq_none.2 fun j hj=>by
  have hj2:=List.mem_range.1 hj
  rw [nr_getD (by omega),h0 j (by omega) hj2];decide]
 rw [Option.none_or,List.find?_cons_of_pos]
 rw [nr_getD hi]
 exact List.any_eq_true.2 ⟨_,List.getElem_mem hk,h1⟩
theorem nr_hB_none {s:Int} {E:List NC} (h0:∀ j (hj:j<E.length),E[j].l.any (nr_hE s E j)=false):nr_hB s E=none:=by
 unfold nr_hB
 rw [List.find?_eq_none]
 intro j hj
 have hj2:=List.mem_range.1 hj
 rw [nr_getD hj2,h0 j hj2];decide
theorem nr_any_s {α:Type} {f:α→Bool} {l:List α} (h:∀ k(hk:k<l.length),f l[k]=false):l.any f=false:=by
 rw [List.any_eq_false]
 intro x hx
 obtain⟨k,hk,rfl⟩:=List.mem_iff_getElem.1 hx
 rw [h k hk];decide
end
section
open Go.RowKit
section
variable {s:Int} {n:Nat} {W:List (List UInt8)}
theorem nr_wd_on {i:Nat} {w:List UInt8} {x:N5} (hi:i<n) (h:nr_wd s n i w=some (some x)):x.1=i+1:=by
 unfold nr_wd at h
 rw [if_pos hi] at h
 split at h
 ·cases h
 ·obtain ⟨y,hy,e⟩:=Option.map_eq_some_iff.1 h
  cases e
  exact nr_cl_crs (c:=i+1) zqo hy
theorem nr_wd_out {i:Nat} {w:List UInt8} {x:N5} (hi:n≤i)(h:nr_wd s n i w=some (some x)):s=4∨6<x.1:=by
 unfold nr_wd at h
 rw [if_neg (by omega)]at h
 obtain⟨y,hy,e⟩:=Option.map_eq_some_iff.1 h
 cases e
 exact nr_cl_out hy
theorem nr_wd_out_some {i:Nat} {w:List UInt8} (hi:n≤i)(h:(nr_wd s n i w).isSome=true):∃ x,nr_wd s n i w=some (some x):=by
 unfold nr_wd at h ⊢
 rw [if_neg (by omega)]at h ⊢
 cases hc:nr_cl s 0 w with
 | none=>rw [hc]at h;cases h
 | some x=>exact⟨x,rfl⟩
theorem nr_x_note {k:Nat} (h:k<W.length) {x:N5} (hx:nr_wd s n k W[k]=some (some x)):nr_x s n W k=[x]:=by rw [nr_x_at h,hx];rfl
theorem nr_x_dash {k:Nat} (h:k<W.length)(hx:nr_wd s n k W[k]=some none):nr_x s n W k=[]:=by rw [nr_x_at h,hx];rfl
theorem nr_x_on {i:Nat} (hi:i<n) {y:N5} (hy:y∈nr_x s n W i):y.1=i+1:=by
 unfold nr_x at hy
 cases hw:nr_wd s n i ((W[i]?).getD [])with
 | none=>rw [hw]at hy;cases hy
 | some o =>
  rw [hw]at hy
  cases o with
  | none=>cases hy
  | some z =>
   obtain rfl:y=z:=by simpa using hy
   exact nr_wd_on hi hw
theorem nr_x_out {i:Nat} (hi:n≤i) {y:N5} (hy:y∈nr_x s n W i):s=4∨6<y.1:=by
 unfold nr_x at hy
 cases hw:nr_wd s n i ((W[i]?).getD [])with
 | none=>rw [hw]at hy;cases hy
 | some o =>
  rw [hw]at hy
  cases o with
  | none=>cases hy
  | some z =>
   obtain rfl:y=z:=by simpa using hy
   exact nr_wd_out hi hw
theorem nr_L_mem {k:Nat} {y:N5}:y∈nr_L s n W k↔∃ i,i<k∧y∈nr_x s n W i:=by
 unfold nr_L
 rw [List.mem_flatMap]
 exact⟨fun⟨i,h1,h2⟩=>⟨i,List.mem_range.1 h1,h2⟩,fun⟨i,h1,h2⟩=>⟨i,List.mem_range.2 h1,h2⟩⟩
theorem nr_R_mem {k:Nat} {y:N5}:y∈nr_R s n W k→∃ i,k≤i∧i<W.length∧y∈nr_x s n W i:=by
 unfold nr_R
 rw [List.mem_flatMap]
 rintro⟨i,h1,h2⟩
 have:=List.mem_range'_1.1 h1
 exact⟨i,this.1,by omega,h2⟩
theorem nr_x_one (i:Nat):(nr_x s n W i).length≤1:=by
 unfold nr_x
 cases ((nr_wd s n i ((W[i]?).getD [])).getD none)<;>simp
theorem nr_asc_app {a b:List N5} (ha:nr_asc a) (hb:nr_asc b) (h:∀ x∈a,∀ y∈b,x.1<y.1):nr_asc (a++b):=List.pairwise_append.2 ⟨ha,hb,h⟩
theorem nr_asc_one {l:List N5} (h:l.length≤1):nr_asc l:=by
 match l,h with
 | [],_=>exact List.Pairwise.nil
 | [x],_=>exact List.pairwise_singleton _ _
theorem nr_L_on:∀ {k:Nat},k≤n→nr_asc (nr_L s n W k)
 | 0,_=>List.Pairwise.nil
 | k+1,h=>by
  rw [nr_L_s]
  refine nr_asc_app (nr_L_on zqo) (nr_asc_one (nr_x_one k)) fun x hx y hy=>?_
  obtain ⟨i,hi,hxi⟩:=nr_L_mem.1 hx
  rw [nr_x_on (by omega) hxi,nr_x_on (by omega) hy];omega
noncomputable def nr_last (s:Int)(n:Nat)(W:List (List UInt8))(k:Nat):Nat:=if k≤n then 0 else (((nr_x s n W (k-1)).head?).getD (0,0,0,0,0)).1
theorem nr_last_0 {k:Nat} (h:k≤n):nr_last s n W k=0:=if_pos h
theorem nr_last_s {k:Nat} (h:n≤k) {x:N5} (hx:nr_x s n W k=[x]):nr_last s n W (k+1)=x.1:=by
 unfold nr_last
 rw [if_neg (by omega),Nat.add_sub_cancel,hx];rfl
theorem nr_L_step {k:Nat} (h6:n≤6) (h4:s=4→n=0) (hk:n≤k) (hok:∀ i (h:i<W.length),i<k→(nr_wd s n i W[i]).isSome=true) (hkl:k≤W.length) (ha:nr_asc (nr_L s n W k)) {x:N5} (hx:nr_x s n W k=[x]) :
  nr_asc (nr_L s n W (k+1))↔nr_last s n W k<x.1:=by
 have hx1:=nr_x_bd (s:=s) (n:=n) (W:=W) (i:=k) (x:=x) (by rw [hx];simp)
 rw [nr_L_s,hx]
 by_cases e:k=n
 ·subst e
  rw [nr_last_0 (Nat.le_refl _)]
  refine ⟨fun _=>by omega,fun _=>nr_asc_app ha (nr_asc_one (by simp)) fun y hy z hz=>?_⟩
  obtain rfl:=List.mem_singleton.1 hz
  obtain ⟨i,hi,hyi⟩:=nr_L_mem.1 hy
  have h1:=nr_x_on hi hyi
  rcases nr_x_out (s:=s) (n:=k) (W:=W) (Nat.le_refl k) (by rw [hx];simp:z∈_) with h5|h5
  ·have:=h4 h5;omega
  ·omega
 ·obtain ⟨j,rfl⟩:∃ j,k=j+1:=⟨k-1,by omega⟩
  obtain ⟨y,hy⟩:=nr_wd_out_some (i:=j) zqo (hok j zqo zqo)
  have hyx:=nr_x_note zqo hy
  rw [nr_last_s (by omega) hyx]
  rw [nr_L_s,hyx] at ha ⊢
  constructor
  ·intro h
   exact (List.pairwise_append.1 h).2.2 y (by simp) x (by simp)
  ·intro h
   refine nr_asc_app ha (nr_asc_one (by simp)) fun z hz u hu=>?_
   obtain rfl:=List.mem_singleton.1 hu
   rcases List.mem_append.1 hz with q|q
   ·have:=(List.pairwise_append.1 ha).2.2 z q y (by simp)
    omega
   ·obtain rfl:=List.mem_singleton.1 q
    exact h
theorem nr_asc_pre {a b:List N5} (h:a <+: b)(hb:nr_asc b):nr_asc a:=hb.sublist h.sublist
theorem nr_asc_suf {a b:List N5} (h:a <:+ b)(hb:nr_asc b):nr_asc a:=hb.sublist h.sublist
noncomputable def nr_lastR (s:Int)(n:Nat)(W:List (List UInt8))(k:Nat):Nat:=if W.length≤k then 0 else (((nr_x s n W k).head?).getD (0,0,0,0,0)).1
theorem nr_lastR_0:nr_lastR s n W W.length=0:=if_pos (Nat.le_refl _)
theorem nr_lastR_s {k:Nat} (h:k<W.length) {x:N5} (hx:nr_x s n W k=[x]):nr_lastR s n W k=x.1:=by
 unfold nr_lastR;rw [if_neg (by omega),hx];rfl
theorem nr_R_on {k:Nat} (h6:n≤6)(h4:s=4→n=0)(hk:k<n)(hkl:k<W.length)(ha:nr_asc (nr_R s n W (k+1))):nr_asc (nr_R s n W k)∧∀ x∈nr_x s n W k,∀ y∈nr_R s n W (k+1),x.1<y.1:=by
 have hlt:∀ x∈nr_x s n W k,∀ y∈nr_R s n W (k+1),x.1<y.1:=fun x hx y hy=>by
  have h1:=nr_x_on hk hx
  obtain⟨i,i1,i2,i3⟩:=nr_R_mem hy
  rcases Nat.lt_or_ge i n with q|q
  ·have:=nr_x_on q i3;omega
  ·rcases nr_x_out q i3 with h5|h5
   ·have:=h4 h5;omega
   ·omega
 rw [nr_R_s s n W hkl]
 exact⟨nr_asc_app (nr_asc_one (nr_x_one k)) ha hlt,hlt⟩
theorem nr_R_out {k:Nat} (hk:n≤k) (hkl:k<W.length) (hok:∀ i (h:i<W.length),k<i→(nr_wd s n i W[i]).isSome=true) (ha:nr_asc (nr_R s n W (k+1))) {x:N5} (hx:nr_x s n W k=[x]) :
  (nr_lastR s n W (k+1)=0∨x.1<nr_lastR s n W (k+1))↔(nr_asc (nr_R s n W k)∧∀ y∈nr_R s n W (k+1),x.1<y.1):=by
 have hx1:=nr_x_bd (s:=s) (n:=n) (W:=W) (i:=k) (x:=x) (by rw [hx];simp)
 rw [nr_R_s s n W hkl,hx]
 by_cases e:k+1=W.length
 ·rw [e,nr_R_end]
  exact ⟨fun _=>⟨nr_asc_one (by simp),fun y hy=>by cases hy⟩,fun _=>.inl nr_lastR_0⟩
 ·obtain ⟨y,hy⟩:=nr_wd_out_some (i:=k+1) zqo (hok (k+1) zqo zqo)
  have hyx:=nr_x_note zqo hy
  have hy1:=nr_x_bd (s:=s) (n:=n) (W:=W) (i:=k+1) (x:=y) (by rw [hyx];simp)
  rw [nr_lastR_s (by omega) hyx]
  have hR:nr_R s n W (k+1)=[y]++nr_R s n W (k+1+1):=by rw [nr_R_s s n W (k:=k+1) (by omega),hyx]
  rw [hR] at ha ⊢
  constructor
  ·intro h
   have h2:x.1<y.1:=by omega
   have hall:∀ z∈[y]++nr_R s n W (k+1+1),x.1<z.1:=fun z hz=>by
    rcases List.mem_append.1 hz with q|q
    ·obtain rfl:=List.mem_singleton.1 q;exact h2
    ·have:=(List.pairwise_append.1 ha).2.2 y (by simp) z q;omega
   exact ⟨nr_asc_app (nr_asc_one (by simp)) ha fun a ha' z hz=>by
    obtain rfl:=List.mem_singleton.1 ha'
    exact hall z hz,hall⟩
  ·intro h
   exact .inr (h.2 y (by simp))
def nr_ins1:List N5→N5→List N5
 | [],x=>[x]
 | y::r,x=>if y.1<x.1 then y::nr_ins1 r x else x::y::r
theorem nr_ins1_end:∀ {l:List N5} {x:N5},(∀ y∈l,y.1<x.1)→nr_ins1 l x=l++[x]
 | [],_,_=>rfl
 | y::r,x,h=>by
  unfold nr_ins1
  rw [if_pos (h y (by simp)),nr_ins1_end fun z hz=>h z (by simp [hz])];rfl
theorem nr_ins1_front {l:List N5} {x:N5} (h:∀ y∈l,x.1<y.1):nr_ins1 l x=x::l:=by
 cases l with
 | nil=>rfl
 | cons y r =>
  unfold nr_ins1
  rw [if_neg (by have:=h y (by simp);omega)]
theorem nr_spanish (w:List UInt8):nr_cl 3 0 w=none:=nr_cl_none.1 fun c f r g h a=>by
 obtain ⟨a1,a2,a3,a4⟩:=a
 obtain ⟨a5,a6,a7⟩:=stM_ok a4
 unfold cellOk at a6
 simp only [Bool.and_eq_true] at a6
 have h1:=a6.1.1.1
 unfold standsB at a3
 rw [if_neg (by omega)] at a3
 simp only [Bool.or_eq_true,beq_iff_eq,decide_eq_true_eq] at a3
 have h2:((List.range' 7 8).all fun c=>(List.range 19).all fun f=>!pOk 3 (c:Int) (f:Int))=true:=by decide +kernel
 have h3:=List.all_eq_true.1 (List.all_eq_true.1 h2 c (List.mem_range'_1.2 zqo)) f (List.mem_range.2 zqo)
 rw [h1] at h3;cases h3
end
end
section
open Go.RowKit
def itQ (s:List UInt8) (pos:Nat):Opq :=
 ⟨fun w b v φ=>v=.pointer (some ⟨b,0,none⟩)∧φ b∧w.heap[b]?=some (.stringIter (bs s) pos),fun w w' b v φ h ⟨h1,h2,h3⟩=>⟨h1,h2,(h b h2).trans h3⟩⟩
section
variable {P:Program} {C:Cx} {σ σ':St} {G G':Gh} {a:Act} {w w':World} {o:Oper} {d:Tmp} {ops:Array Oper} {rest:List Oper} {Q:Exit→St→Prop}
theorem WO.rgs {T:TypeId} {s:List UInt8} {x:Operand} {q:Nat} (hd:dstB C.N o=some d) (ho:o.op=.range T x) (hT:P.underlying T=some .string) (hx:σ.ev x=some (.sc (.string (bs s)))) (hq:σ.nk=q):WO P C o σ ((σ.new (.opq (itQ s 0))).put d (.sl q)):=by
 intro G a w ok N Q' hN
 obtain ⟨_,hds,hdb⟩:=dstB_of hd
 have ok':=ok.newObj (S:=fun _=>False) (w':=w.iter (bs s) 0) (b:=w.heap.size) (n:=0) (h:=.pointer (some ⟨w.heap.size,0,none⟩)) (φ:=fun x=>x=w.heap.size) (ob:=.opq (itQ s 0))
  (Kept.below ((Below.refl _ _).alloc (Nat.le_refl _) _)) (fun _ h=>h.elim) (fun _ _ _ _ _ h=>h) (fun _ _ _ h=>h)
  (by
   show (itQ s 0).Q _ _ _ _
   rw [with_b,with_h,with_f]
   exact ⟨rfl,rfl,World.iter_heap w _ _⟩) trivial (fun x hx=>by
   subst hx
   exact ⟨.inl ok.bel.size,by simp [World.iter],fun k o h1 h2=>by have:=(ok.my k o _ h1 h2).2;omega,fun p u h1 h2=>by have:=cell_block (ok.fw p u h1);omega⟩)
 subst hq
 unfold Oper.wp execOp
 simp only [ho,ok.evs hx,run_range_string w T _ hT,Sem.run_bind,Sem.run_pure,Result.andThen_ok]
 show N (a.put o.dst _) _
 rw [hds]
 exact hN _ _ _ (ok'.set (d:=some d) (av:=.sl σ.nk) (with_sl rfl) (.sl _ (Nat.lt_succ_self _)) fun x hx=>by cases hx;exact of_blt hdb)
theorem WL.rgs {T:TypeId} {s:List UInt8} {x:Operand} {t:List (Nat×AV)} {M:List (Nat×AO)} {nk:Nat} (hd:dstB C.N o=some d) (ho:o.op=.range T x) (hT:P.underlying T=some .string) (hx:(⟨t,M,nk⟩:St).ev x=some (.sc (.string (_root_.Go.Proofs.YthehkchjdkdbiaaGreatDoor.bs s))))
  (k:WL P C ops rest ⟨(d,.sl nk)::t,(nk,.opq (itQ s 0))::M,nk+1⟩ Q):WL P C ops (o::rest) ⟨t,M,nk⟩ Q :=
 WL.op (dstB_of hd).1 (WO.rgs hd ho hT hx rfl) k
theorem it_at_ {s:List UInt8} {pos:Nat} (ok:Ok C σ G a w) {q:Nat} {x:Operand} (hx:σ.ev x=some (.sl q)) (hq:look q σ.M=some (.opq (itQ s pos))) :
  a.eval x=.pointer (some ⟨G.b q,0,none⟩)∧G.fp q (G.b q)∧w.heap[G.b q]?=some (.stringIter (bs s) pos):=by
 obtain ⟨h1,h2,h3⟩:(itQ s pos).Q w (G.b q) (G.h q) (G.fp q):=(ok.ob q _ hq).2.2
 exact ⟨(ok.evr hx).2.sl_of.1.trans h1,h2,h3⟩
theorem WO.nxs {s:List UInt8} {pos q:Nat} {x:Operand} (hd:dstB C.N o=some d) (ho:o.op=.next x true) (hx:σ.ev x=some (.sl q)) (hq:look q σ.M=some (.opq (itQ s pos))) (hp:pos<s.length) :
  WO P C o σ ((σ.upd q (.opq (itQ s (pos+(Utf8.decode (bs s) pos).2)))).put d (.tu [.sc (.bool true),.sc (.int .i64 (pos:Int)),.sc (.int .i32 (Utf8.decode (bs s) pos).1)])):=by
 intro G a w ok N Q' hN
 obtain ⟨_,hds,hdb⟩:=dstB_of hd
 obtain ⟨e1,e2,e3⟩:=it_at_ ok hx hq
 have ok':Ok C (σ.upd q (.opq (itQ s (pos+(Utf8.decode (bs s) pos).2)))) G a (w.iterAt (G.b q) (bs s) (pos+(Utf8.decode (bs s) pos).2)) :=
  ok.writeG hq e2 ⟨rfl,rfl,rfl,by simp [World.iterAt],fun x _ hx=>Array.getElem?_setIfInBounds_ne (fun e=>hx e.symm)⟩ ⟨(ok.ob q _ hq).2.2.1,e2,Lib.iterAt_heap w _ _ _ _ e3⟩ trivial
 unfold Oper.wp execOp
 simp only [ho,e1,Lib.run_next_any_at w _ _ _ _ e3 (by rw [bs_size];exact hp),Sem.run_bind,Sem.run_pure,Result.andThen_ok]
 show N (a.put o.dst _) _
 rw [hds]
 exact hN _ _ _ (ok'.set (d:=some d) (.pu _ _ (.tu _ _ rfl fun i av u p r=>by
  match i with
  | 0=>cases p;cases r;exact .sc _
  | 1=>cases p;cases r;exact .sc _
  | 2=>cases p;cases r;exact .sc _
  | i+3=>simp at p)) (RP.bd (F:=G.F) (v:=.tuple #[.bool true,.int .i64 pos,.int .i32 (Utf8.decode (bs s) pos).1]) (.tu _ _ rfl fun i av u p r=>by
  match i with
  | 0=>cases p;cases r;exact .sc _
  | 1=>cases p;cases r;exact .sc _
  | 2=>cases p;cases r;exact .sc _
  | i+3=>simp at p) _) fun x hx=>by cases hx;exact of_blt hdb)
theorem WL.nxs {s:List UInt8} {pos q:Nat} {x:Operand} {t:List (Nat×AV)} {M M':List (Nat×AO)} {nk:Nat} (hd:dstB C.N o=some d) (ho:o.op=.next x true) (hx:(⟨t,M,nk⟩:St).ev x=some (.sl q)) (hq:look q M=some (.opq (itQ s pos))) (hM:remS q M=some M') (hp:pos<s.length)
  (k:WL P C ops rest ⟨(d,.tu [.sc (.bool true),.sc (.int .i64 (pos:Int)),.sc (.int .i32 (Utf8.decode (_root_.Go.Proofs.YthehkchjdkdbiaaGreatDoor.bs s) pos).1)])::t,(q,.opq (itQ s (pos+(Utf8.decode (_root_.Go.Proofs.YthehkchjdkdbiaaGreatDoor.bs s) pos).2)))::M',nk⟩ Q):WL P C ops (o::rest) ⟨t,M,nk⟩ Q:=by
 rw [remS_eq hM] at k
 exact WL.op (dstB_of hd).1 (wo_rem (WO.nxs (σ:=⟨t,M,nk⟩) hd ho hx hq hp)) k
theorem WV.nxe {s:List UInt8} {pos q:Nat} {x:Operand} (ho:o.op=.next x true) (hx:σ.ev x=some (.sl q)) (hq:look q σ.M=some (.opq (itQ s pos))) (hp:s.length≤pos):WV P C o σ (.tu [.sc (.bool false)]):=by
 have hr:∀ F:View,RP F (.tu [.sc (.bool false)]) (.tuple #[.bool false]):=fun F=>.tu _ _ rfl fun i av u p r=>by
  match i with
  | 0=>cases p;cases r;exact .sc _
  | i+1=>simp at p
 refine WV.val (fun G a w ok=>(hr G.F).bd _) fun G a w ok=>⟨.tuple #[.bool false],?_,.pu _ _ (hr _)⟩
 obtain ⟨e1,e2,e3⟩:=it_at_ ok hx hq
 unfold execOp
 simp only [ho,e1,Lib.run_next_end_at w _ _ _ _ e3 (by rw [bs_size];omega),Sem.run_bind,Sem.run_pure,Result.andThen_ok]
end
end
section
open Go.RowKit
section
variable {B:World→View→Prop} {gl:Nat} {P:Program} {f:FuncId} {args:List AV} {res:AV} {M M' X:List (Nat×AO)} {nk nk':Nat}
theorem Kept.mono_ {S S':Nat→Prop} {w w':World} (h:Kept S w w')(hs:∀ x,S x→S' x):Kept S' w w':=⟨h.os,h.tape,h.output,h.size,fun i hi hn=>h.block i hi fun x=>hn (hs i x)⟩
theorem Obs.fr {G:Gh} {w:World} (hO:Obs G w (M++X) nk):Obs G w M nk∧∀ k o,look k M=some o→look k (M++X)=some o:=by
 have hM:∀ k o,look k M=some o→look k (M++X)=some o:=fun k o h=>by rw [look_app_,h];rfl
 exact ⟨⟨hO.fw,fun k o h=>hO.ob k o (hM k o h),fun k o x h=>hO.my k o x (hM k o h),fun k o k' o' x h h'=>hO.dj k o k' o' x (hM k o h) (hM k' o' h'),fun k o x p u h=>hO.dF k o x p u (hM k o h)⟩,hM⟩
theorem Cto.frame (h:Cto B gl P f args M nk res M' nk') (hX:∀ k o,look k X=some o→look k M=none∧look k M'=none):Cto B gl P f args (M++X) nk res (M'++X) nk':=by
 intro w G vs hB hlo hO hl hR
 obtain ⟨hO1,hM⟩:=hO.fr
 have hXl:∀ k o,look k X=some o→look k (M++X)=some o:=fun k o h=>by rw [look_app_,(hX k o h).1,h];rfl
 have hf:∀ x,fpM G M x→fpM G (M++X) x:=fun x ⟨k,o,h1,h2⟩=>⟨k,o,hM k o h1,h2⟩
 have hnX:∀ k o x,look k X=some o→G.fp k x→¬ fpM G M x:=fun k o x h1 h2 ⟨k',o',h3,h4⟩=>by
  have:=hO.dj k o k' o' x (hXl k o h1) (hM k' o' h3) h2 h4
  subst this
  rw [(hX k o h1).1] at h3;cases h3
 refine (h w G vs hB (fun x hx=>hlo x (hf x hx)) hO1 hl hR).mono ?_
 rintro e w1 ⟨v,G',he,q1,q2,q3,q4,q5,q6,q7,q8,q9⟩
 let G'':Gh:=⟨G'.F,G'.b,G'.n,G'.h,fun k=>match look k M' with
  | some _=>G'.fp k
  | none=>G.fp k⟩
 have hfM:∀ k o,look k M'=some o→G''.fp k=G'.fp k:=fun k o h=>by
  show (match look k M' with|some _=>G'.fp k|none=>G.fp k)=_
  rw [h]
 have hfX:∀ k,look k M'=none→G''.fp k=G.fp k:=fun k h=>by
  show (match look k M' with|some _=>G'.fp k|none=>G.fp k)=_
  rw [h]
 have hle1:G'.le G'' nk':=⟨fun _ _ h=>h,fun _ _=>rfl,fun _ _=>rfl,fun _ _=>rfl⟩
 have hle0:G.le G'' nk:=⟨q2,fun k hk=>(q6 k hk).1,fun k hk=>(q6 k hk).2.1,fun k hk=>(q6 k hk).2.2⟩
 have hlk:∀ k o,look k (M'++X)=some o→(look k M'=some o)∨(look k M'=none∧look k X=some o):=fun k o h=>by
  rw [look_app_] at h
  cases hm:look k M' with
  | some x=>rw [hm] at h;exact .inl h
  | none=>rw [hm] at h;exact .inr ⟨rfl,h⟩
 have hold:∀ k o x,look k X=some o→G.fp k x→x < w.heap.size:=fun k o x h1 h2=>hO.my k o x (hXl k o h1) h2
 have hnew:∀ k o x,look k M'=some o→G'.fp k x→w.heap.size≤x∨fpM G M x:=q5
 refine ⟨v,G'',he,q1.mono_ hf,q2,fun p u hp=>?_,⟨q4.fw,fun k o hk=>?_,fun k o x hk hx=>?_,fun k o k' o' x hk hk' hx hx'=>?_,fun k o x p u hk hx hp=>?_⟩,fun k o x hk hx=>?_,q6,q7,q8,q9.mono hle1 q8⟩
 ·rcases q3 p u hp with g|g|g
  ·exact .inl g
  ·exact .inr (.inl g)
  ·exact .inr (.inr (hf _ g))
 ·rcases hlk k o hk with g|⟨g1,g2⟩
  ·obtain ⟨a1,a2,a3⟩:=q4.ob k o g
   exact ⟨a1,a2,a3.keep hle1 a1 a2 (hfM k o g) fun _ _=>rfl⟩
  ·obtain ⟨a1,a2,a3⟩:=hO.ob k o (hXl k o g2)
   exact ⟨Nat.lt_of_lt_of_le a1 q7,AO.bd_mono q7 a2,a3.keep hle0 a1 a2 (hfX k g1) fun x hx=>q1.block x (hold k o x g2 hx) (hnX k o x g2 hx)⟩
 ·rcases hlk k o hk with g|⟨g1,g2⟩
  ·rw [hfM k o g] at hx;exact q4.my k o x g hx
  ·rw [hfX k g1] at hx;exact Nat.lt_of_lt_of_le (hold k o x g2 hx) q1.size
 ·rcases hlk k o hk with g|⟨g1,g2⟩<;>rcases hlk k' o' hk' with g'|⟨g1',g2'⟩
  ·rw [hfM k o g] at hx;rw [hfM k' o' g'] at hx';exact q4.dj k o k' o' x g g' hx hx'
  ·rw [hfM k o g] at hx;rw [hfX k' g1'] at hx'
   rcases hnew k o x g hx with z|z
   ·have:=hold k' o' x g2' hx';omega
   ·exact absurd z (hnX k' o' x g2' hx')
  ·rw [hfM k' o' g'] at hx';rw [hfX k g1] at hx
   rcases hnew k' o' x g' hx' with z|z
   ·have:=hold k o x g2 hx;omega
   ·exact absurd z (hnX k o x g2 hx)
  ·rw [hfX k g1] at hx;rw [hfX k' g1'] at hx'
   exact hO.dj k o k' o' x (hXl k o g2) (hXl k' o' g2') hx hx'
 ·rcases hlk k o hk with g|⟨g1,g2⟩
  ·rw [hfM k o g] at hx;exact q4.dF k o x p u g hx hp
  ·rw [hfX k g1] at hx
   rcases q3 p u hp with z|z|z
   ·exact hO.dF k o x p u (hXl k o g2) hx z
   ·have:=hold k o x g2 hx;omega
   ·exact fun e=>hnX k o x g2 hx (e ▸ z)
 ·rcases hlk k o hk with g|⟨g1,g2⟩
  ·rw [hfM k o g] at hx
   rcases hnew k o x g hx with z|z
   ·exact .inl z
   ·exact .inr (hf _ z)
  ·rw [hfX k g1] at hx
   exact .inr ⟨k,o,hXl k o g2,hx⟩
theorem look_two {k:Nat} {o a b:AO} (h:look k [(1,a),(2,b)]=some o):k=1∨k=2:=by
 by_cases e:k=1
 ·exact .inl e
 ·by_cases e2:k=2
  ·exact .inr e2
  ·rw [look_set_other e,look_set_other e2]at h;cases h
theorem Cto.fr2 {o o' a b:AO} (h:Cto B gl P f args [(0,o)] nk res [(0,o')] nk'):Cto B gl P f args [(0,o),(1,a),(2,b)] nk res [(0,o'),(1,a),(2,b)] nk' :=
 Cto.frame (X:=[(1,a),(2,b)]) h fun k ob hk=>by
  rcases look_two hk with rfl|rfl<;>exact⟨rfl,rfl⟩
theorem Ctp.frame {pv:Value} (h:Ctp B gl P f args M nk pv):Ctp B gl P f args (M++X) nk pv:=by
 intro w G vs hB hlo hO hl hR
 obtain⟨hO1,hM⟩:=hO.fr
 have hf:∀ x,fpM G M x→fpM G (M++X) x:=fun x⟨k,o,h1,h2⟩=>⟨k,o,hM k o h1,h2⟩
 exact (h w G vs hB (fun x hx=>hlo x (hf x hx)) hO1 hl hR).mono fun e w1⟨g1,g2,g3⟩=>⟨g1,g2.mono_ hf,g3⟩
end
end
end Go.Proofs.YthehkchjdkdbiaaGreatDoor
