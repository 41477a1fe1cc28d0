/- Reading a piece: plain words: a list turned round in place; the first place of a word. -/
import Derived.Handy
import Derived.WalkLawsBesides
import Derived.Deep.AppendLies
import Derived.Deep.MidRow
import Derived.Lib.Hide
import Derived.BigQuiet
set_option linter.unusedVariables false
set_option linter.unusedSimpArgs false
namespace Go.Proofs.YthehkchjdkdbiaaGreatDoor
theorem aH:type_of% @List.length_map:=@List.length_map
theorem aI:type_of% @List.getElem?_eq_getElem:=@List.getElem?_eq_getElem
theorem aW:type_of% @Bool.and_eq_true:=@Bool.and_eq_true
theorem bJ:type_of% @Nat.le_refl:=@Nat.le_refl
theorem bT:type_of% @List.getElem?_map:=@List.getElem?_map
theorem bU:type_of% @Nat.le_of_ble_eq_true:=@Nat.le_of_ble_eq_true
theorem cO:type_of% @List.mem_of_getElem?:=@List.mem_of_getElem?
theorem cZ:type_of% @decide_eq_false:=@decide_eq_false
theorem dG:type_of% @decide_eq_true:=@decide_eq_true
theorem dS:type_of% @List.getElem_mem:=@List.getElem_mem
theorem aY:type_of% @List.length_append:=@List.length_append
theorem dM:type_of% @Array.getD_eq_getD_getElem?:=@Array.getD_eq_getD_getElem?
theorem dW:type_of% @Nat.eq_of_beq_eq_true:=@Nat.eq_of_beq_eq_true
theorem eu:type_of% @List.getElem_of_mem:=@List.getElem_of_mem
theorem fC:type_of% @List.map_append:=@List.map_append
theorem fO:type_of% @Int.toNat_natCast:=@Int.toNat_natCast
theorem fP:type_of% @List.length_take:=@List.length_take
theorem fZ:type_of% @List.ext_getElem:=@List.ext_getElem
theorem gq:type_of% @Int.eq_ofNat_of_zero_le:=@Int.eq_ofNat_of_zero_le
theorem gu:type_of% @decide_eq_true_eq:=@decide_eq_true_eq
theorem gU:type_of% @Nat.zero_le:=@Nat.zero_le
theorem iw:type_of% @List.length_cons:=@List.length_cons
theorem iy:type_of% @Bool.not_eq_true':=@Bool.not_eq_true'
theorem iY:type_of% @of_decide_eq_true:=@of_decide_eq_true
theorem iZ:type_of% @List.getElem_map:=@List.getElem_map
theorem jg:type_of% @List.all_eq_true:=@List.all_eq_true
theorem jh:type_of% @List.getElem_mapIdx:=@List.getElem_mapIdx
theorem jA:type_of% @List.append_assoc:=@List.append_assoc
theorem jH:type_of% @List.take_length:=@List.take_length
theorem jS:type_of% @decide_eq_false_iff_not:=@decide_eq_false_iff_not
theorem jV:type_of% @Nat.le_trans:=@Nat.le_trans
theorem kQ:type_of% @Int.not_lt:=@Int.not_lt
theorem kR:type_of% @Int.not_le:=@Int.not_le
theorem kS:type_of% @Bool.not_eq_false':=@Bool.not_eq_false'
theorem lH:type_of% @Nat.lt_of_lt_of_le:=@Nat.lt_of_lt_of_le
theorem lW:type_of% @Nat.zero_add:=@Nat.zero_add
theorem mJ:type_of% @List.take_succ_eq_append_getElem:=@List.take_succ_eq_append_getElem
theorem nI:type_of% @List.append_nil:=@List.append_nil
theorem oM:type_of% @Option.map_some:=@Option.map_some
theorem oN:type_of% @List.eq_nil_of_length_eq_zero:=@List.eq_nil_of_length_eq_zero
theorem oO:type_of% @List.map_map:=@List.map_map
theorem oP:type_of% @List.getD_eq_getElem?_getD:=@List.getD_eq_getElem?_getD
theorem o8:type_of% @List.getElem?_append_right:=@List.getElem?_append_right
theorem o9:type_of% @List.length_nil:=@List.length_nil
theorem qH:type_of% @beq_iff_eq:=@beq_iff_eq
theorem qI:type_of% @Bool.or_eq_true:=@Bool.or_eq_true
theorem qJ:type_of% @List.getElem?_append_left:=@List.getElem?_append_left
theorem qK:type_of% @List.map_congr_left:=@List.map_congr_left
theorem rM:type_of% @List.getElem?_set_self:=@List.getElem?_set_self
theorem uf:type_of% @List.getElem?_set_ne:=@List.getElem?_set_ne
theorem ug:type_of% @List.nil_append:=@List.nil_append
theorem uh:type_of% @Array.getElem?_eq_getElem:=@Array.getElem?_eq_getElem
theorem uj:type_of% @Nat.ble_eq_true_of_le:=@Nat.ble_eq_true_of_le
theorem uT:type_of% @Array.getElem?_setIfInBounds_ne:=@Array.getElem?_setIfInBounds_ne
theorem wQ:type_of% @Nat.lt_succ_self:=@Nat.lt_succ_self
theorem wR:type_of% @List.map_cons:=@List.map_cons
theorem wS:type_of% @List.take_of_length_le:=@List.take_of_length_le
theorem wU:type_of% @List.drop_eq_nil_of_le:=@List.drop_eq_nil_of_le
theorem wV:type_of% @List.length_set:=@List.length_set
theorem wW:type_of% @Nat.lt_or_ge:=@Nat.lt_or_ge
theorem wX:type_of% @List.map_set:=@List.map_set
theorem yx:type_of% @List.find?_eq_none:=@List.find?_eq_none
theorem yA:type_of% @List.getElem?_drop:=@List.getElem?_drop
theorem yB:type_of% @List.length_drop:=@List.length_drop
theorem yC:type_of% @List.length_mapIdx:=@List.length_mapIdx
theorem yD:type_of% @Int.le_refl:=@Int.le_refl
theorem zI:type_of% @Nat.zero_mul:=@Nat.zero_mul
theorem zJ:type_of% @Nat.add_zero:=@Nat.add_zero
theorem zK:type_of% @List.cons_append:=@List.cons_append
theorem zL:type_of% @List.drop_eq_getElem_cons:=@List.drop_eq_getElem_cons
theorem zM:type_of% @List.getElem_cons_zero:=@List.getElem_cons_zero
theorem Bv:type_of% @Nat.succ_mul:=@Nat.succ_mul
theorem Bz:type_of% @Array.ext':=@Array.ext'
theorem BA:type_of% @if_false:=@if_false
theorem BD:type_of% @List.flatten_cons:=@List.flatten_cons
theorem BF:type_of% @List.not_mem_nil:=@List.not_mem_nil
theorem BG:type_of% @Nat.le_succ:=@Nat.le_succ
theorem Eo:type_of% @Bool.false_eq_true:=@Bool.false_eq_true
theorem Ep:type_of% @List.any_eq_false:=@List.any_eq_false
theorem Es:type_of% @Array.getElem?_append_left:=@Array.getElem?_append_left
theorem Et:type_of% @List.mem_cons:=@List.mem_cons
theorem Eu:type_of% @List.getElem_set:=@List.getElem_set
theorem Ew:type_of% @of_decide_eq_false:=@of_decide_eq_false
theorem H8:type_of% @Nat.add_assoc:=@Nat.add_assoc
theorem H9:type_of% @Nat.sub_self:=@Nat.sub_self
theorem Ia:type_of% @List.find?_some:=@List.find?_some
theorem Ib:type_of% @Option.bind_some:=@Option.bind_some
theorem Ic:type_of% @Nat.not_lt_zero:=@Nat.not_lt_zero
theorem Ie:type_of% @List.getElem_cons_succ:=@List.getElem_cons_succ
theorem Ig:type_of% @List.mem_append:=@List.mem_append
theorem MJ:type_of% @List.foldl_cons:=@List.foldl_cons
theorem MK:type_of% @List.range'_succ:=@List.range'_succ
theorem MN:type_of% @List.mem_of_find?_eq_some:=@List.mem_of_find?_eq_some
theorem MO:type_of% @List.getElem?_take_of_lt:=@List.getElem?_take_of_lt
theorem MP:type_of% @List.take_append_drop:=@List.take_append_drop
theorem MQ:type_of% @List.map_id:=@List.map_id
theorem Qj:type_of% @List.size_toArray:=@List.size_toArray
theorem Qk:type_of% @List.eq_of_mem_replicate:=@List.eq_of_mem_replicate
theorem Ql:type_of% @List.mem_or_eq_of_mem_set:=@List.mem_or_eq_of_mem_set
theorem Qm:type_of% @Nat.beq_refl:=@Nat.beq_refl
theorem F6:type_of% @List.append_eq_nil_iff:=@List.append_eq_nil_iff
theorem F7:type_of% @Nat.sub_zero:=@Nat.sub_zero
theorem F8:type_of% @Nat.le_add_right:=@Nat.le_add_right
theorem F9:type_of% @Array.getElem?_eq_none:=@Array.getElem?_eq_none
theorem Gf:type_of% @Int.natCast_nonneg:=@Int.natCast_nonneg
theorem Gg:type_of% @Bool.eq_iff_iff:=@Bool.eq_iff_iff
theorem Gi:type_of% @Int.natCast_add:=@Int.natCast_add
theorem Gj:type_of% @List.filter_cons_of_pos:=@List.filter_cons_of_pos
theorem Gl:type_of% @bne_iff_ne:=@bne_iff_ne
theorem L8:type_of% @Bool.true_and:=@Bool.true_and
theorem L9:type_of% @Option.map_none:=@Option.map_none
theorem Md:type_of% @List.flatMap_cons:=@List.flatMap_cons
theorem Me:type_of% @List.range_eq_range':=@List.range_eq_range'
theorem MB:type_of% @List.set_cons_zero:=@List.set_cons_zero
theorem MC:type_of% @List.drop_left:=@List.drop_left
theorem MF:type_of% @List.mem_singleton:=@List.mem_singleton
theorem MG:type_of% @List.flatMap_eq_nil_iff:=@List.flatMap_eq_nil_iff
theorem MH:type_of% @List.filter_cons_of_neg:=@List.filter_cons_of_neg
theorem MI:type_of% @List.filter_eq_nil_iff:=@List.filter_eq_nil_iff
theorem S9:type_of% @List.take_left:=@List.take_left
theorem Tc:type_of% @List.findSome?_cons:=@List.findSome?_cons
theorem Td:type_of% @List.find?_append:=@List.find?_append
theorem Tf:type_of% @List.getElem_append_left:=@List.getElem_append_left
theorem Ti:type_of% @Option.getD_some:=@Option.getD_some
theorem Tj:type_of% @Nat.lt_trichotomy:=@Nat.lt_trichotomy
theorem Tm:type_of% @Bool.false_or:=@Bool.false_or
theorem Tn:type_of% @List.any_append:=@List.any_append
theorem Tq:type_of% @Nat.eq_zero_or_pos:=@Nat.eq_zero_or_pos
theorem Tt:type_of% @List.flatMap_append:=@List.flatMap_append
theorem Tv:type_of% @List.length_reverse:=@List.length_reverse
theorem Tz:type_of% @List.map_drop:=@List.map_drop
theorem TA:type_of% @Int.natCast_one:=@Int.natCast_one
theorem TB:type_of% @List.getElem_range:=@List.getElem_range
theorem TD:type_of% @List.getElem_of_eq:=@List.getElem_of_eq
theorem aan:type_of% @Array.toArray_toList:=@Array.toArray_toList
theorem aao:type_of% @Array.length_toList:=@Array.length_toList
theorem aap:type_of% @List.mem_cons_of_mem:=@List.mem_cons_of_mem
theorem aaq:type_of% @List.mem_append_left:=@List.mem_append_left
theorem aar:type_of% @Nat.mul_le_mul_right:=@Nat.mul_le_mul_right
theorem aas:type_of% @List.set_cons_succ:=@List.set_cons_succ
theorem aat:type_of% @List.getElem?_eq_none:=@List.getElem?_eq_none
theorem aau:type_of% @Array.getElem?_modify:=@Array.getElem?_modify
theorem aav:type_of% @List.getElem_reverse:=@List.getElem_reverse
theorem aaw:type_of% @Nat.mul_le_mul_left:=@Nat.mul_le_mul_left
theorem aax:type_of% @List.filter_append:=@List.filter_append
section
variable {p:Prop}
theorem NG(h:p:=by
 exact .inl ⟨rfl,rfl⟩):p:=h
theorem akQ(h:p:=by
 refine⟨u,?_,.pu _ _ hp,hp.bd _⟩
 rw [vT,hn,H8];exact hu):p:=h
theorem aaJ(h:p:=by
 obtain⟨G',y⟩:=h G a w x
 exact k G' a w y):p:=h
theorem ng(h:p:=by
 simpa using this):p:=h
theorem akt(h:p:=by
 subst hm
 unfold execOp
 simp [ho,resolve,invoke,builtin,e,Builtin.len_,run_underlying hT,goInt]):p:=h
theorem Nq(h:p:=by
 rw [zL h];rfl):p:=h
theorem aki(h:p:=by
 rw [aI (by rw [lu];omega)]
 simp only [kK,jh]
 rw [if_neg (by omega)]):p:=h
theorem aj9(h:p:=by
 have hlt:m<n:=by rw [← hlen];exact (List.getElem?_eq_some_iff.1 h).1
 rw [← hl,MO hlt] at h;exact h):p:=h
theorem arB(h:p:=by
 exact hN G' _ _ (ok'.set (d:=some d) (.pt σ.nk 0 0 _ hbb.symm (by simp) rfl) (.pt _ _ _ (wQ _)) fun x hx=>by cases hx;exact dP hd)):p:=h
theorem adb(h:p:=by
 rw [World.cell?_alloc_lt _ _ _ (by rw [bW];omega),hc]):p:=h
theorem al8(h:p:=by
 have hlt:i<cs.size:=by rw [h1];exact (List.getElem?_eq_some_iff.1 hx).1
 exact ih i x cs[i] hx (uh hlt)):p:=h
theorem al6(h:p:=by
 obtain ⟨q,hq,rfl⟩:=eu hr'
 have:=h8 q rows[q] vs[q] (aI (by omega)) (aI hq)
 rw [this];exact hrl _ (dS _)):p:=h
theorem BM(h:p:=by
 go_wp2
 go_ret
 exact eG.mk' (by rw [HE.out];rfl) jT):p:=h
theorem ac6(h:p:=by
 exact ⟨ok.df.1,v,hr,v,F',rfl,ok.bel.Xl (fun _ h=>h),fun p u x=>hle p u (ok.f0 p u x),hfw,fun p u x=>(hnew p u x).elim (fun y=>(ok.f1 p u y).elim .inl fun z=>.inr (z.elim id fun h=>h.elim)) fun z=>.inr (z.elim id fun h=>h.elim),hres⟩):p:=h
end
section
open Go.RowKit
theorem au {p:Prop} (h:p:=by omega):p:=h
theorem bD {α:Sort _} {a b:α} (h:a = b:=by kernel_rfl):a = b:=h
theorem zU {p:Prop} (h:p:=by first|omega|(simp;done)|(simp;omega)):p:=h
structure aP(q:Prop):Type where
 k:q
theorem XM {p:Prop}(h:p:=by simp [tZ]):p:=h
theorem EC {p:Prop}(h:p:=by simp [h]):p:=h
theorem Qy {p:Prop}(h:p:=by simpa using p):p:=h
theorem Qv {p:Prop}(h:p:=by simp [qg]):p:=h
theorem Nh {p:Prop}(h:p:=by simpa using hu):p:=h
theorem zX {p:Prop}(h:p:=by simpa using hk):p:=h
theorem rQ {p:Prop}(h:p:=by simpa using q):p:=h
theorem rP {p:Prop}(h:p:=by simpa using h):p:=h
theorem rO {p:Prop}(h:p:=by simpa using h1):p:=h
theorem IG {p:Prop}(h:p:=by first|(simp;done)|fail):p:=h
theorem ajH {p:Prop}(h:p:=by first|exact y7 (by omega)|exact Rz (by omega) (by omega)):p:=h
theorem AU {p:Prop}(h:p:=by (unfold I64);omega):p:=h
theorem Nc {p:Prop}(h:p:=by first|exact aH _|exact List.length_replicate|rfl):p:=h
theorem AB {p q:Prop}(k:q)(h:aP q→p:=by (intro hq;(first|refine WL.len rfl rfl Nc ?_|refine WL.idx rfl rfl (by omega) ajH ?_);exact hq.k)):p:=h ⟨k⟩
theorem Gn {p q:Prop}(k:q)(h:aP q→p:=by (intro hq;(first|refine W.gob rfl ?_|refine WL.nil ?_|refine WL.bt rfl rfl rfl (by omega) ?_|refine WL.bf rfl rfl rfl (by omega) ?_);exact hq.k)):p:=h ⟨k⟩
theorem kM {p q:Prop}(k:q)(h:aP q→p:=by (intro hq;(first|refine W.Du rfl ?_|refine W.qY rfl ?_);exact hq.k)):p:=h ⟨k⟩
theorem Gp {p q:Prop}(k:q)(h:aP q→p:=by (intro hq;(first|refine WL.EY rfl rfl rfl rfl ?_|refine WL.ah5 rfl rfl rfl rfl rfl rfl rfl ?_|refine WL.ar rfl rfl AU ?_);exact hq.k)):p:=h ⟨k⟩
theorem afH {p q:Prop}(k:q)(h:aP q→p:=by (intro hq;(first|refine WL.nt rfl rfl rfl (by omega) ?_|refine WL.nf rfl rfl rfl (by omega) ?_|refine WL.e1 rfl ?_);exact hq.k)):p:=h ⟨k⟩
theorem Na {p q:Prop}(k:q)(h:aP q→p:=by (intro hq;(first|refine WL.len rfl rfl Nc ?_|refine kM ?_);exact hq.k)):p:=h ⟨k⟩
theorem AP {p q:Prop}(k:q)(h:aP q→p:=by (intro hq;(first|refine WL.e1 rfl ?_|refine WL.ar rfl rfl AU ?_);exact hq.k)):p:=h ⟨k⟩
theorem Nb {p q:Prop}(k:q)(h:aP q→p:=by (intro hq;(first|refine WL.EY rfl rfl rfl rfl ?_|refine WL.ah5 rfl rfl rfl rfl rfl rfl rfl ?_);exact hq.k)):p:=h ⟨k⟩
theorem AQ {p q:Prop}(k:q)(h:aP q→p:=by (intro hq;(first|refine W.go rfl ?_|refine WL.nil ?_|refine WL.ev rfl ?_);exact hq.k)):p:=h ⟨k⟩
theorem Gq {p q:Prop}(k:q)(h:aP q→p:=by (intro hq;(first|refine WL.app rfl rfl rfl zU ?_|refine kM ?_);exact hq.k)):p:=h ⟨k⟩
theorem yG {p q:Prop}(k:q)(h:aP q→p:=by (intro hq;(first|refine W.gob rfl ?_|refine WL.nil ?_);exact hq.k)):p:=h ⟨k⟩
theorem acX {p q:Prop}(k:q)(h:aP q→p:=by (intro hq;(first|refine WL.ar rfl rfl AU ?_|refine WL.len rfl rfl Nc ?_);exact hq.k)):p:=h ⟨k⟩
theorem Ij {p q:Prop}(k:q)(h:aP q→p:=by (intro hq;(first|refine WL.ar rfl rfl AU ?_|refine AB ?_);exact hq.k)):p:=h ⟨k⟩
theorem BJ {p q:Prop}(k:q)(h:aP q→p:=by (intro hq;(first|refine WL.vl rfl (WV.X4 rfl rfl) ?_|refine Gn ?_);exact hq.k)):p:=h ⟨k⟩
theorem Ik {p q:Prop}(k:q)(h:aP q→p:=by (intro hq;(first|refine WL.vl rfl (WV.X4 rfl rfl) ?_|refine yG ?_);exact hq.k)):p:=h ⟨k⟩
theorem aqf {p q:Prop}(k:q)(h:aP q→p:=by (intro hq;(first|refine Gp ?_|refine WL.div rfl rfl (by omega) ?_|refine WL.neg rfl rfl AU ?_|refine AB ?_|refine WL.ixs rfl rfl zU ?_|refine WL.app rfl rfl rfl zU ?_|refine WL.cat rfl rfl zU ?_|refine kM ?_);exact hq.k)):p:=h ⟨k⟩
theorem ajA {p q:Prop}(k:q)(h:aP q→p:=by (intro hq;(first|refine WL.len rfl rfl Nc ?_|refine W.qY rfl ?_);exact hq.k)):p:=h ⟨k⟩
theorem Qq {p q:Prop}(k:q)(h:aP q→p:=by (intro hq;(first|refine yG ?_|refine WL.bt rfl rfl rfl (by omega) ?_);exact hq.k)):p:=h ⟨k⟩
theorem XD {p q:Prop}(k:q)(h:aP q→p:=by (intro hq;(first|refine AB ?_|refine WL.ixs rfl rfl zU ?_|refine Gq ?_);exact hq.k)):p:=h ⟨k⟩
theorem zV {p q:Prop}(k:q)(h:aP q→p:=by (intro hq;(first|refine Gn ?_|refine afH ?_);exact hq.k)):p:=h ⟨k⟩
theorem Qr {p q:Prop}(k:q)(h:aP q→p:=by (intro hq;(first|refine WL.cat rfl rfl zU ?_|refine kM ?_);exact hq.k)):p:=h ⟨k⟩
theorem MZ {p q:Prop}(k:q)(h:aP q→p:=by (intro hq;(first|refine W.go rfl ?_|refine WL.ev rfl ?_);exact hq.k)):p:=h ⟨k⟩
theorem XE {p q:Prop}(k:q)(h:aP q→p:=by (intro hq;(first|refine Gn ?_|refine WL.e1 rfl ?_|refine Gp ?_);exact hq.k)):p:=h ⟨k⟩
theorem lJ {p q:Prop}(k:q)(h:aP q→p:=by
 intro hq
 unfold Oper.wp execOp
 exact hq.k):p:=h ⟨k⟩
theorem MR {p q:Prop} (k:q) (h:aP q→p:=by (intro hq;(repeat (first|refine zV ?_|refine WL.ar rfl rfl AU ?_|refine Na ?_);(first|refine (?_:W _ _ _ _ _)|refine (?_:WL _ _ _ _ _ _)|skip);try dsimp only [St.put,Nat.reduceAdd]);exact hq.k)):p:=h ⟨k⟩
theorem azs {p q:Prop} (k:q) (h:aP q→p:=by (intro hq;(repeat (first|refine Qq ?_|refine WL.e1 rfl ?_|refine WL.EY rfl rfl rfl rfl ?_);(first|refine (?_:W _ _ _ _ _)|refine (?_:WL _ _ _ _ _ _)|skip);try dsimp only [St.put,Nat.reduceAdd]);exact hq.k)):p:=h ⟨k⟩
theorem ajs {p q:Prop} (k:q) (h:aP q→p:=by (intro hq;(repeat (first|refine Gn ?_|refine WL.nf rfl rfl rfl (by omega) ?_|refine AP ?_|refine AB ?_|refine kM ?_);(first|refine (?_:W _ _ _ _ _)|refine (?_:WL _ _ _ _ _ _)|skip);try dsimp only [St.put,Nat.reduceAdd]);exact hq.k)):p:=h ⟨k⟩
theorem aju {p q:Prop} (k:q) (h:aP q→p:=by (intro hq;(repeat (first|refine AQ ?_|refine Ij ?_|refine kM ?_);(first|refine (?_:W _ _ _ _ _)|refine (?_:WL _ _ _ _ _ _)|skip);try dsimp only [St.put,Nat.reduceAdd]);exact hq.k)):p:=h ⟨k⟩
theorem Xu {p q:Prop} (k:q) (h:aP q→p:=by(intro hq;(repeat(first|refine W.go rfl ?_|refine WL.ev rfl ?_|refine WL.EY rfl rfl rfl rfl ?_);(first|refine(?_:W _ _ _ _ _)|refine(?_:WL _ _ _ _ _ _)|skip);try dsimp only [St.put,Nat.reduceAdd]);exact hq.k)):p:=h ⟨k⟩
theorem afG {p q:Prop} (k:q) (h:aP q→p:=by(intro hq;(repeat(first|refine W.go rfl ?_|refine WL.ev rfl ?_|refine WL.EY rfl rfl rfl rfl ?_|refine W.qY rfl ?_);(first|refine(?_:W _ _ _ _ _)|refine(?_:WL _ _ _ _ _ _)|skip);try dsimp only [St.put,Nat.reduceAdd]);exact hq.k)):p:=h ⟨k⟩
theorem vO {p q:Prop} (k:q) (h:aP q→p:=by (intro hq;(repeat (first|refine MZ ?_|refine acX ?_|refine WL.app rfl rfl rfl zU ?_);(first|refine (?_:W _ _ _ _ _)|refine (?_:WL _ _ _ _ _ _)|skip);try dsimp only [St.put,Nat.reduceAdd]);exact hq.k)):p:=h ⟨k⟩
theorem ao8 {p q:Prop} (k:q) (h:aP q→p:=by (intro hq;(repeat (first|refine MZ ?_|refine Nb ?_|refine WL.len rfl rfl Nc ?_);(first|refine (?_:W _ _ _ _ _)|refine (?_:WL _ _ _ _ _ _)|skip);try dsimp only [St.put,Nat.reduceAdd]);exact hq.k)):p:=h ⟨k⟩
theorem aay {p q:Prop} (k:q) (h:aP q→p:=by (intro hq;(repeat (first|refine AQ ?_|refine Nb ?_|refine Na ?_);(first|refine (?_:W _ _ _ _ _)|refine (?_:WL _ _ _ _ _ _)|skip);try dsimp only [St.put,Nat.reduceAdd]);exact hq.k)):p:=h ⟨k⟩
theorem uy {p q:Prop} (k:q) (h:aP q→p:=by (intro hq;(repeat (first|refine Qq ?_|refine afH ?_|refine Nb ?_|refine Na ?_);(first|refine (?_:W _ _ _ _ _)|refine (?_:WL _ _ _ _ _ _)|skip);try dsimp only [St.put,Nat.reduceAdd]);exact hq.k)):p:=h ⟨k⟩
theorem Ey {p q:Prop} (k:q) (h:aP q→p:=by(intro hq;(repeat(first|refine W.go rfl ?_|refine WL.nil ?_|refine W.Du rfl ?_|refine W.qY rfl ?_);(first|refine(?_:W _ _ _ _ _)|refine(?_:WL _ _ _ _ _ _)|skip);try dsimp only [St.put,Nat.reduceAdd]);exact hq.k)):p:=h ⟨k⟩
theorem um {p q:Prop} (k:q) (h:aP q→p:=by (intro hq;(repeat (first|refine yG ?_|refine afH ?_|refine kM ?_);(first|refine (?_:W _ _ _ _ _)|refine (?_:WL _ _ _ _ _ _)|skip);try dsimp only [St.put,Nat.reduceAdd]);exact hq.k)):p:=h ⟨k⟩
theorem ap0 {p q:Prop} (k:q) (h:aP q→p:=by (intro hq;(repeat (first|refine yG ?_|refine WL.e1 rfl ?_|refine Gq ?_);(first|refine (?_:W _ _ _ _ _)|refine (?_:WL _ _ _ _ _ _)|skip);try dsimp only [St.put,Nat.reduceAdd]);exact hq.k)):p:=h ⟨k⟩
theorem fQ {p q:Prop} (k:q) (h:aP q→p:=by (intro hq;(repeat (first|refine Gn ?_|refine AP ?_|refine AB ?_|refine kM ?_);(first|refine (?_:W _ _ _ _ _)|refine (?_:WL _ _ _ _ _ _)|skip);try dsimp only [St.put,Nat.reduceAdd]);exact hq.k)):p:=h ⟨k⟩
theorem ap1 {p q:Prop} (k:q) (h:aP q→p:=by (intro hq;(repeat (first|refine MZ ?_|refine WL.len rfl rfl Nc ?_);(first|refine (?_:W _ _ _ _ _)|refine (?_:WL _ _ _ _ _ _)|skip);try dsimp only [St.put,Nat.reduceAdd]);exact hq.k)):p:=h ⟨k⟩
theorem awP {p q:Prop} (k:q) (h:aP q→p:=by (intro hq;(repeat (first|refine MZ ?_|refine WL.ar rfl rfl AU ?_);(first|refine (?_:W _ _ _ _ _)|refine (?_:WL _ _ _ _ _ _)|skip);try dsimp only [St.put,Nat.reduceAdd]);exact hq.k)):p:=h ⟨k⟩
theorem zN {p q:Prop} (k:q) (h:aP q→p:=by(intro hq;(repeat(first|refine W.go rfl ?_);(first|refine(?_:W _ _ _ _ _)|refine(?_:WL _ _ _ _ _ _)|skip);try dsimp only [St.put,Nat.reduceAdd]);exact hq.k)):p:=h ⟨k⟩
theorem ap2 {p q:Prop} (k:q) (h:aP q→p:=by (intro hq;(repeat (first|refine WL.vl rfl (WV.X4 rfl rfl) ?_|refine W.gob rfl ?_|refine WL.e1 rfl ?_);(first|refine (?_:W _ _ _ _ _)|refine (?_:WL _ _ _ _ _ _)|skip);try dsimp only [St.put,Nat.reduceAdd]);exact hq.k)):p:=h ⟨k⟩
theorem Xr {p q:Prop} (k:q) (h:aP q→p:=by (intro hq;(repeat (first|refine Ik ?_|refine AP ?_|refine kM ?_);(first|refine (?_:W _ _ _ _ _)|refine (?_:WL _ _ _ _ _ _)|skip);try dsimp only [St.put,Nat.reduceAdd]);exact hq.k)):p:=h ⟨k⟩
theorem ajr {p q:Prop} (k:q) (h:aP q→p:=by (intro hq;(repeat (first|refine BJ ?_|refine WL.e1 rfl ?_|refine Na ?_);(first|refine (?_:W _ _ _ _ _)|refine (?_:WL _ _ _ _ _ _)|skip);try dsimp only [St.put,Nat.reduceAdd]);exact hq.k)):p:=h ⟨k⟩
theorem ap3 {p q:Prop} (k:q) (h:aP q→p:=by (intro hq;(repeat (first|refine DK.vl rfl (WV.X4 rfl rfl) ?_|refine DK.bt rfl rfl (by omega) ?_|refine DK.bf rfl rfl (by omega) ?_|refine DK.tt rfl IG ?_|refine DK.ff rfl IG ?_|refine DK.st rfl ?_|refine DK.ar rfl rfl AU ?_|refine DK.len rfl rfl Nc ?_|refine DK.idx rfl rfl (by omega) ajH ?_|refine DK.nil ?_));exact hq.k)):p:=h ⟨k⟩
theorem ap4 {p q:Prop} (k:q) (h:aP q→p:=by (intro hq;(repeat (first|refine DK.vl rfl (WV.X4 rfl rfl) ?_|refine DK.bt rfl rfl (by omega) ?_|refine DK.bf rfl rfl (by omega) ?_|refine DK.tt rfl IG ?_|refine DK.ff rfl IG ?_|refine DK.st rfl ?_|refine DK.ar rfl rfl AU ?_|refine DK.len rfl rfl rfl ?_|refine DK.nil ?_));exact hq.k)):p:=h ⟨k⟩
theorem gX {p q:Prop} (k:q) (h:aP q→p:=by (intro hq;(repeat (first|refine WL.vl rfl (WV.X4 rfl rfl) ?_|refine WL.vl rfl (WV.awd rfl rfl) ?_|refine XE ?_|refine Qr ?_);(first|refine (?_:W _ _ _ _ _)|refine (?_:WL _ _ _ _ _ _)|skip);try dsimp only [St.put,Nat.reduceAdd]);exact hq.k)):p:=h ⟨k⟩
theorem Xt {p q:Prop} (k:q) (h:aP q→p:=by (intro hq;(repeat (first|refine Gn ?_|refine WL.e1 rfl ?_|refine Nb ?_|refine kM ?_);(first|refine (?_:W _ _ _ _ _)|refine (?_:WL _ _ _ _ _ _)|skip);try dsimp only [St.put,Nat.reduceAdd]);exact hq.k)):p:=h ⟨k⟩
theorem BH {p q:Prop} (k:q) (h:aP q→p:=by (intro hq;(repeat (first|refine XE ?_|refine Na ?_);(first|refine (?_:W _ _ _ _ _)|refine (?_:WL _ _ _ _ _ _)|skip);try dsimp only [St.put,Nat.reduceAdd]);exact hq.k)):p:=h ⟨k⟩
theorem mM {p q:Prop} (k:q) (h:aP q→p:=by (intro hq;(repeat (first|refine zV ?_|refine Nb ?_|refine Na ?_);(first|refine (?_:W _ _ _ _ _)|refine (?_:WL _ _ _ _ _ _)|skip);try dsimp only [St.put,Nat.reduceAdd]);exact hq.k)):p:=h ⟨k⟩
theorem oQ {p q:Prop} (k:q) (h:aP q→p:=by (intro hq;(repeat (first|refine zV ?_|refine kM ?_);(first|refine (?_:W _ _ _ _ _)|refine (?_:WL _ _ _ _ _ _)|skip);try dsimp only [St.put,Nat.reduceAdd]);exact hq.k)):p:=h ⟨k⟩
theorem pq {p q:Prop} (k:q) (h:aP q→p:=by (intro hq;(repeat (first|refine zV ?_|refine Ij ?_|refine Gq ?_);(first|refine (?_:W _ _ _ _ _)|refine (?_:WL _ _ _ _ _ _)|skip);try dsimp only [St.put,Nat.reduceAdd]);exact hq.k)):p:=h ⟨k⟩
theorem lI {p q:Prop} (k:q) (h:aP q→p:=by (intro hq;(repeat (first|refine WL.vl rfl (WV.X4 rfl rfl) ?_|refine WL.vl rfl (WV.awd rfl rfl) ?_|refine yG ?_|refine afH ?_|refine Nb ?_|refine kM ?_);(first|refine (?_:W _ _ _ _ _)|refine (?_:WL _ _ _ _ _ _)|skip);try dsimp only [St.put,Nat.reduceAdd]);exact hq.k)):p:=h ⟨k⟩
theorem ajt {p q:Prop} (k:q) (h:aP q→p:=by (intro hq;(repeat (first|refine BJ ?_|refine WL.e1 rfl ?_|refine Gp ?_|refine AB ?_|refine WL.ixs rfl rfl zU ?_|refine kM ?_);(first|refine (?_:W _ _ _ _ _)|refine (?_:WL _ _ _ _ _ _)|skip);try dsimp only [St.put,Nat.reduceAdd]);exact hq.k)):p:=h ⟨k⟩
theorem MV {p q:Prop} (k:q) (h:aP q→p:=by (intro hq;(repeat (first|refine BJ ?_|refine WL.e1 rfl ?_|refine Gp ?_|refine WL.len rfl rfl rfl ?_|refine WL.ixs rfl rfl zU ?_|refine kM ?_);(first|refine (?_:W _ _ _ _ _)|refine (?_:WL _ _ _ _ _ _)|skip);try dsimp only [St.put,Nat.reduceAdd]);exact hq.k)):p:=h ⟨k⟩
theorem ap5 {p q:Prop} (k:q) (h:aP q→p:=by (intro hq;(repeat (first|refine Ik ?_|refine WL.e1 rfl ?_|refine W.Du rfl ?_);(first|refine (?_:W _ _ _ _ _)|refine (?_:WL _ _ _ _ _ _)|skip);try dsimp only [St.put,Nat.reduceAdd]);exact hq.k)):p:=h ⟨k⟩
theorem acQ {p q:Prop} (k:q) (h:aP q→p:=by (intro hq;(repeat (first|refine Ik ?_|refine WL.e1 rfl ?_|refine kM ?_);(first|refine (?_:W _ _ _ _ _)|refine (?_:WL _ _ _ _ _ _)|skip);try dsimp only [St.put,Nat.reduceAdd]);exact hq.k)):p:=h ⟨k⟩
theorem pz {p q:Prop} (k:q) (h:aP q→p:=by (intro hq;(repeat (first|refine Ik ?_|refine WL.bf rfl rfl rfl (by omega) ?_|refine AP ?_|refine WL.len rfl rfl rfl ?_|refine kM ?_);(first|refine (?_:W _ _ _ _ _)|refine (?_:WL _ _ _ _ _ _)|skip);try dsimp only [St.put,Nat.reduceAdd]);exact hq.k)):p:=h ⟨k⟩
theorem MW {p q:Prop} (k:q) (h:aP q→p:=by (intro hq;(repeat (first|refine BJ ?_|refine WL.nf rfl rfl rfl (by omega) ?_|refine WL.e1 rfl ?_|refine Qr ?_);(first|refine (?_:W _ _ _ _ _)|refine (?_:WL _ _ _ _ _ _)|skip);try dsimp only [St.put,Nat.reduceAdd]);exact hq.k)):p:=h ⟨k⟩
theorem zO {p q:Prop} (k:q) (h:aP q→p:=by (intro hq;(repeat (first|refine BJ ?_|refine AP ?_|refine AB ?_|refine Gq ?_);(first|refine (?_:W _ _ _ _ _)|refine (?_:WL _ _ _ _ _ _)|skip);try dsimp only [St.put,Nat.reduceAdd]);exact hq.k)):p:=h ⟨k⟩
theorem wY {p q:Prop} (k:q) (h:aP q→p:=by (intro hq;(repeat (first|refine BJ ?_|refine AP ?_|refine WL.len rfl rfl rfl ?_|refine Gq ?_);(first|refine (?_:W _ _ _ _ _)|refine (?_:WL _ _ _ _ _ _)|skip);try dsimp only [St.put,Nat.reduceAdd]);exact hq.k)):p:=h ⟨k⟩
theorem iP {p q:Prop} (k:q) (h:aP q→p:=by (intro hq;(repeat (first|refine BJ ?_|refine afH ?_|refine Gp ?_|refine WL.len rfl rfl rfl ?_|refine Gq ?_);(first|refine (?_:W _ _ _ _ _)|refine (?_:WL _ _ _ _ _ _)|skip);try dsimp only [St.put,Nat.reduceAdd]);exact hq.k)):p:=h ⟨k⟩
theorem awQ {p q:Prop} (k:q) (h:aP q→p:=by (intro hq;(repeat (first|refine W.go rfl ?_|refine WL.nil ?_|refine Ij ?_|refine Qr ?_);(first|refine (?_:W _ _ _ _ _)|refine (?_:WL _ _ _ _ _ _)|skip);try dsimp only [St.put,Nat.reduceAdd]);exact hq.k)):p:=h ⟨k⟩
theorem nJ {p q:Prop} (k:q) (h:aP q→p:=by (intro hq;(repeat (first|refine zV ?_|refine Ij ?_|refine Qr ?_);(first|refine (?_:W _ _ _ _ _)|refine (?_:WL _ _ _ _ _ _)|skip);try dsimp only [St.put,Nat.reduceAdd]);exact hq.k)):p:=h ⟨k⟩
theorem jc {p q:Prop} (k:q) (h:aP q→p:=by (intro hq;(repeat (first|refine AQ ?_|refine Ij ?_|refine WL.ixs rfl rfl zU ?_|refine WL.app rfl rfl rfl zU ?_);(first|refine (?_:W _ _ _ _ _)|refine (?_:WL _ _ _ _ _ _)|skip);try dsimp only [St.put,Nat.reduceAdd]);exact hq.k)):p:=h ⟨k⟩
theorem awR {p q:Prop} (k:q) (h:aP q→p:=by (intro hq;(repeat (first|refine W.go rfl ?_|refine WL.nil ?_|refine acX ?_|refine Qr ?_);(first|refine (?_:W _ _ _ _ _)|refine (?_:WL _ _ _ _ _ _)|skip);try dsimp only [St.put,Nat.reduceAdd]);exact hq.k)):p:=h ⟨k⟩
theorem yE {p q:Prop} (k:q) (h:aP q→p:=by (intro hq;(repeat (first|refine zV ?_|refine acX ?_|refine Qr ?_);(first|refine (?_:W _ _ _ _ _)|refine (?_:WL _ _ _ _ _ _)|skip);try dsimp only [St.put,Nat.reduceAdd]);exact hq.k)):p:=h ⟨k⟩
theorem Xv {p q:Prop} (k:q) (h:aP q→p:=by (intro hq;(repeat (first|refine Gn ?_|refine AP ?_|refine WL.len rfl rfl Nc ?_|refine WL.ixs rfl rfl zU ?_|refine kM ?_);(first|refine (?_:W _ _ _ _ _)|refine (?_:WL _ _ _ _ _ _)|skip);try dsimp only [St.put,Nat.reduceAdd]);exact hq.k)):p:=h ⟨k⟩
theorem ajv {p q:Prop} (k:q) (h:aP q→p:=by (intro hq;(repeat (first|refine AQ ?_|refine WL.EY rfl rfl rfl rfl ?_|refine AB ?_);(first|refine (?_:W _ _ _ _ _)|refine (?_:WL _ _ _ _ _ _)|skip);try dsimp only [St.put,Nat.reduceAdd]);exact hq.k)):p:=h ⟨k⟩
theorem Xw {p q:Prop} (k:q) (h:aP q→p:=by (intro hq;(repeat (first|refine Qq ?_|refine WL.e1 rfl ?_|refine WL.EY rfl rfl rfl rfl ?_|refine AB ?_);(first|refine (?_:W _ _ _ _ _)|refine (?_:WL _ _ _ _ _ _)|skip);try dsimp only [St.put,Nat.reduceAdd]);exact hq.k)):p:=h ⟨k⟩
theorem ajw {p q:Prop} (k:q) (h:aP q→p:=by(intro hq;(repeat(first|refine W.go rfl ?_|refine WL.nil ?_|refine WL.ev rfl ?_|refine WL.EY rfl rfl rfl rfl ?_|refine WL.ah5 rfl rfl rfl rfl rfl rfl rfl ?_|refine W.Du rfl ?_|refine W.qY rfl ?_);(first|refine(?_:W _ _ _ _ _)|refine(?_:WL _ _ _ _ _ _)|skip);try dsimp only [St.put,Nat.reduceAdd]);exact hq.k)):p:=h ⟨k⟩
theorem awS {p q:Prop} (k:q) (h:aP q→p:=by (intro hq;(repeat (first|refine zV ?_|refine Nb ?_|refine kM ?_);(first|refine (?_:W _ _ _ _ _)|refine (?_:WL _ _ _ _ _ _)|skip);try dsimp only [St.put,Nat.reduceAdd]);exact hq.k)):p:=h ⟨k⟩
theorem Xx {p q:Prop} (k:q) (h:aP q→p:=by (intro hq;(repeat (first|refine AQ ?_|refine Gp ?_|refine kM ?_);(first|refine (?_:W _ _ _ _ _)|refine (?_:WL _ _ _ _ _ _)|skip);try dsimp only [St.put,Nat.reduceAdd]);exact hq.k)):p:=h ⟨k⟩
theorem zQ {p q:Prop} (k:q) (h:aP q→p:=by (intro hq;(repeat (first|refine XE ?_|refine kM ?_);(first|refine (?_:W _ _ _ _ _)|refine (?_:WL _ _ _ _ _ _)|skip);try dsimp only [St.put,Nat.reduceAdd]);exact hq.k)):p:=h ⟨k⟩
theorem ap6 {p q:Prop} (k:q) (h:aP q→p:=by (intro hq;(repeat (first|refine AQ ?_|refine Gp ?_|refine AB ?_|refine kM ?_);(first|refine (?_:W _ _ _ _ _)|refine (?_:WL _ _ _ _ _ _)|skip);try dsimp only [St.put,Nat.reduceAdd]);exact hq.k)):p:=h ⟨k⟩
theorem kT {p q:Prop} (k:q) (h:aP q→p:=by (intro hq;(repeat (first|refine XE ?_|refine AB ?_|refine kM ?_);(first|refine (?_:W _ _ _ _ _)|refine (?_:WL _ _ _ _ _ _)|skip);try dsimp only [St.put,Nat.reduceAdd]);exact hq.k)):p:=h ⟨k⟩
theorem Xy {p q:Prop} (k:q) (h:aP q→p:=by (intro hq;(repeat (first|refine MZ ?_|refine Nb ?_|refine WL.cat rfl rfl zU ?_);(first|refine (?_:W _ _ _ _ _)|refine (?_:WL _ _ _ _ _ _)|skip);try dsimp only [St.put,Nat.reduceAdd]);exact hq.k)):p:=h ⟨k⟩
theorem Xz {p q:Prop} (k:q) (h:aP q→p:=by (intro hq;(repeat (first|refine DK.bt rfl rfl (by omega) ?_|refine DK.bf rfl rfl (by omega) ?_|refine DK.tt rfl IG ?_|refine DK.ff rfl IG ?_|refine DK.st rfl ?_|refine DK.ar rfl rfl AU ?_|refine DK.idx rfl rfl (by omega) ajH ?_|refine DK.nil ?_));exact hq.k)):p:=h ⟨k⟩
theorem Ih {p q:Prop} (k:q) (h:aP q→p:=by (intro hq;(repeat (first|refine zV ?_|refine aqf ?_);(first|refine (?_:W _ _ _ _ _)|refine (?_:WL _ _ _ _ _ _)|skip);try dsimp only [St.put,Nat.reduceAdd]);exact hq.k)):p:=h ⟨k⟩
theorem acR {p q:Prop} (k:q) (h:aP q→p:=by (intro hq;(repeat (first|refine AQ ?_|refine aqf ?_);(first|refine (?_:W _ _ _ _ _)|refine (?_:WL _ _ _ _ _ _)|skip);try dsimp only [St.put,Nat.reduceAdd]);exact hq.k)):p:=h ⟨k⟩
theorem Ii {p q:Prop} (k:q) (h:aP q→p:=by (intro hq;(repeat (first|refine zV ?_|refine Gp ?_|refine Na ?_);(first|refine (?_:W _ _ _ _ _)|refine (?_:WL _ _ _ _ _ _)|skip);try dsimp only [St.put,Nat.reduceAdd]);exact hq.k)):p:=h ⟨k⟩
theorem acS {p q:Prop} (k:q) (h:aP q→p:=by (intro hq;(repeat (first|refine AQ ?_|refine Gp ?_|refine Na ?_);(first|refine (?_:W _ _ _ _ _)|refine (?_:WL _ _ _ _ _ _)|skip);try dsimp only [St.put,Nat.reduceAdd]);exact hq.k)):p:=h ⟨k⟩
theorem Qn {p q:Prop} (k:q) (h:aP q→p:=by (intro hq;(repeat (first|refine DK.tt rfl IG ?_|refine DK.ff rfl IG ?_|refine DK.st rfl ?_|refine DK.ar rfl rfl AU ?_|refine DK.len rfl rfl Nc ?_|refine DK.idx rfl rfl (by omega) ajH ?_|refine DK.ixs rfl rfl zU ?_|refine DK.cat rfl rfl zU ?_|refine DK.nil ?_));exact hq.k)):p:=h ⟨k⟩
theorem wZ {p q:Prop} (k:q) (h:aP q→p:=by (intro hq;(repeat (first|refine XE ?_|refine WL.div rfl rfl (by omega) ?_|refine kM ?_);(first|refine (?_:W _ _ _ _ _)|refine (?_:WL _ _ _ _ _ _)|skip);try dsimp only [St.put,Nat.reduceAdd]);exact hq.k)):p:=h ⟨k⟩
theorem XA {p q:Prop} (k:q) (h:aP q→p:=by (intro hq;(repeat (first|refine yG ?_|refine WL.e1 rfl ?_|refine Na ?_);(first|refine (?_:W _ _ _ _ _)|refine (?_:WL _ _ _ _ _ _)|skip);try dsimp only [St.put,Nat.reduceAdd]);exact hq.k)):p:=h ⟨k⟩
theorem acT {p q:Prop} (k:q) (h:aP q→p:=by(intro hq;(repeat(first|refine W.gob rfl ?_|refine WL.nil ?_|refine WL.e1 rfl ?_);(first|refine(?_:W _ _ _ _ _)|refine(?_:WL _ _ _ _ _ _)|skip);try dsimp only [St.put,Nat.reduceAdd]);exact hq.k)):p:=h ⟨k⟩
theorem Qo {p q:Prop} (k:q) (h:aP q→p:=by (intro hq;(repeat (first|refine yG ?_|refine AP ?_|refine Na ?_);(first|refine (?_:W _ _ _ _ _)|refine (?_:WL _ _ _ _ _ _)|skip);try dsimp only [St.put,Nat.reduceAdd]);exact hq.k)):p:=h ⟨k⟩
theorem XB {p q:Prop} (k:q) (h:aP q→p:=by (intro hq;(repeat (first|refine Qq ?_|refine AP ?_|refine AB ?_|refine kM ?_);(first|refine (?_:W _ _ _ _ _)|refine (?_:WL _ _ _ _ _ _)|skip);try dsimp only [St.put,Nat.reduceAdd]);exact hq.k)):p:=h ⟨k⟩
theorem qL {p q:Prop} (k:q) (h:aP q→p:=by (intro hq;(repeat (first|refine AQ ?_|refine Gq ?_);(first|refine (?_:W _ _ _ _ _)|refine (?_:WL _ _ _ _ _ _)|skip);try dsimp only [St.put,Nat.reduceAdd]);exact hq.k)):p:=h ⟨k⟩
theorem nK {p q:Prop} (k:q) (h:aP q→p:=by(intro hq;(repeat(first|refine W.go rfl ?_|refine WL.ev rfl ?_);(first|refine(?_:W _ _ _ _ _)|refine(?_:WL _ _ _ _ _ _)|skip);try dsimp only [St.put,Nat.reduceAdd]);exact hq.k)):p:=h ⟨k⟩
theorem acU {p q:Prop} (k:q) (h:aP q→p:=by(intro hq;(repeat(first|refine W.go rfl ?_|refine WL.nil ?_);(first|refine(?_:W _ _ _ _ _)|refine(?_:WL _ _ _ _ _ _)|skip);try dsimp only [St.put,Nat.reduceAdd]);exact hq.k)):p:=h ⟨k⟩
theorem zS {p q:Prop} (k:q) (h:aP q→p:=by (intro hq;(repeat (first|refine AQ ?_|refine Ij ?_|refine Gq ?_);(first|refine (?_:W _ _ _ _ _)|refine (?_:WL _ _ _ _ _ _)|skip);try dsimp only [St.put,Nat.reduceAdd]);exact hq.k)):p:=h ⟨k⟩
theorem jW {p q:Prop} (k:q) (h:aP q→p:=by (intro hq;(repeat (first|refine Gn ?_|refine AP ?_|refine AB ?_|refine Gq ?_);(first|refine (?_:W _ _ _ _ _)|refine (?_:WL _ _ _ _ _ _)|skip);try dsimp only [St.put,Nat.reduceAdd]);exact hq.k)):p:=h ⟨k⟩
theorem BI {p q:Prop} (k:q) (h:aP q→p:=by(intro hq;(repeat(first|refine W.go rfl ?_|refine WL.nil ?_|refine WL.ev rfl ?_|refine W.Du rfl ?_|refine W.qY rfl ?_);(first|refine(?_:W _ _ _ _ _)|refine(?_:WL _ _ _ _ _ _)|skip);try dsimp only [St.put,Nat.reduceAdd]);exact hq.k)):p:=h ⟨k⟩
theorem awT {p q:Prop} (k:q) (h:aP q→p:=by (intro hq;(repeat (first|refine AQ ?_|refine ajA ?_);(first|refine (?_:W _ _ _ _ _)|refine (?_:WL _ _ _ _ _ _)|skip);try dsimp only [St.put,Nat.reduceAdd]);exact hq.k)):p:=h ⟨k⟩
theorem awU {p q:Prop} (k:q) (h:aP q→p:=by (intro hq;(repeat (first|refine yG ?_|refine WL.bf rfl rfl rfl (by omega) ?_|refine WL.e1 rfl ?_|refine ajA ?_);(first|refine (?_:W _ _ _ _ _)|refine (?_:WL _ _ _ _ _ _)|skip);try dsimp only [St.put,Nat.reduceAdd]);exact hq.k)):p:=h ⟨k⟩
theorem ap7 {p q:Prop} (k:q) (h:aP q→p:=by (intro hq;(repeat (first|refine W.go rfl ?_|refine WL.nil ?_|refine acX ?_|refine W.qY rfl ?_);(first|refine (?_:W _ _ _ _ _)|refine (?_:WL _ _ _ _ _ _)|skip);try dsimp only [St.put,Nat.reduceAdd]);exact hq.k)):p:=h ⟨k⟩
theorem ajx {p q:Prop} (k:q) (h:aP q→p:=by (intro hq;(repeat (first|refine yG ?_|refine WL.bf rfl rfl rfl (by omega) ?_|refine WL.nf rfl rfl rfl (by omega) ?_|refine AP ?_|refine ajA ?_);(first|refine (?_:W _ _ _ _ _)|refine (?_:WL _ _ _ _ _ _)|skip);try dsimp only [St.put,Nat.reduceAdd]);exact hq.k)):p:=h ⟨k⟩
theorem ap8 {p q:Prop} (k:q) (h:aP q→p:=by (intro hq;(repeat (first|refine Ik ?_|refine WL.e1 rfl ?_|refine Na ?_);(first|refine (?_:W _ _ _ _ _)|refine (?_:WL _ _ _ _ _ _)|skip);try dsimp only [St.put,Nat.reduceAdd]);exact hq.k)):p:=h ⟨k⟩
theorem uU {p q:Prop} (k:q) (h:aP q→p:=by (intro hq;(repeat (first|refine BJ ?_|refine WL.e1 rfl ?_|refine Gp ?_|refine AB ?_|refine Gq ?_);(first|refine (?_:W _ _ _ _ _)|refine (?_:WL _ _ _ _ _ _)|skip);try dsimp only [St.put,Nat.reduceAdd]);exact hq.k)):p:=h ⟨k⟩
theorem XC {p q:Prop} (k:q) (h:aP q→p:=by (intro hq;(repeat (first|refine AQ ?_|refine Ij ?_|refine WL.ixs rfl rfl zU ?_|refine Gq ?_);(first|refine (?_:W _ _ _ _ _)|refine (?_:WL _ _ _ _ _ _)|skip);try dsimp only [St.put,Nat.reduceAdd]);exact hq.k)):p:=h ⟨k⟩
theorem jB {p q:Prop} (k:q) (h:aP q→p:=by (intro hq;(repeat (first|refine Gn ?_|refine AP ?_|refine XD ?_);(first|refine (?_:W _ _ _ _ _)|refine (?_:WL _ _ _ _ _ _)|skip);try dsimp only [St.put,Nat.reduceAdd]);exact hq.k)):p:=h ⟨k⟩
theorem acV {p q:Prop} (k:q) (h:aP q→p:=by (intro hq;(repeat (first|refine BJ ?_|refine AP ?_|refine XD ?_);(first|refine (?_:W _ _ _ _ _)|refine (?_:WL _ _ _ _ _ _)|skip);try dsimp only [St.put,Nat.reduceAdd]);exact hq.k)):p:=h ⟨k⟩
theorem awV {p q:Prop} (k:q) (h:aP q→p:=by (intro hq;(repeat (first|refine Qq ?_|refine WL.e1 rfl ?_|refine kM ?_);(first|refine (?_:W _ _ _ _ _)|refine (?_:WL _ _ _ _ _ _)|skip);try dsimp only [St.put,Nat.reduceAdd]);exact hq.k)):p:=h ⟨k⟩
theorem awW {p q:Prop} (k:q) (h:aP q→p:=by (intro hq;(repeat (first|refine WL.vl rfl (WV.X4 rfl rfl) ?_|refine AQ ?_|refine kM ?_);(first|refine (?_:W _ _ _ _ _)|refine (?_:WL _ _ _ _ _ _)|skip);try dsimp only [St.put,Nat.reduceAdd]);exact hq.k)):p:=h ⟨k⟩
theorem awX {p q:Prop} (k:q) (h:aP q→p:=by (intro hq;(repeat (first|refine Ik ?_|refine WL.bt rfl rfl rfl (by omega) ?_|refine WL.e1 rfl ?_|refine kM ?_);(first|refine (?_:W _ _ _ _ _)|refine (?_:WL _ _ _ _ _ _)|skip);try dsimp only [St.put,Nat.reduceAdd]);exact hq.k)):p:=h ⟨k⟩
theorem ap9 {p q:Prop} (k:q) (h:aP q→p:=by (intro hq;(repeat (first|refine DK.vl rfl (WV.X4 rfl rfl) ?_|refine DK.bt rfl rfl (by omega) ?_|refine DK.bf rfl rfl (by omega) ?_|refine DK.st rfl ?_|refine DK.ar rfl rfl AU ?_|refine DK.idx rfl rfl (by omega) ajH ?_|refine DK.nil ?_));exact hq.k)):p:=h ⟨k⟩
theorem acW {p q:Prop} (k:q) (h:aP q→p:=by (intro hq;(repeat (first|refine W.go rfl ?_|refine WL.nil ?_|refine Gp ?_|refine XD ?_);(first|refine (?_:W _ _ _ _ _)|refine (?_:WL _ _ _ _ _ _)|skip);try dsimp only [St.put,Nat.reduceAdd]);exact hq.k)):p:=h ⟨k⟩
theorem MX {p q:Prop} (k:q) (h:aP q→p:=by (intro hq;(repeat (first|refine zV ?_|refine Gp ?_|refine XD ?_);(first|refine (?_:W _ _ _ _ _)|refine (?_:WL _ _ _ _ _ _)|skip);try dsimp only [St.put,Nat.reduceAdd]);exact hq.k)):p:=h ⟨k⟩
theorem zT {p q:Prop} (k:q) (h:aP q→p:=by (intro hq;(repeat (first|refine BJ ?_|refine afH ?_|refine Gp ?_|refine XD ?_);(first|refine (?_:W _ _ _ _ _)|refine (?_:WL _ _ _ _ _ _)|skip);try dsimp only [St.put,Nat.reduceAdd]);exact hq.k)):p:=h ⟨k⟩
theorem ajy {p q:Prop} (k:q) (h:aP q→p:=by(intro hq;(repeat(first|refine W.gob rfl ?_|refine WL.nil ?_|refine WL.e1 rfl ?_|refine W.Du rfl ?_|refine W.qY rfl ?_);(first|refine(?_:W _ _ _ _ _)|refine(?_:WL _ _ _ _ _ _)|skip);try dsimp only [St.put,Nat.reduceAdd]);exact hq.k)):p:=h ⟨k⟩
theorem nM {p q:Prop} (k:q) (h:aP q→p:=by (intro hq;(repeat (first|refine AQ ?_|refine Nb ?_|refine AB ?_|refine kM ?_);(first|refine (?_:W _ _ _ _ _)|refine (?_:WL _ _ _ _ _ _)|skip);try dsimp only [St.put,Nat.reduceAdd]);exact hq.k)):p:=h ⟨k⟩
theorem yF {p q:Prop} (k:q) (h:aP q→p:=by (intro hq;(repeat (first|refine zV ?_|refine Nb ?_|refine AB ?_|refine kM ?_);(first|refine (?_:W _ _ _ _ _)|refine (?_:WL _ _ _ _ _ _)|skip);try dsimp only [St.put,Nat.reduceAdd]);exact hq.k)):p:=h ⟨k⟩
theorem awY {p q:Prop} (k:q) (h:aP q→p:=by(intro hq;(repeat(first|refine W.go rfl ?_|refine WL.nil ?_|refine WL.EY rfl rfl rfl rfl ?_|refine W.qY rfl ?_);(first|refine(?_:W _ _ _ _ _)|refine(?_:WL _ _ _ _ _ _)|skip);try dsimp only [St.put,Nat.reduceAdd]);exact hq.k)):p:=h ⟨k⟩
theorem awZ {p q:Prop} (k:q) (h:aP q→p:=by (intro hq;(repeat (first|refine yG ?_|refine WL.bf rfl rfl rfl (by omega) ?_|refine WL.e1 rfl ?_|refine WL.EY rfl rfl rfl rfl ?_|refine W.qY rfl ?_);(first|refine (?_:W _ _ _ _ _)|refine (?_:WL _ _ _ _ _ _)|skip);try dsimp only [St.put,Nat.reduceAdd]);exact hq.k)):p:=h ⟨k⟩
theorem aqa {p q:Prop} (k:q) (h:aP q→p:=by (intro hq;(repeat (first|refine yG ?_|refine WL.nf rfl rfl rfl (by omega) ?_|refine WL.e1 rfl ?_|refine kM ?_);(first|refine (?_:W _ _ _ _ _)|refine (?_:WL _ _ _ _ _ _)|skip);try dsimp only [St.put,Nat.reduceAdd]);exact hq.k)):p:=h ⟨k⟩
theorem aw0 {p q:Prop} (k:q) (h:aP q→p:=by(intro hq;(repeat(first|refine W.go rfl ?_|refine WL.nil ?_|refine WL.EY rfl rfl rfl rfl ?_|refine WL.ah5 rfl rfl rfl rfl rfl rfl rfl ?_|refine W.Du rfl ?_|refine W.qY rfl ?_);(first|refine(?_:W _ _ _ _ _)|refine(?_:WL _ _ _ _ _ _)|skip);try dsimp only [St.put,Nat.reduceAdd]);exact hq.k)):p:=h ⟨k⟩
theorem aqb {p q:Prop} (k:q) (h:aP q→p:=by (intro hq;(repeat (first|refine yG ?_|refine WL.bf rfl rfl rfl (by omega) ?_|refine WL.nf rfl rfl rfl (by omega) ?_|refine WL.e1 rfl ?_|refine Nb ?_|refine kM ?_);(first|refine (?_:W _ _ _ _ _)|refine (?_:WL _ _ _ _ _ _)|skip);try dsimp only [St.put,Nat.reduceAdd]);exact hq.k)):p:=h ⟨k⟩
theorem aqc {p q:Prop} (k:q) (h:aP q→p:=by (intro hq;(repeat (first|refine W.go rfl ?_|refine WL.nil ?_|refine Gq ?_);(first|refine (?_:W _ _ _ _ _)|refine (?_:WL _ _ _ _ _ _)|skip);try dsimp only [St.put,Nat.reduceAdd]);exact hq.k)):p:=h ⟨k⟩
theorem aw1 {p q:Prop} (k:q) (h:aP q→p:=by (intro hq;(repeat (first|refine Ik ?_|refine WL.e1 rfl ?_|refine Gq ?_);(first|refine (?_:W _ _ _ _ _)|refine (?_:WL _ _ _ _ _ _)|skip);try dsimp only [St.put,Nat.reduceAdd]);exact hq.k)):p:=h ⟨k⟩
theorem ajz {p q:Prop} (k:q) (h:aP q→p:=by (intro hq;(repeat (first|refine Ik ?_|refine WL.e1 rfl ?_|refine WL.len rfl rfl Nc ?_|refine W.Du rfl ?_);(first|refine (?_:W _ _ _ _ _)|refine (?_:WL _ _ _ _ _ _)|skip);try dsimp only [St.put,Nat.reduceAdd]);exact hq.k)):p:=h ⟨k⟩
theorem Qp {p q:Prop} (k:q) (h:aP q→p:=by (intro hq;(repeat (first|refine MZ ?_|refine Ij ?_|refine WL.app rfl rfl rfl zU ?_);(first|refine (?_:W _ _ _ _ _)|refine (?_:WL _ _ _ _ _ _)|skip);try dsimp only [St.put,Nat.reduceAdd]);exact hq.k)):p:=h ⟨k⟩
theorem aqd {p q:Prop} (k:q) (h:aP q→p:=by (intro hq;(repeat (first|refine Gn ?_|refine WL.e1 rfl ?_|refine kM ?_);(first|refine (?_:W _ _ _ _ _)|refine (?_:WL _ _ _ _ _ _)|skip);try dsimp only [St.put,Nat.reduceAdd]);exact hq.k)):p:=h ⟨k⟩
theorem aqe {p q:Prop} (k:q) (h:aP q→p:=by (intro hq;(repeat (first|refine AQ ?_|refine WL.ar rfl rfl AU ?_|refine kM ?_);(first|refine (?_:W _ _ _ _ _)|refine (?_:WL _ _ _ _ _ _)|skip);try dsimp only [St.put,Nat.reduceAdd]);exact hq.k)):p:=h ⟨k⟩
theorem TF {p q:Prop} (k:q) (h:aP q→p:=by (intro hq;(repeat (first|refine Gn ?_|refine AP ?_|refine kM ?_);(first|refine (?_:W _ _ _ _ _)|refine (?_:WL _ _ _ _ _ _)|skip);try dsimp only [St.put,Nat.reduceAdd]);exact hq.k)):p:=h ⟨k⟩
theorem MS {p q:Prop} (k:q) (h:aP q→p:=by (intro hq;(repeat (first|refine Qq ?_|refine AP ?_|refine kM ?_);(first|refine (?_:W _ _ _ _ _)|refine (?_:WL _ _ _ _ _ _)|skip);try dsimp only [St.put,Nat.reduceAdd]);exact hq.k)):p:=h ⟨k⟩
theorem aui {p q:Prop} (k:q) (h:aP q→p:=by(intro hq;(repeat(first|refine W.go rfl ?_|refine WL.nil ?_|refine W.qY rfl ?_);(first|refine(?_:W _ _ _ _ _)|refine(?_:WL _ _ _ _ _ _)|skip);try dsimp only [St.put,Nat.reduceAdd]);exact hq.k)):p:=h ⟨k⟩
theorem auj {p q:Prop} (k:q) (h:aP q→p:=by(intro hq;(repeat(first|refine W.gob rfl ?_|refine WL.nil ?_|refine WL.e1 rfl ?_|refine W.qY rfl ?_);(first|refine(?_:W _ _ _ _ _)|refine(?_:WL _ _ _ _ _ _)|skip);try dsimp only [St.put,Nat.reduceAdd]);exact hq.k)):p:=h ⟨k⟩
theorem ajp {p q:Prop} (k:q) (h:aP q→p:=by (intro hq;(repeat (first|refine Gn ?_|refine AP ?_|refine WL.div rfl rfl (by omega) ?_|refine kM ?_);(first|refine (?_:W _ _ _ _ _)|refine (?_:WL _ _ _ _ _ _)|skip);try dsimp only [St.put,Nat.reduceAdd]);exact hq.k)):p:=h ⟨k⟩
theorem C9 {p q:Prop} (k:q) (h:aP q→p:=by (intro hq;(repeat (first|refine Gn ?_|refine WL.e1 rfl ?_|refine WL.EY rfl rfl rfl rfl ?_|refine WL.ar rfl rfl AU ?_|refine kM ?_);(first|refine (?_:W _ _ _ _ _)|refine (?_:WL _ _ _ _ _ _)|skip);try dsimp only [St.put,Nat.reduceAdd]);exact hq.k)):p:=h ⟨k⟩
theorem TG {p q:Prop} (k:q) (h:aP q→p:=by (intro hq;(repeat (first|refine MZ ?_|refine WL.ar rfl rfl AU ?_|refine W.qY rfl ?_);(first|refine (?_:W _ _ _ _ _)|refine (?_:WL _ _ _ _ _ _)|skip);try dsimp only [St.put,Nat.reduceAdd]);exact hq.k)):p:=h ⟨k⟩
theorem ajq {p q:Prop} (k:q) (h:aP q→p:=by(intro hq;(repeat(first|refine W.go rfl ?_|refine WL.ev rfl ?_|refine W.qY rfl ?_);(first|refine(?_:W _ _ _ _ _)|refine(?_:WL _ _ _ _ _ _)|skip);try dsimp only [St.put,Nat.reduceAdd]);exact hq.k)):p:=h ⟨k⟩
theorem TI {p q:Prop} (k:q) (h:aP q→p:=by (intro hq;(repeat (first|refine AQ ?_|refine WL.len rfl rfl Nc ?_);(first|refine (?_:W _ _ _ _ _)|refine (?_:WL _ _ _ _ _ _)|skip);try dsimp only [St.put,Nat.reduceAdd]);exact hq.k)):p:=h ⟨k⟩
theorem Gm {p q:Prop} (k:q) (h:aP q→p:=by (intro hq;(repeat (first|refine DK.bt rfl rfl (by omega) ?_|refine DK.bf rfl rfl (by omega) ?_|refine DK.tt rfl IG ?_|refine DK.ff rfl IG ?_|refine DK.st rfl ?_|refine DK.ar rfl rfl AU ?_|refine DK.ixs rfl rfl zU ?_|refine DK.nil ?_));exact hq.k)):p:=h ⟨k⟩
def bs(l:List UInt8):ByteArray:=⟨l.toArray⟩
theorem wC(xs:Array UInt8):(ByteArray.mk xs)=bs xs.toList:=rfl
theorem auU(s:ByteArray):∃ l,s=bs l:=⟨s.data.toList,rfl⟩
theorem bY(l:List UInt8):(bs l).size=l.length:=by simp [bs,ByteArray.size]
theorem iQ(l:List UInt8):(bs l).data.toList=l:=by simp [bs]
theorem gV (a b:List UInt8):bs a++bs b=bs (a++b):=by
 apply ByteArray.ext;simp [bs,ByteArray.data_append]
theorem dU (l:List UInt8)(a b:Nat):(bs l).extract a b=bs ((l.drop a).take (b-a)):=by
 apply ByteArray.ext;simp [bs,ByteArray.data_extract]
theorem gW(l:List UInt8):(bs l).toList=l:=by
 simp [bs]
def cut (l:List UInt8)(i j:Int):List UInt8:=(l.drop i.toNat).take (j.toNat-i.toNat)
theorem xA(l:List UInt8)(i j:Int):(cut l i j).length≤l.length:=by simp only [cut,fP,yB];omega
section
variable {P:Program} (w:World)
theorem mV (t:TypeId) (l:List UInt8) (k k':IntKind) (i j:Int) (h:P.underlying t=some .string) (h0:0≤i) (h1:i≤j) (h2:j≤(l.length:Int)) :
  (Instr.slice t (.string (bs l)) (some (.int k i)) (some (.int k' j)) none).run P w=.ok (.string (bs (cut l i j))) w:=by
 rw [run_slice_string w t (bs l) k k' i j h h0 h1 (by rw [bY];exact h2),dU];rfl
theorem iK (t:TypeId)(l:List UInt8)(k':IntKind)(j:Int)(h:P.underlying t=some .string)(h0:0≤j)(h2:j≤(l.length:Int)) :
  (Instr.slice t (.string (bs l)) none (some (.int k' j)) none).run P w=.ok (.string (bs (cut l 0 j))) w:=by
 have hj:0≤j∧j≤((bs l).size:Int):=⟨h0,by rw [bY];exact h2⟩
 rw [run_slice_string_to_if w t (bs l) k' j h,if_pos hj,dU];rfl
theorem eF (t:TypeId) (l:List UInt8) (k:IntKind) (i:Int) (h:P.underlying t=some .string) (h0:0≤i) (h2:i≤(l.length:Int)) :
  (Instr.slice t (.string (bs l)) (some (.int k i)) none none).run P w=.ok (.string (bs (l.drop i.toNat))) w:=by
 have hj:0≤i∧i≤((bs l).size:Int):=⟨h0,by rw [bY];exact h2⟩
 rw [run_slice_string_from_if w t (bs l) k i h,if_pos hj,dU,bY]
 rw [wS (by simp)]
theorem je (a b:List UInt8) (h:a.length+b.length≤9223372036854775807):(Op.stringOp .add (bs a) (bs b)).run P w=.ok (.string (bs (a++b))) w:=by
 rw [run_string_add_sum w (bs a) (bs b) (by rw [bY,bY];exact h),gV]
end
theorem EO {B:Nat} {a w:World} (h:Below B a w) (n:Nat):Below B a (w.drewN n):=h.trans ⟨rfl,rfl,rfl,bJ _,fun _ _=>rfl⟩
theorem af0 {a w w':World} (h:Below a.heap.size a w)(hb:Below w.heap.size w w'):Below a.heap.size a w':=h.trans (hb.mono h.size)
theorem EN {a w:World} (h:Below a.heap.size a w)(o:Obj):Below a.heap.size a (w.alloc o):=h.alloc h.size o
theorem jT {n:Nat} {w w':World} (h:Below n w w':=by repeat (first|exact Below.refl _ _|assumption|refine EO ?_ _|refine Below.drew ?_|refine EN ?_ _|refine Below.setCell ?_ zU _|refine af0 ?_ (by assumption))):Below n w w':=h
theorem Ov {W w1:World} (hb:Below W.heap.size W w1):(∀ b o,b<W.heap.size→w1.cell? ⟨b,o,none⟩=W.cell? ⟨b,o,none⟩)∧(∀ b o,b<W.heap.size→w1.frozen? ⟨b,o,none⟩=W.frozen? ⟨b,o,none⟩) :=
 ⟨fun b o h=>hb.cell (p:=⟨b,o,none⟩) h,fun b o h=>hb.frozen (p:=⟨b,o,none⟩) h⟩
theorem yu {P:Program} (w:World) (b:Nat) (e:TypeId) (cs:Array Value) (hb:w.heap[b]?=some (.cells cs e (0,0))) (h0:P.cellsOf e=0):(partAt ⟨b,0,none⟩ 0 0).run P w=.ok ⟨b,0,none⟩ w:=by
 have hs:w.shape? b=some (e,cs.size):=by simp [World.shape?,hb]
 simp [partAt,byteOf,noView,viewAt,hs,h0]
theorem Gx (w:World)(o o':Obj):((w.alloc o).alloc o').heap[w.heap.size]?=some o:=by
 rw [Below.heap_alloc _ _ _ (by simp)];exact heap_alloc_new w o
def nN (w:World)(g:Nat)(t:TypeId)(cs:Array Value):Prop:=w.heap[g]?=some (.cells cs t (0,0))
section
variable {w w':World} {g:Nat} {t:TypeId} {cs:Array Value}
theorem nN.lt(h:nN w g t cs):g<w.heap.size:=by
 rcases wW g w.heap.size with hlt|hge
 ·exact hlt
 ·unfold nN at h;rw [F9 hge]at h;cases h
theorem nN.cell (h:nN w g t cs) (i:Nat):w.cell? ⟨g,i,none⟩=cs[i]?:=cell_of_row w g i cs t (0,0) h
theorem nN.frozen(h:nN w g t cs) (i:Nat):w.frozen? ⟨g,i,none⟩=false:=by
 unfold nN at h
 simp [World.frozen?,h]
theorem nN.new (w:World)(t:TypeId)(cs:Array Value):nN (w.alloc (.cells cs t)) w.heap.size t cs:=heap_alloc_new w _
theorem nN.drew(h:nN w g t cs):nN w.drew g t cs:=h
theorem nN.alloc (h:nN w g t cs)(o:Obj):nN (w.alloc o) g t cs:=(Below.heap_alloc w o g h.lt).trans h
theorem nN.after(h:nN w g t cs)(hb:Below w.heap.size w w'):nN w' g t cs:=(hb.block g h.lt).trans h
end
def eG(v:Value)(W:World)(e:Ending)(w':World):Prop:=e=.returned v∧Below W.heap.size W w'
theorem eG.mk' {v v':Value} {W w':World} (h:v'=v)(hb:Below W.heap.size W w'):eG v W (.returned v') w':=⟨by rw [h],hb⟩
theorem PI (w:World) (e:TypeId) (size n:Nat) (cs:Array Value) (hn:n≤maxLen) (hs:cs.size=n*size) :
  (w.alloc (.cells cs e)).ownsRow w.heap.size e size (.slice (some ⟨w.heap.size,0,none⟩) n n) n cs.toList :=
 ⟨by simpa using hs,.inr ⟨w.heap.size,n,cs,rfl,bJ _,heap_alloc_new w _,bJ _,hn,hs,by rw [← hs,wS (by simp)]⟩⟩
theorem NM(g j:Nat):(⟨g,0,none⟩:Addr).add j =⟨g,j,none⟩:=by
 unfold Addr.add
 by_cases h:j=0<;>simp [h]
theorem CJ {w:World} {base B:Nat} {e:TypeId} {size n:Nat} {v:Value} {xs:List Value} (h:w.ownsRow base e size v n xs) (hB:B≤base):w.ownsRow B e size v n xs:=by
 rcases h with⟨h1,h2|⟨g,cap,cur,hv,hbg,h3⟩⟩
 ·exact ⟨h1,.inl h2⟩
 ·exact ⟨h1,.inr ⟨g,cap,cur,hv,by omega,h3⟩⟩
theorem bW(a:Addr)(n:Nat):(a.add n).block=a.block:=by unfold Addr.add;split<;>rfl
theorem kW (a:Addr)(i j:Nat):(a.add i).add j=a.add (i+j):=by
 unfold Addr.add
 by_cases hi:i=0<;>by_cases hj:j=0<;>simp [hi,hj,H8]
theorem jO (ad:Addr)(i j:Nat)(h:0<j):ad.add (i+j) =⟨(ad.add i).block,(ad.add i).off+j,none⟩:=by
 rw [← kW]
 generalize ad.add i=b
 unfold Addr.add
 rw [if_neg (by omega)]
def Rd (w:World)(B size:Nat)(A:Option Addr)(l:List (List Value)):Prop :=
 0<l.length→∃ ad,A=some ad∧ad.block<B∧∀ k r,l[k]?=some r→∀ j u,r[j]?=some u→w.cell? (ad.add (k*size+j))=some u
section
variable {w w':World} {B B' size:Nat} {A:Option Addr} {l:List (List Value)}
theorem Rd.none_:Rd w B size A []:=fun h=>absurd h (by simp)
theorem Rd.at_ {k:Nat} (h:Rd w B size A l)(hk:k<l.length):∃ ad,A=some ad∧ad.block<B∧∀ j u,(l[k])[j]?=some u→w.cell? (ad.add (k*size+j))=some u:=by
 obtain⟨ad,e,hb,hc⟩:=h au
 exact⟨ad,e,hb,fun j u hu=>hc k _ (aI hk) j u hu⟩
theorem Rd.keep (h:Rd w B size A l)(hk:∀ p:Addr,p.block<B→w'.cell? p=w.cell? p):Rd w' B size A l:=fun hn=>by
 obtain⟨ad,e,hb,hc⟩:=h hn
 exact⟨ad,e,hb,fun k r hr j u hu=>(hk _ (by rw [bW];exact hb)).trans (hc k r hr j u hu)⟩
theorem Rd.more(h:Rd w B size A l)(hB:B≤B'):Rd w B' size A l:=fun hn=>by
 obtain⟨ad,e,hb,hc⟩:=h hn
 exact⟨ad,e,by omega,hc⟩
theorem Rd.alloc (h:Rd w B size A l)(hB:B≤w.heap.size)(o:Obj):Rd (w.alloc o) B size A l:=h.keep fun p hp=>World.cell?_alloc_lt w o p (by omega)
theorem Rd.setCell (h:Rd w B size A l) {p:Addr} (hB:B≤p.block)(u:Value):Rd (w.setCell p u) B size A l :=
 h.keep fun q hq=>World.cell?_setCell_other w p q u (fun e=>by subst e;omega)
theorem Rd.grown (h:Rd w B size A l) {row:Option Nat} (hg:w.grownBy w' row) (hB:B≤w.heap.size) (hr:∀ g,row=some g→B≤g):Rd w' B size A l :=
 h.keep fun p hp=>World.cell?_of_block (hg.block p.block au (fun e=>by have:=hr _ e.symm;omega))
end
def jy(x:Int):List Value:=[.int .i64 x]
def fG(x:Int×Int×Bool):List Value:=[.int .i64 x.1,.int .i64 x.2.1,.bool x.2.2]
def iq (last:Int):List Int→Bool
 | []=>false
 | x::r=>decide (x≤last∨127<x)|| iq x r
def rJ (st:List Int)(x:Int×Int×Bool):Int:=(x.1+if 0<x.2.1 then st.getD (x.2.1.toNat-1) 0 else 0)+if x.2.2 then 12 else 0
def yJ (st:List Int):List (Int×Int×Bool)→Int
 | []=>0
 | x::r=>if x.2.1<0∨(st.length:Int)<x.2.1 then 13 else if (x.1<0∨127<x.1)∨127<rJ st x then 10 else yJ st r
def fU (cs:List (Int×Int×Bool))(st:List Int):Int :=
 if 14<cs.length∨18<st.length then 2 else if cs.length=0 then 11 else if iq 0 st=true then 11 else yJ st cs
theorem Hw {last:Int} {st:List Int} {k:Nat} (h:k<st.length):iq last (st.drop k)=(decide (st[k]≤last∨127<st[k])|| iq st[k] (st.drop (k+1))):=by
 exact Nq
theorem abb {st:List Int} {cs:List (Int×Int×Bool)} {k:Nat} (h:k<cs.length) :
  yJ st (cs.drop k)=if cs[k].2.1<0∨(st.length:Int)<cs[k].2.1 then 13 else if (cs[k].1<0∨127<cs[k].1)∨127<rJ st cs[k]then 10 else yJ st (cs.drop (k+1)):=by
 rw [zL h];rfl
theorem lF:∀ {st:List Int} {last:Int},0≤last→iq last st=false→∀ k (h:k<st.length),1≤st[k]∧st[k]≤127:=by
 intro st
 induction st with
 | nil=>intro last _ _ k h;simp at h
 | cons x r ih =>
  intro last h0 hb k h
  unfold iq at hb
  rw [Bool.or_eq_false_iff] at hb
  have hx:=Ew hb.1
  cases k with
  | zero=>simp only [zM];omega
  | succ k=>simp only [Ie];exact ih (by omega) hb.2 k rP
def jq (w:World)(B:Nat)(A1 A2:Option Addr)(cs:List (Int×Int×Bool))(st:List Int):Prop:=Rd w B 3 A1 (cs.map fG)∧Rd w B 1 A2 (st.map jy)
section
variable {w w':World} {B B':Nat} {A1 A2:Option Addr} {cs:List (Int×Int×Bool)} {st:List Int}
theorem jq.keep(h:jq w B A1 A2 cs st)(hk:∀ p:Addr,p.block<B→w'.cell? p=w.cell? p):jq w' B A1 A2 cs st:=⟨h.1.keep hk,h.2.keep hk⟩
theorem jq.more(h:jq w B A1 A2 cs st)(hB:B≤B'):jq w B' A1 A2 cs st:=⟨h.1.more hB,h.2.more hB⟩
theorem jq.below(h:jq w B A1 A2 cs st)(hb:Below B w w'):jq w' B A1 A2 cs st:=h.keep fun _ hp=>hb.cell hp
theorem jq.alloc (h:jq w B A1 A2 cs st)(hB:B≤w.heap.size)(o:Obj):jq (w.alloc o) B A1 A2 cs st:=⟨h.1.alloc hB o,h.2.alloc hB o⟩
theorem jq.step {k:Nat} (h:jq w B A1 A2 cs st) (hk:k<st.length):∃ ad,A2=some ad∧ad.block<B∧w.cell? (ad.add k)=some (.int .i64 st[k]):=by
 obtain ⟨ad,e,hb,hc⟩:=h.2.at_ (k:=k) zX
 refine ⟨ad,e,hb,?_⟩
 have:=hc 0 (.int .i64 st[k]) (by simp [jy])
 exact ng
theorem jq.aT {k:Nat} (h:jq w B A1 A2 cs st) (hk:k<cs.length):∃ ad,A1=some ad∧ad.block<B∧w.cell? (ad.add (k*3))=some (.int .i64 cs[k].1)∧w.cell? ⟨(ad.add (k*3)).block,(ad.add (k*3)).off+1,none⟩=some (.int .i64 cs[k].2.1)∧w.cell? ⟨(ad.add (k*3)).block,(ad.add (k*3)).off+2,none⟩=some (.bool cs[k].2.2):=by
 obtain ⟨ad,e,hb,hc⟩:=h.1.at_ (k:=k) zX
 refine ⟨ad,e,hb,?_,?_,?_⟩
 ·have:=hc 0 (.int .i64 cs[k].1) (by simp [fG]);simpa using this
 ·rw [← jO _ _ _ (by omega)];exact hc 1 (.int .i64 cs[k].2.1) (by simp [fG])
 ·rw [← jO _ _ _ (by omega)];exact hc 2 (.bool cs[k].2.2) (by simp [fG])
end
abbrev Stp:=Int×Int×Int×Int×Int
def tZ(x:Stp):List Value:=[.int .i64 x.1,.int .i64 x.2.1,.int .i64 x.2.2.1,.int .i64 x.2.2.2.1,.int .i64 x.2.2.2.2]
structure Ev where
 bar:Bool
 val:Int
 dot:Bool
 three:Bool
 tie:Bool
 stops:List Stp
def qg(e:Ev)(m:Option Addr×Nat):List Value:=[.bool e.bar,.int .i64 e.val,.bool e.dot,.bool e.three,.bool e.tie,.slice m.1 e.stops.length m.2]
structure aS where
 cs:List (Int×Int×Bool)
 st:List Int
 evs:List Ev
structure PM where
 A1:Option Addr
 A2:Option Addr
 A3:Option Addr
 c1:Nat
 c2:Nat
 c3:Nat
def iG (w:World)(B:Nat)(A:Option Addr)(l:List Stp):Prop:=Rd w B 5 A (l.map tZ)
def uz (w:World)(B:Nat)(A:Option Addr)(evs:List Ev):Prop :=
 ∃ ms:List (Option Addr×Nat),ms.length=evs.length∧Rd w B 6 A (List.zipWith qg evs ms)∧∀ (k:Nat)(e:Ev)(m:Option Addr×Nat),evs[k]?=some e→ms[k]?=some m→iG w B m.1 e.stops
def uZ(w:World)(B:Nat)(M:PM)(p:aS):Prop:=jq w B M.A1 M.A2 p.cs p.st∧uz w B M.A3 p.evs∧p.evs.length≤M.c3
def iD(M:PM)(p:aS):Value:=.agg #[.slice M.A1 p.cs.length M.c1,.slice M.A2 p.st.length M.c2,.slice M.A3 p.evs.length M.c3]
section
variable {w w':World} {B B':Nat} {A:Option Addr} {l:List Stp} {evs:List Ev} {M:PM} {p:aS}
theorem iG.keep(h:iG w B A l)(hk:∀ p:Addr,p.block<B→w'.cell? p=w.cell? p):iG w' B A l:=Rd.keep h hk
theorem iG.more(h:iG w B A l)(hB:B≤B'):iG w B' A l:=Rd.more h hB
theorem iG.below(h:iG w B A l)(hb:Below B w w'):iG w' B A l:=h.keep fun _ hp=>hb.cell hp
theorem uz.keep(h:uz w B A evs)(hk:∀ p:Addr,p.block<B→w'.cell? p=w.cell? p):uz w' B A evs:=by
 obtain⟨ms,h1,h2,h3⟩:=h
 exact⟨ms,h1,h2.keep hk,fun k e m he hm=>(h3 k e m he hm).keep hk⟩
theorem uz.more(h:uz w B A evs)(hB:B≤B'):uz w B' A evs:=by
 obtain⟨ms,h1,h2,h3⟩:=h
 exact⟨ms,h1,h2.more hB,fun k e m he hm=>(h3 k e m he hm).more hB⟩
theorem uz.below(h:uz w B A evs)(hb:Below B w w'):uz w' B A evs:=h.keep fun _ hp=>hb.cell hp
theorem uZ.keep(h:uZ w B M p)(hk:∀ p:Addr,p.block<B→w'.cell? p=w.cell? p):uZ w' B M p:=⟨h.1.keep hk,h.2.1.keep hk,h.2.2⟩
theorem uZ.more(h:uZ w B M p)(hB:B≤B'):uZ w B' M p:=⟨h.1.more hB,h.2.1.more hB,h.2.2⟩
theorem uZ.below(h:uZ w B M p)(hb:Below B w w'):uZ w' B M p:=h.keep fun _ hp=>hb.cell hp
theorem uZ.after(h:uZ w w.heap.size M p)(hb:Below w.heap.size w w'):uZ w' w'.heap.size M p:=(h.below hb).more hb.size
theorem iG.after(h:iG w w.heap.size A l)(hb:Below w.heap.size w w'):iG w' w'.heap.size A l:=(h.below hb).more hb.size
theorem iG.stp {k:Nat} (h:iG w B A l) (hk:k<l.length):∃ ad,A=some ad∧ad.block<B∧w.cell? (ad.add (k*5))=some (.int .i64 l[k].1) ∧
  w.cell? ⟨(ad.add (k*5)).block,(ad.add (k*5)).off+1,none⟩=some (.int .i64 l[k].2.1)∧w.cell? ⟨(ad.add (k*5)).block,(ad.add (k*5)).off+2,none⟩=some (.int .i64 l[k].2.2.1) ∧
  w.cell? ⟨(ad.add (k*5)).block,(ad.add (k*5)).off+3,none⟩=some (.int .i64 l[k].2.2.2.1)∧w.cell? ⟨(ad.add (k*5)).block,(ad.add (k*5)).off+4,none⟩=some (.int .i64 l[k].2.2.2.2):=by
 obtain ⟨ad,e,hb,hc⟩:=Rd.at_ (k:=k) h zX
 refine ⟨ad,e,hb,?_,?_,?_,?_,?_⟩
 ·have:=hc 0 (.int .i64 l[k].1) XM;simpa using this
 ·rw [← jO _ _ _ (by omega)];exact hc 1 _ XM
 ·rw [← jO _ _ _ (by omega)];exact hc 2 _ XM
 ·rw [← jO _ _ _ (by omega)];exact hc 3 _ XM
 ·rw [← jO _ _ _ (by omega)];exact hc 4 _ XM
theorem uz.ev {k:Nat} (h:uz w B A evs) (hk:k<evs.length):∃ (ad:Addr) (S:Option Addr) (c:Nat),A=some ad∧ad.block<B∧w.cell? (ad.add (k*6))=some (.bool evs[k].bar) ∧
  w.cell? ⟨(ad.add (k*6)).block,(ad.add (k*6)).off+1,none⟩=some (.int .i64 evs[k].val)∧w.cell? ⟨(ad.add (k*6)).block,(ad.add (k*6)).off+2,none⟩=some (.bool evs[k].dot) ∧
  w.cell? ⟨(ad.add (k*6)).block,(ad.add (k*6)).off+3,none⟩=some (.bool evs[k].three)∧w.cell? ⟨(ad.add (k*6)).block,(ad.add (k*6)).off+4,none⟩=some (.bool evs[k].tie) ∧
  w.cell? ⟨(ad.add (k*6)).block,(ad.add (k*6)).off+5,none⟩=some (.slice S evs[k].stops.length c)∧iG w B S evs[k].stops:=by
 obtain ⟨ms,h1,h2,h3⟩:=h
 obtain ⟨ad,e,hb,hc⟩:=Rd.at_ (k:=k) h2 (by simp;omega)
 have hm:k<ms.length:=by omega
 have hz:(List.zipWith qg evs ms)[k]'(by simp;omega)=qg evs[k] ms[k]:=List.getElem_zipWith
 rw [hz] at hc
 refine ⟨ad,ms[k].1,ms[k].2,e,hb,?_,?_,?_,?_,?_,?_,h3 k _ _ (aI hk) (aI hm)⟩
 ·have:=hc 0 (.bool evs[k].bar) Qv;simpa using this
 ·rw [← jO _ _ _ (by omega)];exact hc 1 _ Qv
 ·rw [← jO _ _ _ (by omega)];exact hc 2 _ Qv
 ·rw [← jO _ _ _ (by omega)];exact hc 3 _ Qv
 ·rw [← jO _ _ _ (by omega)];exact hc 4 _ Qv
 ·rw [← jO _ _ _ (by omega)];exact hc 5 _ Qv
end
def Uo (p:aS):Bool:=decide (64<p.cs.length)|| (decide (64<p.st.length)|| (decide (420<p.evs.length)|| p.evs.any fun e=>decide (20<e.stops.length)))
theorem afV {α:Type} {f:α→Bool} {l:List α} {k:Nat} (h:k<l.length):(l.drop k).any f=(f l[k]|| (l.drop (k+1)).any f):=by
 exact Nq
def Gv(e:Ev)(S:Option Addr)(c:Nat):Value:=.agg #[.bool e.bar,.int .i64 e.val,.bool e.dot,.bool e.three,.bool e.tie,.slice S e.stops.length c]
def Z9(x:Stp):Value:=.agg #[.int .i64 x.1,.int .i64 x.2.1,.int .i64 x.2.2.1,.int .i64 x.2.2.2.1,.int .i64 x.2.2.2.2]
def jU(e:Ev):Bool:=e.stops.length == 0 && !e.tie
def hasB(c:Int)(l:List Stp):Bool:=l.any fun x=>x.1 == c
def lT(c:Int):Nat→List Ev→Nat
 | 0,_=>0
 | _+1,[]=>0
 | k+1,e::r=>if(jU e|| hasB c e.stops)=true then 0 else lT c k r+1
def ah (evs:List Ev)(i c:Int):Nat:=if i<0∨(evs.length:Int)≤i then 0 else lT c 15 (evs.drop (i.toNat+1))
theorem Ll(c:Int)(k:Nat):lT c k []=0:=by cases k<;>rfl
theorem aoG(c:Int):∀ (k:Nat)(l:List Ev),lT c k l≤k:=by
 intro k
 induction k with
 | zero=>intro l;simp [lT]
 | succ k ih =>
  intro l
  cases l with
  | nil=>simp [lT]
  | cons e r =>
   have:=ih r
   unfold lT
   split
   ·omega
   ·omega
theorem uK(evs:List Ev)(i c:Int):ah evs i c≤15:=by
 unfold ah;split
 ·omega
 ·exact aoG _ _ _
theorem P8 {c:Int} {l:List Ev} {k j:Nat} (hj:j<l.length)(h:(jU l[j]|| hasB c l[j].stops)=true):lT c k (l.drop j)=0:=by
 rw [zL hj]
 cases k with
 | zero=>rfl
 | succ k=>unfold lT;rw [if_pos h]
theorem P7 {c:Int} {l:List Ev} {k j:Nat} (hj:j<l.length) (h:(jU l[j]|| hasB c l[j].stops)=false):lT c (k+1) (l.drop j)=lT c k (l.drop (j+1))+1:=by
 rw [zL hj,lT,if_neg (by rw [h];decide)]
theorem Yu {size:Nat}:∀ {l:List (List Value)},(∀ r∈l,r.length=size)→∀ k r,l[k]?=some r→∀ j u,r[j]?=some u→l.flatten[k*size+j]?=some u:=by
 intro l
 induction l with
 | nil=>intro _ k r h;simp at h
 | cons x t ih =>
  intro hl k r hr j u hu
  have hx:x.length=size:=hl x (by simp)
  cases k with
  | zero =>
   obtain rfl:x=r:=by simpa using hr
   have hj:j<x.length:=(List.getElem?_eq_some_iff.1 hu).1
   rw [BD,zI,lW,qJ hj];exact hu
  | succ k =>
   have:=ih (fun r h=>hl r EC) k r (by simpa using hr) j u hu
   rw [BD,o8 (by rw [hx,Bv];omega),hx,Bv]
   rw [show k*size+size+j-size=k*size+j from by omega]
   exact this
theorem uG {size:Nat}:∀ {l:List (List Value)},(∀ r∈l,r.length=size)→l.flatten.length=l.length*size:=by
 intro l
 induction l with
 | nil=>intro _;simp
 | cons x t ih =>
  intro hl
  rw [BD,aY,hl x (by simp),ih (fun r h=>hl r EC),iw,Bv];omega
theorem UM {size:Nat}:∀ {l:List (List Value)},(∀ r∈l,r.length=size)→∀ i u,l.flatten[i]?=some u→∃ k r j,l[k]?=some r∧r[j]?=some u∧i=k*size+j:=by
 intro l
 induction l with
 | nil=>intro _ i u h;simp at h
 | cons x t ih =>
  intro hl i u h
  have hx:x.length=size:=hl x (by simp)
  rw [BD] at h
  by_cases e:i<x.length
  ·rw [qJ e] at h
   exact⟨0,x,i,by simp,h,by simp⟩
  ·rw [o8 (by omega)] at h
   obtain⟨k,r,j,a,b,c⟩:=ih (fun r h=>hl r EC) _ _ h
   exact⟨k+1,r,j,by simpa using a,b,by rw [Bv];omega⟩
section
variable {P:Program} {w w':World} {B B' size:Nat} {A:Option Addr} {l:List (List Value)}
theorem FC {base:Nat} {e:TypeId} {v:Value} {n:Nat} {xs:List Value} (h:w.ownsRow base e size v n xs) (hl:∀ r∈l,r.length=size) (hxs:xs=l.flatten) (hn:n=l.length) :
  ∃ A c,v=.slice A n c∧Rd w w.heap.size size A l∧(∀ ad,A=some ad→v.ownBlock=some ad.block∧base≤ad.block)∧n≤c:=by
 rcases h.2 with⟨rfl,h0⟩|⟨g,cap,cur,rfl,hb,hh,hnc,hcm,hcs,ht⟩
 ·subst h0
  have hnil:l=[]:=oN hn.symm
  subst hnil
  exact ⟨none,0,rfl,Rd.none_,(fun ad h=>by cases h),bJ _⟩
 ·refine ⟨some ⟨g,0,none⟩,cap,rfl,fun hpos=>⟨⟨g,0,none⟩,rfl,?_,fun k r hr j u hu=>?_⟩,(fun ad h=>by injection h with h;subst h;exact ⟨rfl,hb⟩),hnc⟩
  ·show g<w.heap.size
   rcases wW g w.heap.size with hlt|hge
   ·exact hlt
   ·rw [F9 hge] at hh;cases hh
  ·have h1:=Yu hl k r hr j u hu
   rw [← hxs,← ht] at h1
   rw [NM,cell_of_row w g _ cur e (0,0) hh]
   rw [List.getElem?_take] at h1
   split at h1
   ·simpa using h1
   ·cases h1
theorem Bj (base:Nat) (t ty e:TypeId) (i:TypeInfo) (z:Value) (size bytes:Nat) (ht:P.underlying t=some (.slice e)) (hi:P.info? e=some i) (hz:i.zero=some z)
  (hsize:i.size=size) (hby:i.bytes=bytes) (hzs:z.cells.size=size) (hsz:0<size)
  (v:Value) (n:Nat) (xs:List Value) (hown:w.ownsRow base e size v n xs)
  (c:Nat) (hr:Rd w B size A l) (hl:∀ r∈l,r.length=size) (h1:∀ r∈l,∀ u∈r,u.oneCell'=true)
  (h63:n+l.length≤maxLen) (hbytes:(n+l.length)*bytes≤140737488355328) (hbase:base≤w.heap.size) :
  ∃ v' w',(Builtin.append_ #[t,t] ty #[v,.slice A l.length c]).run P w=.ok v' w'∧w'.ownsRow base e size v' (n+l.length) (xs++l.flatten)∧w.grownBy w' v.ownBlock ∧
   (v'.ownBlock=v.ownBlock∨v'.ownBlock=some w.heap.size):=by
 rcases A with _|ad
 ·have hm:l=[]:=by
   rcases Tq l.length with h0|h0
   ·exact oN h0
   ·obtain ⟨ad,h,_⟩:=hr h0
    cases h
  subst hm
  refine ⟨v,w,?_,by simpa using hown,World.grownBy.refl w _,.inl rfl⟩
  rcases hown.2 with⟨rfl,rfl⟩|⟨g,cap,cur,rfl,_,_,hnc,_⟩
  ·simp [Builtin.append_,run_underlying ht,sizeOf,typeInfo,hi,Builtin.lenOf,Builtin.firstCells]
  ·simp [Builtin.append_,run_underlying ht,sizeOf,typeInfo,hi,Builtin.lenOf,Builtin.firstCells,hnc,storeCells]
 ·have hcells:∀ j u,l.flatten[j]?=some u→w.cell? (ad.add j)=some u:=by
   intro j u hu
   obtain ⟨k,r,q,hk,hq,rfl⟩:=UM hl j u hu
   have hpos:0<l.length:=by have:=(List.getElem?_eq_some_iff.1 hk).1;omega
   obtain ⟨ad',h,_,hc⟩:=hr hpos
   injection h with h
   subst h
   exact hc k r hk q u hq
  obtain ⟨v',w',hrun,h2,h3,_,h5⟩:=run_append_own_at (P:=P) w base t ty e i z size bytes ht hi hz hsize hby hzs hsz v n xs hown ad l.length c l.flatten (uG hl) hcells
   (fun u hu=>by obtain ⟨r,hr1,hr2⟩:=List.mem_flatten.1 hu;exact h1 r hr1 u hr2) h63 hbytes hbase
  exact ⟨v',w',hrun,h2,h3,h5⟩
theorem Ot {o:Oper} {a:Act} {K:Act→World→Prop} {Q:Exit→Act→World→Prop} (s x:Operand) (t:TypeId)
  (ho:o.op=.call { callee:=.builtin .append,args:=#[s,x],argTypes:=#[t,t] })
  (e:TypeId) (i:TypeInfo) (z:Value) (size bytes:Nat) (ht:P.underlying t=some (.slice e)) (hi:P.info? e=some i) (hz:i.zero=some z)
  (hsize:i.size=size) (hby:i.bytes=bytes) (hzs:z.cells.size=size) (hsz:0<size)
  (g:Nat) (hs:a.eval s=.slice (some ⟨g,0,none⟩) 0 0) (hown:nN w g e #[])
  (B:Nat) (A:Option Addr) (l:List (List Value)) (m c:Nat) (hx:a.eval x=.slice A m c) (hm:m=l.length) (hr:Rd w B size A l) (hl:∀ r∈l,r.length=size) (h1:∀ r∈l,∀ u∈r,u.oneCell'=true)
  (h63:l.length≤maxLen) (hbytes:l.length*bytes≤140737488355328)
  (h:∀ A' c' w',Rd w' w'.heap.size size A' l→w.grownBy w' (some g)→((∀ ad,A'=some ad→(ad.block=g∨ad.block=w.heap.size)∧ad.block<w'.heap.size)∧m≤c')→K (a.put o.dst (.slice A' m c')) w'):o.wp P a w K Q:=by
 subst hm
 have hO:w.ownsRow g e size (.slice (some ⟨g,0,none⟩) 0 0) 0 []:=⟨by simp,.inr ⟨g,0,#[],rfl,bJ _,hown,bJ _,by simp,by simp,by simp⟩⟩
 obtain ⟨v',w',hrun,h2,h3,h4⟩:=Bj (P:=P) (A:=A) (l:=l) g t o.type e i z size bytes ht hi hz hsize hby hzs hsz _ 0 [] hO c hr hl h1 (by omega) (by simpa using hbytes) (Nat.le_of_lt hown.lt)
 obtain ⟨A',c',hv,hrd,hat,hcap⟩:=FC h2 hl (by simp) (by omega)
 rw [lW] at hv
 subst hv
 refine lJ ?_
 simp only [ho,resolve,invoke,builtin,Sem.run_bind,Sem.run_pure,Result.andThen_ok,List.map_toArray,wR,List.map_nil,hs,hx,hrun]
 refine h A' c' w' hrd h3 ⟨fun ad had=>?_,by omega⟩
 have:=(hat ad had).1
 have hlt:ad.block<w'.heap.size:=by
  rcases h2.2 with⟨h,_⟩|⟨g',cap,cur,h,_,hh,_⟩
  ·rw [h] at this;simp [Value.ownBlock] at this
  ·rw [h] at this
   obtain rfl:g'=ad.block:=by simpa [Value.ownBlock] using this
   rcases wW ad.block w'.heap.size with hlt|hge
   ·exact hlt
   ·rw [F9 hge] at hh;cases hh
 rw [this] at h4
 exact ⟨by simpa [Value.ownBlock] using h4,hlt⟩
theorem yw {ops:Array Oper} {o:Oper} {a:Act} {K:Act→World→Prop} {Q:Exit→Act→World→Prop} {E:Prop} (hgd:o.guard=none) (s x:Operand) (t:TypeId)
  (ho:o.op=.call { callee:=.builtin .append,args:=#[s,x],argTypes:=#[t,t] })
  (e:TypeId) (i:TypeInfo) (z:Value) (size bytes:Nat) (ht:P.underlying t=some (.slice e)) (hi:P.info? e=some i) (hz:i.zero=some z)
  (hsize:i.size=size) (hby:i.bytes=bytes) (hzs:z.cells.size=size) (hsz:0<size)
  (g:Nat) (hs:a.eval s=.slice (some ⟨g,0,none⟩) 0 0) (hown:nN w g e #[])
  (B:Nat) (A:Option Addr) (l:List (List Value)) (m c:Nat) (hx:a.eval x=.slice A m c) (hm:m=l.length) (hr:Rd w B size A l) (hl:∀ r∈l,r.length=size) (h1:∀ r∈l,∀ u∈r,u.oneCell'=true)
  (h63:l.length≤maxLen) (hbytes:l.length*bytes≤140737488355328)
  (h:∀ A' c' w',Rd w' w'.heap.size size A' l→w.grownBy w' (some g)→((∀ ad,A'=some ad→(ad.block=g∨ad.block=w.heap.size)∧ad.block<w'.heap.size)∧m≤c')→K (a.put o.dst (.slice A' m c')) w') :
  if Region.wanted o (yielded ops a.tmps)=true then Oper.wp P o a w K Q else E:=by
 have hw:Region.wanted o (yielded ops a.tmps)=true:=by simp [Region.wanted,hgd]
 rw [if_pos hw]
 exact Ot s x t ho e i z size bytes ht hi hz hsize hby hzs hsz g hs hown B A l m c hx hm hr hl h1 h63 hbytes h
end
theorem Ur {w:World} {g:Nat} {t:TypeId} {cs:Array Value} (h:g=w.heap.size):nN (w.alloc (.cells cs t)) g t cs:=by subst h;exact nN.new _ _ _
theorem adr {w w':World} {g:Nat} {t:TypeId} {cs:Array Value} {row:Option Nat} (h:nN w g t cs)(hb:w.grownBy w' row)(hg:some g≠row):nN w' g t cs:=(hb.block g h.lt hg).trans h
theorem ads {w:World} {b n:Nat} {t:TypeId} {cs:Array Value} (h:nN w b t cs)(hn:n≤cs.size):w.there b 0 n:=fun j hj=>by
 rw [lW,h.cell,h.frozen]
 exact⟨by rw [uh (by omega)];rfl,rfl⟩
theorem there_drew {w:World} {b o n:Nat} (h:w.there b o n):w.drew.there b o n:=h
theorem zG {w w':World} {b o n g:Nat} (h:w.there b o n)(hg:w.grownBy w' (some g))(hne:b≠g):w'.there b o n:=fun j hj=>by
 obtain⟨h1,h2⟩:=h j hj
 obtain⟨u,hu⟩:=Option.isSome_iff_exists.1 h1
 have hb:=World.block_lt_of_cell? w _ hu
 have e:=hg.block b hb (by simpa using hne)
 exact⟨by rw [World.cell?_of_block (a:=⟨b,o+j,none⟩) e];exact h1,by rw [World.frozen?_of_block (a:=⟨b,o+j,none⟩) e];exact h2⟩
theorem Oq {w:World} {b o n:Nat} (h:w.there b o n)(p:Addr)(u:Value):(w.setCell p u).there b o n:=fun j hj=>by
 obtain⟨h1,h2⟩:=h j hj
 refine⟨?_,by rw [World.frozen?_setCell];exact h2⟩
 obtain⟨v,hv⟩:=Option.isSome_iff_exists.1 h1
 by_cases e:p=(⟨b,o+j,none⟩:Addr)
 ·subst e;rw [World.cell?_setCell_same _ _ _ hv];rfl
 ·rw [World.cell?_setCell_other _ _ _ _ e,hv];rfl
theorem ajg {w:World} {b:Nat} (h:w.there b 0 2):∃ u0 u1,w.cell? ⟨b,0,none⟩=some u0∧w.cell? ⟨b,1,none⟩=some u1∧w.frozen? ⟨b,0,none⟩=false∧w.frozen? ⟨b,1,none⟩=false:=by
 obtain ⟨a1,a2⟩:=h 0 au
 obtain ⟨b1,b2⟩:=h 1 au
 obtain ⟨u0,h0⟩:=Option.isSome_iff_exists.1 a1
 obtain ⟨u1,h1⟩:=Option.isSome_iff_exists.1 b1
 exact ⟨u0,u1,h0,h1,a2,b2⟩
def qO(b:Nat)(w w':World):Prop:=b<w.heap.size∧w.heap.size≤w'.heap.size∧w'.heap[b]?=w.heap[b]?
theorem qO.refl {b:Nat} {w:World} (h:b<w.heap.size):qO b w w:=⟨h,bJ _,rfl⟩
theorem qO.drew {b:Nat} {w w':World} (h:qO b w w'):qO b w w'.drew:=h
theorem qO.alloc {b:Nat} {w w':World} (h:qO b w w')(o:Obj):qO b w (w'.alloc o) :=
 ⟨h.1,jV h.2.1 (by simp),(Below.heap_alloc _ _ _ (lH h.1 h.2.1)).trans h.2.2⟩
theorem qO.grown {b g:Nat} {w w' w'':World} (h:qO b w w') (hg:w'.grownBy w'' (some g)) (hne:b≠g):qO b w w'' :=
 ⟨h.1,jV h.2.1 hg.size,(hg.block b (lH h.1 h.2.1) (by simpa using hne)).trans h.2.2⟩
theorem qO.setCell {b:Nat} {w w':World} (h:qO b w w') {p:Addr} (hne:b≠p.block)(u:Value):qO b w (w'.setCell p u) :=
 ⟨h.1,by simpa [World.setCell]using h.2.1,(Below.heap_setCell _ _ _ _ hne).trans h.2.2⟩
theorem adq {a w w':World} {g:Nat} (h:Below a.heap.size a w)(hg:w.grownBy w' (some g))(hr:a.heap.size≤g):Below a.heap.size a w':=h.grown hg h.size (fun k e=>by injection e with e;omega)
theorem Rd.stay {w w':World} {size:Nat} {A:Option Addr} {l:List (List Value)} (h:Rd w w.heap.size size A l)(hs:∀ ad,A=some ad→ad.block<w.heap.size→qO ad.block w w'):Rd w' w'.heap.size size A l:=fun hn=>by
 obtain⟨ad,e,hb,hc⟩:=h hn
 have s:=hs ad e hb
 exact⟨ad,e,lH hb s.2.1,fun k r hr j u hu=>(World.cell?_of_block (by rw [bW];exact s.2.2)).trans (hc k r hr j u hu)⟩
inductive AV where
 | sc (v:Value)
 | ag (l:List AV)
 | tu (l:List AV)
 | ls (n:Nat)(rows:List (List AV))
 | ow (T:TypeId)(n:Nat)(rows:List (List AV))
 | pr (cells:List AV)
 | pt (k i j:Nat)
 | sl (k:Nat)
 | fn (f:FuncId)(caps:List AV)
abbrev View:=Addr→Option Value
inductive RP (F:View):AV→Value→Prop
 | sc (v:Value):RP F (.sc v) v
 | ag (l:List AV) (cs:Array Value):cs.size=l.length→(∀ (i:Nat) av u,l[i]?=some av→cs[i]?=some u→RP F av u)→RP F (.ag l) (.agg cs)
 | tu (l:List AV) (cs:Array Value):cs.size=l.length→(∀ (i:Nat) av u,l[i]?=some av→cs[i]?=some u→RP F av u)→RP F (.tu l) (.tuple cs)
 | ls (n:Nat) (rows:List (List AV)) (A:Option Addr) (cap:Nat) (ad:Addr) (u:Nat→Nat→Value):rows.length≤cap→(∀ r∈rows,r.length=n)→(0<rows.length→A=some ad) →
   (∀ (i:Nat) r (j:Nat) av,rows[i]?=some r→r[j]?=some av→F (ad.add (i*n+j))=some (u i j)∧(u i j).oneCell'=true) →
   (∀ (i:Nat) r (j:Nat) av,rows[i]?=some r→r[j]?=some av→RP F av (u i j))→RP F (.ls n rows) (.slice A rows.length cap)
 | pr (cells:List AV) (p:Addr) (u:Nat→Value):(∀ (j:Nat) av,cells[j]?=some av→F (p.add j)=some (u j)∧(u j).oneCell'=true) →
   (∀ (j:Nat) av,cells[j]?=some av→RP F av (u j))→RP F (.pr cells) (.pointer (some p))
 | fn (f:FuncId) (l:List AV) (cs:Array Value):cs.size=l.length→(∀ (i:Nat) av u,l[i]?=some av→cs[i]?=some u→RP F av u)→RP F (.fn f l) (.func (.func f) #[] cs)
def View.le(F F':View):Prop:=∀ p u,F p=some u→F' p=some u
theorem RP.mono {F F':View} (h:F.le F') {av:AV} {v:Value} (r:RP F av v):RP F' av v:=by
 induction r with
 | sc v=>exact .sc v
 | ag l cs h1 _ ih=>exact .ag l cs h1 ih
 | tu l cs h1 _ ih=>exact .tu l cs h1 ih
 | ls n rows A cap ad u h0 h1 h2 h3 _ ih=>exact .ls n rows A cap ad u h0 h1 h2 (fun i r j av a b=>⟨h _ _ (h3 i r j av a b).1,(h3 i r j av a b).2⟩) ih
 | pr cells p u h1 _ ih=>exact .pr cells p u (fun j av a=>⟨h _ _ (h1 j av a).1,(h1 j av a).2⟩) ih
 | fn f l cs h1 _ ih=>exact .fn f l cs h1 ih
structure Gh where
 F:View
 b:Nat→Nat
 n:Nat→Nat
 h:Nat→Value
 fp:Nat→Nat→Prop
inductive R (G:Gh):AV→Value→Prop
 | pu (av:AV) (v:Value):RP G.F av v→R G av v
 | pt (k i j:Nat) (p:Addr):p.block=G.b k→p.off=i*G.n k+j→p.spot=none→R G (.pt k i j) (.pointer (some p))
 | sl (k:Nat):(G.h k).oneCell'=true→R G (.sl k) (G.h k)
 | ag (l:List AV) (cs:Array Value):cs.size=l.length→(∀ (i:Nat) av u,l[i]?=some av→cs[i]?=some u→R G av u)→R G (.ag l) (.agg cs)
 | tu (l:List AV) (cs:Array Value):cs.size=l.length→(∀ (i:Nat) av u,l[i]?=some av→cs[i]?=some u→R G av u)→R G (.tu l) (.tuple cs)
 | fn (f:FuncId) (l:List AV) (cs:Array Value):cs.size=l.length→(∀ (i:Nat) av u,l[i]?=some av→cs[i]?=some u→R G av u)→R G (.fn f l) (.func (.func f) #[] cs)
inductive Bd (nk:Nat):AV→Prop
 | sc (v:Value):Bd nk (.sc v)
 | ls (n:Nat)(rows:List (List AV)):Bd nk (.ls n rows)
 | ow (T:TypeId)(n:Nat)(rows:List (List AV)):Bd nk (.ow T n rows)
 | pr (cells:List AV):Bd nk (.pr cells)
 | pt (k i j:Nat):k<nk→Bd nk (.pt k i j)
 | sl (k:Nat):k<nk→Bd nk (.sl k)
 | ag (l:List AV):(∀ (i:Nat)x,l[i]?=some x→Bd nk x)→Bd nk (.ag l)
 | tu (l:List AV):(∀ (i:Nat)x,l[i]?=some x→Bd nk x)→Bd nk (.tu l)
 | fn (f:FuncId)(l:List AV):(∀ (i:Nat)x,l[i]?=some x→Bd nk x)→Bd nk (.fn f l)
theorem Bd.mono {nk dh:Nat} (h:nk≤dh) {av:AV} (b:Bd nk av):Bd dh av:=by
 induction b with
 | sc v=>exact .sc v
 | ls n rows=>exact .ls n rows
 | ow T n rows=>exact .ow T n rows
 | pr cells=>exact .pr cells
 | pt k i j hk=>exact .pt k i j au
 | sl k hk=>exact .sl k au
 | ag l _ ih=>exact .ag l ih
 | tu l _ ih=>exact .tu l ih
 | fn f l _ ih=>exact .fn f l ih
structure Gh.le(G G':Gh)(nk:Nat):Prop where
 F:G.F.le G'.F
 b:∀ k,k<nk→G'.b k=G.b k
 n:∀ k,k<nk→G'.n k=G.n k
 h:∀ k,k<nk→G'.h k=G.h k
theorem Gh.le.refl(G:Gh)(nk:Nat):G.le G nk:=⟨fun _ _ h=>h,fun _ _=>rfl,fun _ _=>rfl,fun _ _=>rfl⟩
theorem R.mono {G G':Gh} {nk:Nat} (h:G.le G' nk) {av:AV} {v:Value} (r:R G av v) (b:Bd nk av):R G' av v:=by
 induction r with
 | pu av v hp=>exact .pu _ _ (hp.mono h.F)
 | pt k i j p h1 h2 h3 =>
  cases b with
  | pt _ _ _ hk=>exact .pt k i j p (by rw [h.b k hk];exact h1) (by rw [h.n k hk];exact h2) h3
 | sl k h1 =>
  cases b with
  | sl _ hk=>rw [← h.h k hk];exact .sl k (by rw [h.h k hk];exact h1)
 | ag l cs h1 _ ih =>
  cases b with
  | ag _ hb=>exact .ag l cs h1 fun i av u a c=>ih i av u a c (hb i av a)
 | tu l cs h1 _ ih =>
  cases b with
  | tu _ hb=>exact .tu l cs h1 fun i av u a c=>ih i av u a c (hb i av a)
 | fn f l cs h1 _ ih =>
  cases b with
  | fn _ _ hb=>exact .fn f l cs h1 fun i av u a c=>ih i av u a c (hb i av a)
theorem RP.fB {F:View} {v u:Value} (r:RP F (.sc v) u):u=v:=by cases r;rfl
theorem R.fB {G:Gh} {v u:Value} (r:R G (.sc v) u):u=v:=by cases r with|pu _ _ h=>exact h.fB
theorem R.D7 {G:Gh} {n:Nat} {rows:List (List AV)} {u:Value} (r:R G (.ls n rows) u):RP G.F (.ls n rows) u:=by cases r with|pu _ _ h=>exact h
theorem R.oz {G:Gh} {cells:List AV} {u:Value} (r:R G (.pr cells) u):RP G.F (.pr cells) u:=by cases r with|pu _ _ h=>exact h
theorem RP.Vu {F:View} {T n:Nat} {rows:List (List AV)} {u:Value} (r:RP F (.ow T n rows) u):False:=by cases r
theorem R.Vu {G:Gh} {T n:Nat} {rows:List (List AV)} {u:Value} (r:R G (.ow T n rows) u):False:=by cases r with|pu _ _ h=>exact h.Vu
theorem R.AX {G:Gh} {l:List AV} {u:Value} (r:R G (.ag l) u):∃ cs:Array Value,u=.agg cs∧cs.size=l.length∧∀ (i:Nat) av u,l[i]?=some av→cs[i]?=some u→R G av u:=by
 cases r with
 | pu _ _ h=>cases h with|ag _ cs h1 h2=>exact⟨cs,rfl,h1,fun i av u a b=>.pu _ _ (h2 i av u a b)⟩
 | ag _ cs h1 h2=>exact⟨cs,rfl,h1,h2⟩
theorem R.Qi {G:Gh} {l:List AV} {u:Value} (r:R G (.tu l) u):∃ cs:Array Value,u=.tuple cs∧cs.size=l.length∧∀ (i:Nat) av u,l[i]?=some av→cs[i]?=some u→R G av u:=by
 cases r with
 | pu _ _ h=>cases h with|tu _ cs h1 h2=>exact⟨cs,rfl,h1,fun i av u a b=>.pu _ _ (h2 i av u a b)⟩
 | tu _ cs h1 h2=>exact⟨cs,rfl,h1,h2⟩
theorem R.A8 {G:Gh} {f:FuncId} {l:List AV} {u:Value} (r:R G (.fn f l) u):∃ cs:Array Value,u=.func (.func f) #[] cs∧cs.size=l.length∧∀ (i:Nat) av u,l[i]?=some av→cs[i]?=some u→R G av u:=by
 cases r with
 | pu _ _ h=>cases h with|fn _ _ cs h1 h2=>exact⟨cs,rfl,h1,fun i av u a b=>.pu _ _ (h2 i av u a b)⟩
 | fn _ _ cs h1 h2=>exact⟨cs,rfl,h1,h2⟩
theorem R.lV {G:Gh} {k i j:Nat} {u:Value} (r:R G (.pt k i j) u):∃ p:Addr,u=.pointer (some p)∧p.block=G.b k∧p.off=i*G.n k+j∧p.spot=none:=by
 cases r with
 | pu _ _ h=>cases h
 | pt _ _ _ p a b c=>exact⟨p,rfl,a,b,c⟩
theorem R.nG {G:Gh} {k:Nat} {u:Value} (r:R G (.sl k) u):u=G.h k∧u.oneCell'=true:=by
 cases r with
 | pu _ _ h=>cases h
 | sl _ h=>exact⟨rfl,h⟩
theorem RP.Bc {F:View} {n:Nat} {rows:List (List AV)} {v:Value} (r:RP F (.ls n rows) v):∃ A cap ad,∃ u:Nat→Nat→Value,v=.slice A rows.length cap∧(∀ r∈rows,r.length=n)∧(0<rows.length→A=some ad) ∧
  (∀ (i:Nat) r (j:Nat) av,rows[i]?=some r→r[j]?=some av→F (ad.add (i*n+j))=some (u i j)∧(u i j).oneCell'=true)∧(∀ (i:Nat) r (j:Nat) av,rows[i]?=some r→r[j]?=some av→RP F av (u i j))∧rows.length≤cap:=by
 cases r with|ls _ _ A cap ad u h0 h1 h2 h3 h4=>exact⟨A,cap,ad,u,rfl,h1,h2,h3,h4,h0⟩
theorem RP.oz {F:View} {cells:List AV} {v:Value} (r:RP F (.pr cells) v):∃ p:Addr,∃ u:Nat→Value,v=.pointer (some p)∧(∀ (j:Nat) av,cells[j]?=some av→F (p.add j)=some (u j)∧(u j).oneCell'=true) ∧
   (∀ (j:Nat) av,cells[j]?=some av→RP F av (u j)):=by
 cases r with|pr _ p u h1 h2=>exact⟨p,u,rfl,h1,h2⟩
inductive OW (F:View)(w:World):AV→Value→(Nat→Prop)→Prop
 | pu (av:AV)(v:Value)(φ:Nat→Prop):RP F av v→OW F w av v φ
 | ow (T n:Nat)(rows:List (List AV))(v:Value)(φ:Nat→Prop)(vs:List (List Value))(Φ:Nat→Nat→Nat→Prop):(∀ r∈rows,r.length=n)→w.ownsRow 0 T n v vs.length vs.flatten→vs.length=rows.length→(∀ r∈vs,∀ u∈r,u.oneCell'=true) →
   (∀ g,v.ownBlock=some g→φ g)→(∀ i j x,Φ i j x→φ x∧v.ownBlock≠some x)→(∀ i j i' j' x,Φ i j x→Φ i' j' x→i=i'∧j=j') →
   (∀ (i:Nat) r r',rows[i]?=some r→vs[i]?=some r'→r'.length=r.length) →
   (∀ (i:Nat) r r' (j:Nat) av u,rows[i]?=some r→vs[i]?=some r'→r[j]?=some av→r'[j]?=some u→OW F w av u (Φ i j))→OW F w (.ow T n rows) v φ
def CR(G:Gh)(w:World)(φ:Nat→Prop)(av:AV)(u:Value):Prop:=R G av u∨OW G.F w av u φ
def dH (w:World)(T n:Nat)(rows:List (List AV))(v:Value)(φ:Nat→Prop)(X:Nat→Nat→(Nat→Prop)→AV→Value→Prop):Prop :=
 (∀ r∈rows,r.length=n)∧∃ (vs:List (List Value))(Φ:Nat→Nat→Nat→Prop),w.ownsRow 0 T n v vs.length vs.flatten∧vs.length=rows.length∧(∀ r∈vs,∀ u∈r,u.oneCell'=true) ∧
   (∀ g,v.ownBlock=some g→φ g)∧(∀ i j x,Φ i j x→φ x∧v.ownBlock≠some x)∧(∀ i j i' j' x,Φ i j x→Φ i' j' x→i=i'∧j=j') ∧
   (∀ (i:Nat) r r',rows[i]?=some r→vs[i]?=some r'→r'.length=r.length) ∧
   (∀ (i:Nat) r r' (j:Nat) av u,rows[i]?=some r→vs[i]?=some r'→r[j]?=some av→r'[j]?=some u→X i j (Φ i j) av u)
def XP(F:View):Nat→Nat→(Nat→Prop)→AV→Value→Prop:=fun _ _ _ av u=>RP F av u
def XO(F:View)(w:World):Nat→Nat→(Nat→Prop)→AV→Value→Prop:=fun _ _ φ av u=>OW F w av u φ
def XH(G:Gh)(hi hj:Nat)(x:AV):Nat→Nat→(Nat→Prop)→AV→Value→Prop:=fun i j _ av u=>if i=hi∧j=hj then R G x u else RP G.F av u
def XQ(G:Gh)(w:World)(hi hj:Nat)(x:AV):Nat→Nat→(Nat→Prop)→AV→Value→Prop:=fun i j φ av u=>if i=hi∧j=hj then R G x u else OW G.F w av u φ
theorem dH.ow {F:View} {w:World} {T n:Nat} {rows:List (List AV)} {v:Value} {φ:Nat→Prop} (h:dH w T n rows v φ (XO F w)):OW F w (.ow T n rows) v φ:=by
 obtain⟨h1,vs,Φ,h2,h3,h4,h5,h6,h7,h8,h9⟩:=h
 exact .ow T n rows v φ vs Φ h1 h2 h3 h4 h5 h6 h7 h8 h9
theorem OW.row {F:View} {w:World} {T n:Nat} {rows:List (List AV)} {v:Value} {φ:Nat→Prop} (h:OW F w (.ow T n rows) v φ):dH w T n rows v φ (XO F w):=by
 cases h with
 | pu _ _ _ r=>exact r.Vu.elim
 | ow _ _ _ _ _ vs Φ h1 h2 h3 h4 h5 h6 h7 h8 h9=>exact⟨h1,vs,Φ,h2,h3,h4,h5,h6,h7,h8,h9⟩
theorem DZ {w w':World} {B e size n:Nat} {v:Value} {xs:List Value} (h:w.ownsRow B e size v n xs) (hk:∀ g,v.ownBlock=some g→w'.heap[g]?=w.heap[g]?):w'.ownsRow B e size v n xs:=by
 refine ⟨h.1,?_⟩
 rcases h.2 with x|⟨g,cap,cur,e,hb,hh,hr⟩
 ·exact .inl x
 ·exact .inr ⟨g,cap,cur,e,hb,(hk g (by rw [e];rfl)).trans hh,hr⟩
theorem OW.keep {F F':View} {w w':World} {av:AV} {v:Value} {φ:Nat→Prop} (hF:F.le F')(h:OW F w av v φ):(∀ x,φ x→w'.heap[x]?=w.heap[x]?)→OW F' w' av v φ:=by
 induction h with
 | pu av v φ r=>exact fun _=>.pu av v φ (r.mono hF)
 | ow T n rows v φ vs Φ h1 h2 h3 h4 h5 h6 h7 h8 _ ih =>
  intro hw
  exact .ow T n rows v φ vs Φ h1 (DZ h2 fun g hg=>hw g (h5 g hg)) h3 h4 h5 h6 h7 h8 fun i r r' j av u a b c d=>ih i r r' j av u a b c d fun x hx=>hw x (h6 i j x hx).1
theorem OW.wide {F:View} {w:World} {av:AV} {v:Value} {φ φ':Nat→Prop} (h:OW F w av v φ) (hp:∀ x,φ x→φ' x):OW F w av v φ':=by
 cases h with
 | pu _ _ _ r=>exact .pu av v φ' r
 | ow T n rows _ _ vs Φ h1 h2 h3 h4 h5 h6 h7 h8 h9=>exact .ow T n rows v φ' vs Φ h1 h2 h3 h4 (fun g hg=>hp g (h5 g hg)) (fun i j x hx=>⟨hp x (h6 i j x hx).1,(h6 i j x hx).2⟩) h7 h8 h9
theorem CR.keep {G G':Gh} {w w':World} {nk:Nat} {φ:Nat→Prop} {av:AV} {v:Value} (h:CR G w φ av v)(hle:G.le G' nk)(hb:Bd nk av)(hw:∀ x,φ x→w'.heap[x]?=w.heap[x]?):CR G' w' φ av v :=
 h.elim (fun r=>.inl (r.mono hle hb)) fun o=>.inr (o.keep hle.F hw)
def AV.own:AV→Bool
 | .ow _ _ _=>true
 | _=>false
theorem CR.r {G:Gh} {w:World} {φ:Nat→Prop} {av:AV} {v:Value} (h:CR G w φ av v)(ho:av.own=false):R G av v:=by
 rcases h with r|o
 ·exact r
 ·cases o with
  | pu _ _ _ r=>exact .pu _ _ r
  | ow=>cases ho
theorem OW.p {F:View} {w:World} {φ:Nat→Prop} {av:AV} {v:Value} (h:OW F w av v φ)(ho:av.own=false):RP F av v:=by
 cases h with
 | pu _ _ _ r=>exact r
 | ow=>cases ho
theorem CR.wide {G:Gh} {w:World} {φ φ':Nat→Prop} {av:AV} {v:Value} (h:CR G w φ av v)(hp:∀ x,φ x→φ' x):CR G w φ' av v:=h.elim .inl fun o=>.inr (o.wide hp)
def Ji (w:World) (T e b:Nat) (φ:Nat→Prop) (l:List UInt8):Prop :=
 ∃ p v,(p=.pointer none∨p=.pointer (some ⟨b,0,none⟩))∧w.heap[b]?=some (.cells #[p,v] T (0,0))∧w.ownsRowF 0 e 1 v l.length (Lib.byteCells l)∧∀ g,v.ownBlock=some g→φ g∧g≠b
structure Opq where
 Q:World→Nat→Value→(Nat→Prop)→Prop
 st:∀ w w' b v φ,(∀ x,φ x→w'.heap[x]?=w.heap[x]?)→Q w b v φ→Q w' b v φ
inductive AO where
 | box (T:TypeId)(cells:List AV)
 | row (T:TypeId)(n:Nat)(rows:List (List AV))
 | jM (T:TypeId)(n:Nat)(rows:List (List AV))
 | EF (T:TypeId)(n:Nat)(rows:List (List AV))(hi hj:Nat)(x:AV)
 | oW (T:TypeId)(n:Nat)(rows:List (List AV))(hi hj:Nat)(x:AV)
 | xq (T e:TypeId)(l:List UInt8)
 | opq (q:Opq)
def RL(F:View)(l:List AV)(vs:List Value):Prop:=vs.length=l.length∧∀ (i:Nat)av u,l[i]?=some av→vs[i]?=some u→RP F av u
def auJ (w:World)(T b:Nat)(φ:Nat→Prop)(cells:List AV)(X:(Nat→Prop)→AV→Value→Prop):Prop :=
 ∃ (cs:Array Value)(Φ:Nat→Nat→Prop),nN w b T cs∧cs.size=cells.length∧(∀ i x,Φ i x→φ x∧x≠b)∧(∀ i i' x,Φ i x→Φ i' x→i=i')∧∀ (i:Nat) av u,cells[i]?=some av→cs[i]?=some u→X (Φ i) av u
def oU (G:Gh) (w:World) (k:Nat):AO→Prop
 | .box T cells=>G.fp k (G.b k)∧auJ w T (G.b k) (G.fp k) cells (CR G w)
 | .row T n rows=>G.n k=n∧(∀ g,(G.h k).ownBlock=some g→g=G.b k)∧dH w T n rows (G.h k) (G.fp k) (XP G.F)
 | .jM T n rows=>G.n k=n∧(∀ g,(G.h k).ownBlock=some g→g=G.b k)∧dH w T n rows (G.h k) (G.fp k) (XO G.F w)
 | .EF T n rows hi hj x=>G.n k=n∧(∀ g,(G.h k).ownBlock=some g→g=G.b k)∧dH w T n rows (G.h k) (G.fp k) (XH G hi hj x)
 | .oW T n rows hi hj x=>G.n k=n∧(∀ g,(G.h k).ownBlock=some g→g=G.b k)∧dH w T n rows (G.h k) (G.fp k) (XQ G w hi hj x)
 | .xq T e l=>G.fp k (G.b k)∧Ji w T e (G.b k) (G.fp k) l
 | .opq q=>q.Q w (G.b k) (G.h k) (G.fp k)
def AO.bd(nk:Nat):AO→Prop
 | .box _ cells=>∀ (i:Nat)av,cells[i]?=some av→Bd nk av
 | .row _ _ _=>True
 | .jM _ _ _=>True
 | .EF _ _ _ _ _ x=>Bd nk x
 | .oW _ _ _ _ _ x=>Bd nk x
 | .xq _ _ _=>True
 | .opq _=>True
def look {α:Type} (i:Nat):List (Nat×α)→Option α
 | []=>none
 | x::r=>bif Nat.beq i x.1 then some x.2 else look i r
structure Kept(S:Nat→Prop)(w w':World):Prop where
 os:w'.os=w.os
 tape:w'.tape=w.tape
 output:w'.output=w.output
 size:w.heap.size≤w'.heap.size
 block:∀ k,k<w.heap.size→¬ S k→w'.heap[k]?=w.heap[k]?
theorem Kept.refl(S:Nat→Prop)(w:World):Kept S w w:=⟨rfl,rfl,rfl,bJ _,fun _ _ _=>rfl⟩
theorem Kept.below {S:Nat→Prop} {w w':World} (h:Below w.heap.size w w'):Kept S w w':=⟨h.os,h.tape,h.output,h.size,fun i hi _=>h.block i hi⟩
theorem Kept.Xl {S:Nat→Prop} {w w':World} (h:Kept S w w')(hs:∀ x,¬ S x):Below w.heap.size w w':=⟨h.os,h.tape,h.output,h.size,fun i hi=>h.block i hi (hs i)⟩
theorem Kept.on {S S':Nat→Prop} {a b c:World} (h:Kept S a b)(k:Kept S' b c)(hs:∀ x,S' x→a.heap.size≤x∨S x):Kept S a c :=
 ⟨k.os.trans h.os,k.tape.trans h.tape,k.output.trans h.output,jV h.size k.size,fun i hi hn=>(k.block i (lH hi h.size) fun x=>(hs i x).elim (fun y=>by omega) hn).trans (h.block i hi hn)⟩
structure Cx where
 w0:World
 F0:View
 N:Nat
 fp:Nat→Prop
 np:Nat
 pg:Gh
 ds:List Deferred
def Cx.may(C:Cx)(x:Nat):Prop:=C.w0.heap.size≤x∨C.fp x
structure St where
 t:List (Nat×AV)
 M:List (Nat×AO)
 nk:Nat
structure Ok (C:Cx)(σ:St)(G:Gh)(a:Act)(w:World):Prop where
 sz:a.tmps.size=C.N
 df:a.defers=C.ds∧C.np≤σ.nk∧∀ k,k<C.np→G.b k=C.pg.b k∧G.n k=C.pg.n k∧G.h k=C.pg.h k
 tm:∀ i av,look i σ.t=some av→i<C.N∧Bd σ.nk av∧R G av (a.tmps.getD i undef)
 bel:Kept C.fp C.w0 w
 fw:∀ p u,G.F p=some u→w.cell? p=some u
 f0:C.F0.le G.F
 f1:∀ p u,G.F p=some u→C.F0 p=some u∨C.may p.block
 ob:∀ k o,look k σ.M=some o→k<σ.nk∧o.bd σ.nk∧oU G w k o
 my:∀ k o x,look k σ.M=some o→G.fp k x→C.may x∧x<w.heap.size
 dj:∀ k o k' o' x,look k σ.M=some o→look k' σ.M=some o'→G.fp k x→G.fp k' x→k=k'
 dF:∀ k o x p u,look k σ.M=some o→G.fp k x→G.F p=some u→p.block≠x
theorem aN {w:World} {p:Addr} {u:Value} (h:w.cell? p=some u):p.block<w.heap.size:=by
 rcases wW p.block w.heap.size with hlt|hge
 ·exact hlt
 ·simp [World.cell?,F9 hge]at h
theorem aA {α:Type} {i:Nat} {x:α} {r:List (Nat×α)}:look i ((i,x)::r)=some x:=by
 simp [look]
theorem aj {α:Type} {i j:Nat} {x:α} {r:List (Nat×α)} (h:i≠j):look i ((j,x)::r)=look i r:=by
 have:Nat.beq i j=false:=by cases hb:Nat.beq i j with
  | false=>rfl
  | true=>exact absurd (dW hb) h
 simp [look,this]
def St.ev (σ:St):Operand→Option AV
 | .tmp t=>look t σ.t
 | .const v=>some (.sc v)
 | .func f=>some (.sc (.func (.func f) #[] #[]))
 | .global g=>some (.sc (.pointer (some ⟨g,0,none⟩)))
def St.set(σ:St)(d:Option Tmp)(av:AV):St :=
 match d with
 | none=>σ
 | some d=>{ σ with t:=(d,av)::σ.t }
def St.put(σ:St)(d:Tmp)(av:AV):St:={ σ with t:=(d,av)::σ.t }
section
variable {P:Program} {C:Cx} {σ σ':St} {G G':Gh} {a:Act} {w w':World}
theorem Ok.nO (h:Ok C σ G a w) {x:Operand} {av:AV} (hx:σ.ev x=some av):Bd σ.nk av∧R G av (a.eval x):=by
 cases x with
 | tmp t=>exact⟨(h.tm t av hx).2.1,(h.tm t av hx).2.2⟩
 | const v=>cases hx;exact⟨.sc _,.pu _ _ (.sc _)⟩
 | func f=>cases hx;exact⟨.sc _,.pu _ _ (.sc _)⟩
 | global g=>cases hx;exact⟨.sc _,.pu _ _ (.sc _)⟩
theorem Ok.evs (h:Ok C σ G a w) {x:Operand} {v:Value} (hx:σ.ev x=some (.sc v)):a.eval x=v:=(h.nO hx).2.fB
theorem adT(ts:Array Value)(d i:Nat)(v:Value)(hd:d<ts.size):(ts.setIfInBounds d v).getD i undef=if d=i then v else ts.getD i undef:=by
 by_cases e:d=i
 ·subst e;simp [Array.getD,hd]
 ·simp only [if_neg e,dM,uT e]
theorem Ok.set (h:Ok C σ G a w) {d:Option Tmp} {av:AV} {v:Value} (hR:R G av v)(hb:Bd σ.nk av)(hd:∀ x,d=some x→x<C.N):Ok C (σ.set d av) G (a.put d v) w:=by
 cases d with
 | none=>exact h
 | some d =>
  have hd:=hd d rfl
  refine⟨?_,h.df,?_,h.bel,h.fw,h.f0,h.f1,h.ob,h.my,h.dj,h.dF⟩
  ·show (a.tmps.setIfInBounds d v).size=C.N
   rw [Array.size_setIfInBounds];exact h.sz
  ·intro i x hx
   show i<C.N∧Bd σ.nk x∧R G x ((a.tmps.setIfInBounds d v).getD i undef)
   rw [adT _ _ _ _ (by rw [h.sz];exact hd)]
   by_cases e:d=i
   ·subst e
    rw [show look d (St.set σ (some d) av).t=some av from aA] at hx
    cases hx
    rw [if_pos rfl]
    exact⟨hd,hb,hR⟩
   ·rw [show look i (St.set σ (some d) av).t=look i σ.t from aj (fun x=>e x.symm)] at hx
    rw [if_neg e]
    exact h.tm i x hx
theorem vG {w w':World} {B e size n:Nat} {v:Value} {xs:List Value} (h:w.ownsRowF B e size v n xs) (hk:∀ g,v.ownBlock=some g→w'.heap[g]?=w.heap[g]?):w'.ownsRowF B e size v n xs:=by
 refine ⟨h.1,?_⟩
 rcases h.2 with x|⟨g,cap,cur,fz,e,hb,hh,hr⟩
 ·exact .inl x
 ·exact .inr ⟨g,cap,cur,fz,e,hb,(hk g (by rw [e];rfl)).trans hh,hr⟩
theorem dH.keep {T n:Nat} {rows:List (List AV)} {v:Value} {φ:Nat→Prop} {X X':Nat→Nat→(Nat→Prop)→AV→Value→Prop} (h:dH w T n rows v φ X) (hw:∀ x,φ x→w'.heap[x]?=w.heap[x]?)
  (hX:∀ (i:Nat)r (j:Nat)av ψ u,rows[i]?=some r→r[j]?=some av→(∀ x,ψ x→w'.heap[x]?=w.heap[x]?)→X i j ψ av u→X' i j ψ av u):dH w' T n rows v φ X':=by
 obtain ⟨h1,vs,Φ,h2,h3,h4,h5,h6,h7,h8,h9⟩:=h
 exact ⟨h1,vs,Φ,DZ h2 fun g hg=>hw g (h5 g hg),h3,h4,h5,h6,h7,h8,fun i r r' j av u a b c d=>hX i r j av _ u a c (fun x hx=>hw x (h6 i j x hx).1) (h9 i r r' j av u a b c d)⟩
theorem oU.keep {nk k:Nat} {o:AO} (h:oU G w k o) (hle:G.le G' nk) (hk:k<nk) (hb:o.bd nk) (hf:G'.fp k=G.fp k) (hw:∀ x,G.fp k x→w'.heap[x]?=w.heap[x]?):oU G' w' k o:=by
 cases o with
 | box T cells =>
  obtain ⟨h1,cs,Φ,h2,h3,h4,h5,h6⟩:=h
  refine ⟨by rw [hf,hle.b k hk];exact h1,cs,Φ,?_,h3,by rw [hf,hle.b k hk];exact h4,h5,fun i av u x y=>(h6 i av u x y).keep hle (hb i av x) fun z hz=>hw z (h4 i z hz).1⟩
  rw [hle.b k hk]
  exact (hw _ h1).trans h2
 | row T n rows =>
  obtain ⟨h1,h2,h3⟩:=h
  refine ⟨by rw [hle.n k hk];exact h1,by rw [hle.h k hk,hle.b k hk];exact h2,?_⟩
  rw [hf,hle.h k hk]
  exact h3.keep hw fun i r j av ψ u _ _ Uh x=>RP.mono hle.F x
 | jM T n rows =>
  obtain ⟨h1,h2,h3⟩:=h
  refine ⟨by rw [hle.n k hk];exact h1,by rw [hle.h k hk,hle.b k hk];exact h2,?_⟩
  rw [hf,hle.h k hk]
  exact h3.keep hw fun i r j av ψ u _ _ Uh x=>OW.keep hle.F x Uh
 | EF T n rows hi hj y =>
  obtain ⟨h1,h2,h3⟩:=h
  refine ⟨by rw [hle.n k hk];exact h1,by rw [hle.h k hk,hle.b k hk];exact h2,?_⟩
  rw [hf,hle.h k hk]
  refine h3.keep hw fun i r j av ψ u hr hav Uh x=>?_
  unfold XH at x ⊢
  by_cases e:i=hi∧j=hj
  ·rw [if_pos e] at x ⊢
   exact R.mono hle x hb
  ·rw [if_neg e] at x ⊢
   exact RP.mono hle.F x
 | oW T n rows hi hj y =>
  obtain ⟨h1,h2,h3⟩:=h
  refine ⟨by rw [hle.n k hk];exact h1,by rw [hle.h k hk,hle.b k hk];exact h2,?_⟩
  rw [hf,hle.h k hk]
  refine h3.keep hw fun i r j av ψ u hr hav Uh x=>?_
  unfold XQ at x ⊢
  by_cases e:i=hi∧j=hj
  ·rw [if_pos e] at x ⊢
   exact R.mono hle x hb
  ·rw [if_neg e] at x ⊢
   exact OW.keep hle.F x Uh
 | xq T e l =>
  obtain ⟨h1,p,v,h2,h3,h4,h5⟩:=h
  refine ⟨by rw [hf,hle.b k hk];exact h1,p,v,by rw [hle.b k hk];exact h2,?_,vG h4 fun g hg=>hw g (h5 g hg).1,by rw [hf,hle.b k hk];exact h5⟩
  rw [hle.b k hk]
  exact (hw _ h1).trans h3
 | opq q =>
  show q.Q w' (G'.b k) (G'.h k) (G'.fp k)
  rw [hle.b k hk,hle.h k hk,hf]
  exact q.st _ _ _ _ _ hw h
theorem Ok.world {S:Nat→Prop} (h:Ok C σ G a w) (hle:G.le G' σ.nk) (hfp:∀ k,k<σ.nk→G'.fp k=G.fp k) (hb:Kept S w w') (hS:∀ x,S x→C.may x) (hw:∀ k o x,look k σ.M=some o→G.fp k x→w'.heap[x]?=w.heap[x]?)
  (hfw:∀ p u,G'.F p=some u→w'.cell? p=some u) (hn:∀ p u,G'.F p=some u→G.F p=some u∨w.heap.size≤p.block):Ok C σ G' a w':=by
 refine ⟨h.sz,⟨h.df.1,h.df.2.1,fun k hk=>by
  have hk2:=lH hk h.df.2.1
  rw [hle.b k hk2,hle.n k hk2,hle.h k hk2];exact h.df.2.2 k hk⟩,fun i av x=>⟨(h.tm i av x).1,(h.tm i av x).2.1,(h.tm i av x).2.2.mono hle (h.tm i av x).2.1⟩,h.bel.on hb hS,hfw,fun p u x=>hle.F _ _ (h.f0 p u x),?_,?_,?_,?_,?_⟩
 ·intro p u x
  rcases hn p u x with y|y
  ·exact h.f1 p u y
  ·exact .inr (.inl (jV h.bel.size y))
 ·intro k o x
  obtain ⟨a1,a2,a3⟩:=h.ob k o x
  exact ⟨a1,a2,a3.keep hle a1 a2 (hfp k a1) (fun y hy=>hw k o y x hy)⟩
 ·intro k o x h1 h2
  rw [hfp k (h.ob k o h1).1]at h2
  exact ⟨(h.my k o x h1 h2).1,lH (h.my k o x h1 h2).2 hb.size⟩
 ·intro k o k' o' x h1 h2 h3 h4
  rw [hfp k (h.ob k o h1).1]at h3
  rw [hfp k' (h.ob k' o' h2).1]at h4
  exact h.dj k o k' o' x h1 h2 h3 h4
 ·intro k o x p u h1 h2 h3
  rw [hfp k (h.ob k o h1).1]at h2
  rcases hn p u h3 with y|y
  ·exact h.dF k o x p u h1 h2 y
  ·have:=(h.my k o x h1 h2).2
   omega
theorem Ok.drew (h:Ok C σ G a w):Ok C σ G a w.drew :=
 h.world (S:=fun _=>False) (Gh.le.refl _ _) (fun _ _=>rfl) ⟨rfl,rfl,rfl,bJ _,fun _ _ _=>rfl⟩ (fun _ x=>x.elim) (fun _ _ _ _ _=>rfl) h.fw (fun _ _ x=>.inl x)
end
def Tr(C:Cx)(σ σ':St):Prop:=∀ G a w,Ok C σ G a w→∃ G',Ok C σ' G' a w
theorem Tr.trans {C:Cx} {σ σ' Dk:St} (h:Tr C σ σ')(k:Tr C σ' Dk):Tr C σ Dk:=fun G a w x=>by
 exact aaJ
def Post(C:Cx)(Q:Exit→St→Prop):Exit→Act→World→Prop:=fun e a w=>∃ σ G,Q e σ∧Ok C σ G a w
def W (P:Program)(C:Cx)(c:Code)(σ:St)(Q:Exit→St→Prop):Prop:=∀ G a w,Ok C σ G a w→c.wp P (Post C Q) a w
def WL (P:Program)(C:Cx)(ops:Array Oper)(l:List Oper)(σ:St)(Q:Exit→St→Prop):Prop:=∀ G a w,Ok C σ G a w→wpList P ops (Post C Q) l a w
def WO(P:Program)(C:Cx)(o:Oper)(σ σ':St):Prop :=
 ∀ G a w,Ok C σ G a w→∀ (N:Act→World→Prop)(Q':Exit→Act→World→Prop),(∀ G' a' w',Ok C σ' G' a' w'→N a' w')→o.wp P a w N Q'
section
variable {P:Program} {C:Cx} {σ σ':St} {Q Q':Exit→St→Prop}
theorem W.tr {c:Code} (h:Tr C σ σ')(k:W P C c σ' Q):W P C c σ Q:=fun G a w x=>by
 exact aaJ
theorem WL.tr {ops:Array Oper} {l:List Oper} (h:Tr C σ σ')(k:WL P C ops l σ' Q):WL P C ops l σ Q:=fun G a w x=>by
 exact aaJ
theorem W.mono {c:Code} (h:W P C c σ Q)(hq:∀ e s,Q e s→Q' e s):W P C c σ Q':=fun G a w x =>
 wp_mono (h G a w x) fun e a w⟨s,g,q,o⟩=>⟨s,g,hq e s q,o⟩
theorem W.skip(h:Q .normal σ):W P C .skip σ Q:=fun G a w x=>wp_skip ⟨σ,G,h,x⟩
theorem W.exit {id:Nat} (h:Q (.exit id) σ):W P C (.exit id) σ Q:=fun G a w x=>wp_exit ⟨σ,G,h,x⟩
theorem W.ret(h:Q .ret σ):W P C .ret σ Q:=fun G a w x=>wp_ret ⟨σ,G,h,x⟩
def kD(N:St→Prop)(Q:Exit→St→Prop):Exit→St→Prop
 | .normal,s=>N s
 | e,s=>Q e s
def nP (id:Nat)(Q:Exit→St→Prop):Exit→St→Prop
 | .exit id',s=>if id'=id then Q .normal s else Q (.exit id') s
 | e,s=>Q e s
theorem W.seq {x y:Code} (h:W P C x σ (kD (fun s=>W P C y s Q) Q)):W P C (.seq x y) σ Q:=fun G a w ok =>
 wp_seq (wp_mono (h G a w ok) fun e a w⟨s,g,q,o⟩=>by
  cases e with
  | normal=>exact q g a w o
  | exit id=>exact⟨s,g,q,o⟩
  | goto l=>exact⟨s,g,q,o⟩
  | ret=>exact⟨s,g,q,o⟩
  | panic c=>exact⟨s,g,q,o⟩
  | outgrown=>exact⟨s,g,q,o⟩)
theorem W.block {id:Nat} {c:Code} (h:W P C c σ (nP id Q)):W P C (.block id c) σ Q:=fun G a w ok =>
 wp_block (wp_mono (h G a w ok) fun e a w⟨s,g,q,o⟩=>by
  cases e with
  | exit id' =>
   show if id'=id then _ else _
   by_cases e:id'=id
   ·rw [if_pos e];exact⟨s,g,by simpa [nP,e] using q,o⟩
   ·rw [if_neg e];exact⟨s,g,by simpa [nP,e] using q,o⟩
  | normal=>exact⟨s,g,q,o⟩
  | goto l=>exact⟨s,g,q,o⟩
  | ret=>exact⟨s,g,q,o⟩
  | panic c=>exact⟨s,g,q,o⟩
  | outgrown=>exact⟨s,g,q,o⟩)
theorem W.cond {c:Operand} {x y:Code} {t:Bool} (hc:σ.ev c=some (.sc (.bool t)))(h1:t=true→W P C x σ Q)(h2:t=false→W P C y σ Q):W P C (.cond c x y) σ Q:=fun G a w ok=>by
 refine wp_cond (ok.evs hc) ?_
 cases t
 ·exact h2 rfl G a w ok
 ·exact h1 rfl G a w ok
theorem W.loop {c:Code} {X:Type} (I:X→Prop) (S:X→St) (μ:X→Nat) (x0:X) (h0:I x0) (hi:Tr C σ (S x0))
  (round:∀ x,I x→W P C c (S x) (kD (fun s=>∃ x',I x'∧μ x'<μ x∧Tr C s (S x')) Q)):W P C (.loop c) σ Q:=by
 intro G a w ok b k cs
 have key:∀ n x G a w,μ x=n→I x→Ok C (S x) G a w→∃ e a' w',Post C Q e a' w'∧Arrives P (lone (b.at a (.code c::.inLoop c::k)) cs w) b k cs e a' w':=by
  intro n
  induction n using Nat.strongRecOn with
  | _ n ih =>
   intro x G a w hn hI ok
   obtain ⟨e,a1,w1,⟨s,g,hq,o1⟩,harr⟩:=round x hI G a w ok b (.inLoop c::k) cs
   cases e with
   | normal =>
    obtain ⟨x',hI',hlt,ht⟩:=hq
    obtain ⟨g',o2⟩:=ht g a1 w1 o1
    obtain ⟨e2,a2,w2,hq2,avp⟩:=ih (μ x') (hn ▸ hlt) x' g' a1 w1 rfl hI' o2
    exact ⟨e2,a2,w2,hq2,.of_steps (Steps.trans harr (.one step_inLoop)) avp⟩
   | exit id=>exact ⟨_,a1,w1,⟨s,g,hq,o1⟩,.pass (x:=.inLoop c) rfl (fun _ _=>.inl (by simp)) harr⟩
   | goto l=>exact ⟨_,a1,w1,⟨s,g,hq,o1⟩,.pass (x:=.inLoop c) rfl (fun _ _=>.inl (by simp)) harr⟩
   | ret=>exact ⟨_,a1,w1,⟨s,g,hq,o1⟩,.pass (x:=.inLoop c) rfl (fun _ _=>.inl (by simp)) harr⟩
   | panic ch=>exact ⟨_,a1,w1,⟨s,g,hq,o1⟩,.pass (x:=.inLoop c) rfl (fun _ _=>.inl (by simp)) harr⟩
   | outgrown=>exact ⟨_,a1,w1,⟨s,g,hq,o1⟩,.pass (x:=.inLoop c) rfl (fun _ _=>.inl (by simp)) harr⟩
 obtain ⟨g0,ok0⟩:=hi G a w ok
 obtain ⟨e,a',w',hq,harr⟩:=key _ x0 g0 a w rfl h0 ok0
 exact ⟨e,a',w',hq,.of_steps (.one step_loop) harr⟩
theorem W.region {id:Nat} {l:List Oper} (h:WL P C l.toArray l σ Q):W P C (.region id l.toArray false) σ Q:=fun G a w ok=>wp_region_lit (h G a w ok)
theorem WL.nil {ops:Array Oper} (h:Q .normal σ):WL P C ops [] σ Q:=fun G a w ok=>wpList_nil ⟨σ,G,h,ok⟩
theorem WL.op {ops:Array Oper} {o:Oper} {rest:List Oper} (hg:o.guard=none)(h:WO P C o σ σ')(k:WL P C ops rest σ' Q):WL P C ops (o::rest) σ Q:=fun G a w ok =>
 wpList_plain hg fun K hK=>h G a w ok K _ fun G' a' w' ok'=>hK _ _ (k G' a' w' ok')
theorem dP {a b:Nat} (h:Nat.blt a b=true):a<b:=Nat.lt_of_succ_le (by simpa [Nat.blt]using h)
def vb:Value→Option Bool
 | .bool b=>some b
 | _=>none
theorem CZ {ops:Array Oper} {G:Gh} {a:Act} {w:World} (ok:Ok C σ G a w) {j:Nat} {oj:Oper} {d:Tmp} {v:Value} (hj:ops[j]?=some oj)(hd:oj.dst=some d)(hv:look d σ.t=some (.sc v)) :
  yielded ops a.tmps j=vb v:=by
 have h1:=ok.tm d _ hv
 have h2:=h1.2.2.fB
 have h3:a.tmps[d]?=some v:=by
  have hlt:d<a.tmps.size:=by rw [ok.sz];exact h1.1
  rw [uh hlt]
  simpa [Array.getD,hlt]using h2
 simp only [yielded,hj,Ib,hd,h3]
 cases v<;>rfl
theorem WL.opn {ops:Array Oper} {o oj:Oper} {rest:List Oper} {j:Nat} {b:Bool} {d d':Tmp} {v:Value} (hg:o.guard=some (j,b)) (hj:ops[j]?=some oj) (hd:oj.dst=some d) (hv:look d σ.t=some (.sc v))
  (hb:vb v≠some b) (hds:o.dst=some d') (hdn:Nat.blt d' C.N=true) (h:WL P C ops rest (σ.put d' (.sc undef)) Q):WL P C ops (o::rest) σ Q:=fun G a w ok =>
 wpList_step fun K hK=>by
  have hy:=CZ (ops:=ops) ok hj hd hv
  rw [if_neg (by simp only [Region.wanted,hg,hy];simpa using hb)]
  rw [hds]
  exact hK _ _ (h G _ w (ok.set (d:=some d') (.pu _ _ (.sc _)) (.sc _) fun x hx=>by cases hx;exact dP hdn))
theorem WL.part {ops:Array Oper} {l:List Oper} {d:Tmp} {b:Bool} (hv:look d σ.t=some (.sc (.bool b))) (h1:b=true→WL P C ops l (σ.set (some d) (.sc (.bool true))) Q) (h2:b=false→WL P C ops l (σ.set (some d) (.sc (.bool false))) Q):WL P C ops l σ Q:=fun G a w ok=>by
 have key:∀ c,b=c→Ok C (σ.set (some d) (.sc (.bool c))) G a w:=fun c e=>by
  subst e
  refine ⟨ok.sz,ok.df,fun i x hx=>?_,ok.bel,ok.fw,ok.f0,ok.f1,ok.ob,ok.my,ok.dj,ok.dF⟩
  by_cases hi:i=d
  ·subst hi
   rw [show look i (St.set σ (some i) (.sc (.bool b))).t=_ from aA] at hx
   cases hx
   exact ok.tm i _ hv
  ·rw [show look i (St.set σ (some d) (.sc (.bool b))).t=_ from aj hi] at hx
   exact ok.tm i x hx
 cases b
 ·exact h2 rfl G a w (key _ rfl)
 ·exact h1 rfl G a w (key _ rfl)
end
def aU(P:Program)(f:FuncId)(args:List AV)(res:AV):Prop :=
 ∀ (w:World)(F:View)(vs:List Value),(∀ p u,F p=some u→w.cell? p=some u)→RL F args vs →
  Calls P f vs.toArray w fun e w'=>∃ v F',e=.returned v∧Below w.heap.size w w'∧View.le F F'∧(∀ p u,F' p=some u→w'.cell? p=some u)∧(∀ p u,F' p=some u→F p=some u∨w.heap.size≤p.block)∧RP F' res v
def number {α:Type}:Nat→List α→List (Nat×α)
 | _,[]=>[]
 | n,x::r=>(n,x)::number (n+1) r
theorem kZ {α:Type}:∀ (l:List α)(n i:Nat)(x:α),look i (number n l)=some x→n≤i∧l[i-n]?=some x
 | [],n,i,x,h=>by cases h
 | y::r,n,i,x,h=>by
  by_cases e:i=n
  ·subst e
   rw [show look i (number i (y::r))=some y from aA] at h
   cases h
   simp
  ·rw [show look i (number n (y::r))=look i (number (n+1) r) from aj e] at h
   obtain⟨h1,h2⟩:=kZ r (n+1) i x h
   refine⟨by omega,?_⟩
   rw [show i-n=(i-(n+1))+1 by omega]
   simpa using h2
def St.init(args:List AV):St:=⟨number 0 args,[],0⟩
def G0:Gh:=⟨fun _=>none,fun _=>0,fun _=>0,fun _=>undef,fun _ _=>False⟩
def Fin(P:Program)(fn:Func)(C:Cx)(σ:St)(res:AV):Prop :=
 ∀ G a w,Ok C σ G a w→∃ v F',(results fn a.tmps).run P w=.ok v w∧View.le G.F F'∧(∀ p u,F' p=some u→w.cell? p=some u)∧(∀ p u,F' p=some u→G.F p=some u∨C.may p.block)∧RP F' res v
def Um(P:Program)(fn:Func)(C:Cx)(res:AV):Exit→St→Prop:=fun e σ=>(e=.normal∨e=.ret)∧Fin P fn C σ res
theorem aU.intro {P:Program} {f:FuncId} {fn:Func} {c:Code} {args:List AV} {res:AV} (hf:P.funcs[f]?=some fn) (hb:fn.body=some c) {N:Nat} (hN:fn.ntmps=N) (hn:args.length≤N) (hp:∀ (i:Nat) av,args[i]?=some av→Bd 0 av)
  (h:∀ w0 F0,W P ⟨w0,F0,N,fun _=>False,0,G0,[]⟩ c (St.init args) (Um P fn ⟨w0,F0,N,fun _=>False,0,G0,[]⟩ res)):aU P f args res:=by
 intro w F vs hF hR
 subst hN
 refine calls_of_wp hf hb ?_
 have hsz:vs.toArray.size=args.length:=by simpa using hR.1
 have h1:=h w F ⟨F,fun _=>0,fun _=>0,fun _=>undef,fun _ _=>False⟩ { tmps:=vs.toArray++Array.replicate (fn.ntmps - vs.toArray.size) undef,defers:=[] } w
  ⟨by simp;have:=hR.1;omega,⟨rfl,bJ _,fun k hk=>absurd hk (Ic k)⟩,fun i av hx=>by
   obtain ⟨_,h2⟩:=kZ args 0 i av hx
   simp only [F7] at h2
   have hi:i < args.length:=(List.getElem?_eq_some_iff.1 h2).1
   have hv:i < vs.length:=by rw [hR.1];exact hi
   refine ⟨by show i < fn.ntmps;omega,hp i av h2,.pu _ _ (hR.2 i av _ h2 ?_)⟩
   simp [dM,Es,hv],
   Kept.refl _ _,hF,fun _ _ h=>h,fun _ _ h=>.inl h,(fun k o h=>by cases h),(fun k o x h=>by cases h),(fun k o k' o' x h=>by cases h),(fun k o x p u h=>by cases h)⟩
 refine wp_mono h1 fun e a w' ⟨σ,G,⟨he,hfin⟩,ok⟩=>?_
 obtain ⟨v,F',hr,hle,hfw,hnew,hres⟩:=hfin G a w' ok
 rcases he with rfl|rfl
 ·exact ac6
 ·exact ac6
theorem Bd.rp {G:Gh} {av:AV} {v:Value} (b:Bd 0 av)(r:R G av v):RP G.F av v:=by
 induction r with
 | pu _ _ h=>exact h
 | pt k i j p=>cases b with|pt _ _ _ h=>exact absurd h au
 | sl k=>cases b with|sl _ h=>exact absurd h au
 | ag l cs h1 _ ih=>cases b with|ag _ hb=>exact .ag l cs h1 fun i av u x y=>ih i av u x y (hb i av x)
 | tu l cs h1 _ ih=>cases b with|tu _ hb=>exact .tu l cs h1 fun i av u x y=>ih i av u x y (hb i av x)
 | fn f l cs h1 _ ih=>cases b with|fn _ _ hb=>exact .fn f l cs h1 fun i av u x y=>ih i av u x y (hb i av x)
theorem Fin.one {P:Program} {fn:Func} {C:Cx} {σ:St} {t:Tmp} {res:AV} (h:fn.results=#[.tmp t])(ht:look t σ.t=some res)(hb:Bd 0 res):Fin P fn C σ res:=fun G a w ok =>
 ⟨a.tmps.getD t undef,G.F,results_tmp h _ _ _,fun _ _ h=>h,ok.fw,fun _ _ h=>.inl h,hb.rp (ok.tm t _ ht).2.2⟩
theorem Fin.two {P:Program} {fn:Func} {C:Cx} {σ:St} {t u:Tmp} {r1 r2:AV} (h:fn.results=#[.tmp t,.tmp u])(h1:look t σ.t=some r1)(h2:look u σ.t=some r2)(b1:Bd 0 r1)(b2:Bd 0 r2):Fin P fn C σ (.tu [r1,r2]):=fun G a w ok =>
 ⟨.tuple #[a.tmps.getD t undef,a.tmps.getD u undef],G.F,results_tmp2 h _ _ _,fun _ _ h=>h,ok.fw,fun _ _ h=>.inl h,.tu _ _ rfl fun i av x ha hx=>by
  match i with
  | 0=>cases ha;cases hx;exact b1.rp (ok.tm t _ h1).2.2
  | 1=>cases ha;cases hx;exact b2.rp (ok.tm u _ h2).2.2
  | n+2=>simp at ha⟩
section
variable {P:Program} {C:Cx} {σ σ':St} {o:Oper} {d:Tmp}
def WV (P:Program)(C:Cx)(o:Oper)(σ:St)(av:AV):Prop :=
 ∀ G a w,Ok C σ G a w→∀ (N:Act→World→Prop)(Q':Exit→Act→World→Prop),
  (∀ v G' w',(∀ Dk a'',Ok C Dk G a'' w→Ok C Dk G' a'' w')→R G' av v→Bd σ.nk av→N (a.put o.dst v) w')→o.wp P a w N Q'
theorem WO.Wh {av:AV} (hds:o.dst=some d)(hd:Nat.blt d C.N=true)(h:WV P C o σ av):WO P C o σ (σ.put d av):=fun G a w ok N Q' hN =>
 h G a w ok N Q' fun v G' w' hk hr hb=>by
  rw [hds]
  exact hN G' _ w' ((hk σ a ok).set (d:=some d) hr hb fun x hx=>by cases hx;exact dP hd)
theorem WL.opv {ops:Array Oper} {rest:List Oper} {Q:Exit→St→Prop} {av:AV} (hg:o.guard=none)(hds:o.dst=some d)(hd:Nat.blt d C.N=true)(h:WV P C o σ av)(k:WL P C ops rest (σ.put d av) Q):WL P C ops (o::rest) σ Q :=
 WL.op hg (WO.Wh hds hd h) k
theorem WV.val {av:AV} (hb:∀ G a w,Ok C σ G a w→Bd σ.nk av)(h:∀ G a w,Ok C σ G a w→∃ v,(execOp a.eval o).run P w=.ok (.value v) w∧R G av v):WV P C o σ av:=by
 intro G a w ok N Q' hN
 obtain⟨v,h1,h2⟩:=h G a w ok
 unfold Oper.wp
 rw [h1]
 exact hN v G w (fun _ _ h=>h) h2 (hb G a w ok)
theorem WV.sc {v:Value} (h:∀ G a w,Ok C σ G a w→(execOp a.eval o).run P w=.ok (.value v) w):WV P C o σ (.sc v) :=
 WV.val (fun _ _ _ _=>.sc v) fun G a w ok=>⟨v,h G a w ok,.pu _ _ (.sc v)⟩
theorem WV.move {x:Operand} {av:AV} (ho:o.op=.move x)(hx:σ.ev x=some av):WV P C o σ av :=
 WV.val (fun G a w ok=>(ok.nO hx).1) fun G a w ok=>⟨a.eval x,by unfold execOp;simp only [ho];rfl,(ok.nO hx).2⟩
theorem WV.assign {x:Operand} {av:AV} (ho:o.op=.assign x)(hx:σ.ev x=some av):WV P C o σ av :=
 WV.val (fun G a w ok=>(ok.nO hx).1) fun G a w ok=>⟨a.eval x,by unfold execOp;simp only [ho];rfl,(ok.nO hx).2⟩
theorem WV.awt {c x y:Operand} {av:AV} (ho:o.op=.pick c x y)(hc:σ.ev c=some (.sc (.bool true)))(hx:σ.ev x=some av):WV P C o σ av :=
 WV.val (fun G a w ok=>(ok.nO hx).1) fun G a w ok=>⟨a.eval x,by unfold execOp;simp [ho,ok.evs hc,asBool],(ok.nO hx).2⟩
theorem WV.awq {c x y:Operand} {av:AV} (ho:o.op=.pick c x y)(hc:σ.ev c=some (.sc (.bool false)))(hy:σ.ev y=some av):WV P C o σ av :=
 WV.val (fun G a w ok=>(ok.nO hy).1) fun G a w ok=>⟨a.eval y,by unfold execOp;simp [ho,ok.evs hc,asBool],(ok.nO hy).2⟩
theorem WV.awr {c x y:Operand} {b:Bool} {u v:Value} (ho:o.op=.pick c x y)(hc:σ.ev c=some (.sc (.bool b)))(hx:σ.ev x=some (.sc u))(hy:σ.ev y=some (.sc v)):WV P C o σ (.sc (if b=true then u else v)) :=
 WV.sc fun G a w ok=>by unfold execOp;cases b<;>simp [ho,ok.evs hc,ok.evs hx,ok.evs hy,asBool]
def I64(z:Int):Prop:=-9223372036854775808≤z∧z<9223372036854775808
theorem I64.wrap {z:Int} (h:I64 z):IntKind.i64.wrap z=z:=Go.IntWalk.i64_in z ⟨h.1,by have:=h.2;omega⟩
theorem WV.add {T Ty:TypeId} {x y:Operand} {m n:Int} (ho:o.op=.binOp .add T x y Ty)(hx:σ.ev x=some (.sc (.int .i64 m)))(hy:σ.ev y=some (.sc (.int .i64 n)))(hb:I64 (m+n)):WV P C o σ (.sc (.int .i64 (m+n))) :=
 WV.sc fun G a w ok=>by unfold execOp;simp [ho,ok.evs hx,ok.evs hy,eqGuard,binOp,Op.intArith,hb.wrap]
theorem WV.sub {T Ty:TypeId} {x y:Operand} {m n:Int} (ho:o.op=.binOp .sub T x y Ty)(hx:σ.ev x=some (.sc (.int .i64 m)))(hy:σ.ev y=some (.sc (.int .i64 n)))(hb:I64 (m-n)):WV P C o σ (.sc (.int .i64 (m-n))) :=
 WV.sc fun G a w ok=>by unfold execOp;simp [ho,ok.evs hx,ok.evs hy,eqGuard,binOp,Op.intArith,hb.wrap]
theorem WV.mul {T Ty:TypeId} {x y:Operand} {m n:Int} (ho:o.op=.binOp .mul T x y Ty)(hx:σ.ev x=some (.sc (.int .i64 m)))(hy:σ.ev y=some (.sc (.int .i64 n)))(hb:I64 (m*n)):WV P C o σ (.sc (.int .i64 (m*n))) :=
 WV.sc fun G a w ok=>by unfold execOp;simp [ho,ok.evs hx,ok.evs hy,eqGuard,binOp,Op.intArith,hb.wrap]
theorem WV.lss {T Ty:TypeId} {x y:Operand} {k:IntKind} {m n:Int} (ho:o.op=.binOp .lss T x y Ty)(hx:σ.ev x=some (.sc (.int k m)))(hy:σ.ev y=some (.sc (.int k n))):WV P C o σ (.sc (.bool (decide (m<n)))) :=
 WV.sc fun G a w ok=>by unfold execOp;simp [ho,ok.evs hx,ok.evs hy,eqGuard,binOp,Op.intCmp]
theorem WV.leq {T Ty:TypeId} {x y:Operand} {k:IntKind} {m n:Int} (ho:o.op=.binOp .leq T x y Ty)(hx:σ.ev x=some (.sc (.int k m)))(hy:σ.ev y=some (.sc (.int k n))):WV P C o σ (.sc (.bool (decide (m≤n)))) :=
 WV.sc fun G a w ok=>by unfold execOp;simp [ho,ok.evs hx,ok.evs hy,eqGuard,binOp,Op.intCmp]
theorem WV.gtr {T Ty:TypeId} {x y:Operand} {k:IntKind} {m n:Int} (ho:o.op=.binOp .gtr T x y Ty)(hx:σ.ev x=some (.sc (.int k m)))(hy:σ.ev y=some (.sc (.int k n))):WV P C o σ (.sc (.bool (decide (n<m)))) :=
 WV.sc fun G a w ok=>by unfold execOp;simp [ho,ok.evs hx,ok.evs hy,eqGuard,binOp,Op.intCmp]
theorem WV.geq {T Ty:TypeId} {x y:Operand} {k:IntKind} {m n:Int} (ho:o.op=.binOp .geq T x y Ty)(hx:σ.ev x=some (.sc (.int k m)))(hy:σ.ev y=some (.sc (.int k n))):WV P C o σ (.sc (.bool (decide (n≤m)))) :=
 WV.sc fun G a w ok=>by unfold execOp;simp [ho,ok.evs hx,ok.evs hy,eqGuard,binOp,Op.intCmp]
theorem WV.eql {T Ty:TypeId} {x y:Operand} {k:IntKind} {m n:Int} (ho:o.op=.binOp .eql T x y Ty)(hx:σ.ev x=some (.sc (.int k m)))(hy:σ.ev y=some (.sc (.int k n))):WV P C o σ (.sc (.bool (decide (m=n)))) :=
 WV.sc fun G a w ok=>by unfold execOp;simp [ho,ok.evs hx,ok.evs hy,eqGuard,binOp,Op.intCmp];rfl
theorem WV.neq {T Ty:TypeId} {x y:Operand} {k:IntKind} {m n:Int} (ho:o.op=.binOp .neq T x y Ty)(hx:σ.ev x=some (.sc (.int k m)))(hy:σ.ev y=some (.sc (.int k n))):WV P C o σ (.sc (.bool (!decide (m=n)))) :=
 WV.sc fun G a w ok=>by unfold execOp;simp [ho,ok.evs hx,ok.evs hy,eqGuard,binOp,Op.intCmp];rfl
theorem WV.not {T:TypeId} {x:Operand} {b:Bool} (ho:o.op=.unOp .not T x)(hx:σ.ev x=some (.sc (.bool b))):WV P C o σ (.sc (.bool (!b))) :=
 WV.sc fun G a w ok=>by unfold execOp;simp [ho,ok.evs hx,Op.unary]
theorem WV.beq {T Ty:TypeId} {x y:Operand} {b c:Bool} (ho:o.op=.binOp .eql T x y Ty)(hT:P.underlying T=some .bool)(hx:σ.ev x=some (.sc (.bool b)))(hy:σ.ev y=some (.sc (.bool c))):WV P C o σ (.sc (.bool (b == c))) :=
 WV.sc fun G a w ok=>by unfold execOp;simp [ho,ok.evs hx,ok.evs hy,eqGuard,binOp,run_equal_bool w T b c hT]
theorem WV.bne {T Ty:TypeId} {x y:Operand} {b c:Bool} (ho:o.op=.binOp .neq T x y Ty)(hT:P.underlying T=some .bool)(hx:σ.ev x=some (.sc (.bool b)))(hy:σ.ev y=some (.sc (.bool c))):WV P C o σ (.sc (.bool (!(b == c)))) :=
 WV.sc fun G a w ok=>by unfold execOp;simp [ho,ok.evs hx,ok.evs hy,eqGuard,binOp,run_equal_bool w T b c hT]
def EG:List AV→Option (List Value)
 | []=>some []
 | .sc v::r=>(EG r).map (v::·)
 | _=>none
theorem xW {G:Gh}:∀ {l:List AV} {xs:List Value},EG l=some xs→∀ {cs:List Value},cs.length=l.length→(∀ (i:Nat) av u,l[i]?=some av→cs[i]?=some u→R G av u)→cs=xs:=by
 intro l
 induction l with
 | nil=>intro xs h cs hl _;cases h;exact oN hl
 | cons a r ih =>
  intro xs h cs hl hc
  cases a with
  | sc v =>
   cases hr:EG r with
   | none=>simp [EG,hr] at h
   | some ys =>
    simp [EG,hr] at h
    subst h
    cases cs with
    | nil=>simp at hl
    | cons u us =>
     have h0:=(hc 0 (.sc v) u rfl rfl).fB
     have:=ih hr (cs:=us) (by simpa using hl) (fun i av x p q=>hc (i+1) av x Qy rQ)
     rw [h0,this]
  | _=>simp [EG] at h
theorem Ok.agg {G:Gh} {a:Act} {w:World} (ok:Ok C σ G a w) {x:Operand} {l:List AV} {xs:List Value} (hx:σ.ev x=some (.ag l)) (hs:EG l=some xs):a.eval x=.agg xs.toArray:=by
 obtain ⟨cs,e,h1,h2⟩:=(ok.nO hx).2.AX
 rw [e,← xW hs (cs:=cs.toList) rO (fun i av u p q=>h2 i av u p rQ)]
theorem WV.aeq {T Ty:TypeId} {x y:Operand} {l m:List AV} {xs ys:List Value} {b:Bool} (ho:o.op=.binOp .eql T x y Ty) (hx:σ.ev x=some (.ag l)) (h1:EG l=some xs) (hy:σ.ev y=some (.ag m)) (h2:EG m=some ys)
  (hg:P.eqGuardType P.depth T=false) (he:∀ w,(Op.equalIn 10000 T (.agg xs.toArray) (.agg ys.toArray)).run P w=.ok b w):WV P C o σ (.sc (.bool b)) :=
 WV.sc fun G a w ok=>by unfold execOp;simp [ho,ok.agg hx h1,ok.agg hy h2,run_eqGuard_agg w _ T x y _ _ hg,run_eql_struct,he]
theorem WV.ane {T Ty:TypeId} {x y:Operand} {l m:List AV} {xs ys:List Value} {b:Bool} (ho:o.op=.binOp .neq T x y Ty) (hx:σ.ev x=some (.ag l)) (h1:EG l=some xs) (hy:σ.ev y=some (.ag m)) (h2:EG m=some ys)
  (hg:P.eqGuardType P.depth T=false) (he:∀ w,(Op.equalIn 10000 T (.agg xs.toArray) (.agg ys.toArray)).run P w=.ok b w):WV P C o σ (.sc (.bool (!b))) :=
 WV.sc fun G a w ok=>by unfold execOp;simp [ho,ok.agg hx h1,ok.agg hy h2,run_eqGuard_agg w _ T x y _ _ hg,run_neq_struct,he]
theorem WV.azl {T Ty:TypeId} {x y:Operand} {s t:List UInt8} (ho:o.op=.binOp .eql T x y Ty)(hx:σ.ev x=some (.sc (.string (bs s))))(hy:σ.ev y=some (.sc (.string (bs t)))):WV P C o σ (.sc (.bool (s == t))) :=
 WV.sc fun G a w ok=>by unfold execOp;simp [ho,ok.evs hx,ok.evs hy,eqGuard,binOp,Op.stringOp,gW]
theorem WV.sne {T Ty:TypeId} {x y:Operand} {s t:List UInt8} (ho:o.op=.binOp .neq T x y Ty)(hx:σ.ev x=some (.sc (.string (bs s))))(hy:σ.ev y=some (.sc (.string (bs t)))):WV P C o σ (.sc (.bool (!(s == t)))) :=
 WV.sc fun G a w ok=>by unfold execOp;simp [ho,ok.evs hx,ok.evs hy,eqGuard,binOp,Op.stringOp,gW]
theorem WV.cat {T Ty:TypeId} {x y:Operand} {s t:List UInt8} (ho:o.op=.binOp .add T x y Ty)(hx:σ.ev x=some (.sc (.string (bs s))))(hy:σ.ev y=some (.sc (.string (bs t))))(hl:s.length+t.length<9223372036854775808):WV P C o σ (.sc (.string (bs (s++t)))) :=
 WV.sc fun G a w ok=>by
  have h1:¬ ((((bs s).size+(bs t).size:Nat):Int) > IntKind.i64.max):=by
   rw [bY,bY]
   have:IntKind.i64.max=9223372036854775807:=by decide
   rw [this];omega
  unfold execOp
  simp only [ho,ok.evs hx,ok.evs hy,eqGuard,binOp,Op.stringOp,if_neg h1]
  simp [gV]
theorem WV.extract {x:Operand} {i:Nat} {l:List AV} {av:AV} (ho:o.op=.extract x i)(hx:σ.ev x=some (.tu l))(hi:l[i]?=some av):WV P C o σ av :=
 WV.val (fun G a w ok=>by cases (ok.nO hx).1 with|tu _ h=>exact h i av hi) fun G a w ok=>by
  obtain⟨cs,e,h1,h2⟩:=(ok.nO hx).2.Qi
  have hlt:i<cs.size:=by rw [h1];exact (List.getElem?_eq_some_iff.1 hi).1
  refine⟨cs[i],?_,h2 i av _ hi (uh hlt)⟩
  unfold execOp
  simp [ho,e,Instr.extract,uh hlt]
theorem WV.ay4 {x:Operand} {T e:TypeId} {n:Nat} {rows:List (List AV)} (ho:o.op=.call { callee:=.builtin .len,args:=#[x],argTypes:=#[T] })(hT:P.underlying T=some (.slice e))(hx:σ.ev x=some (.ls n rows)) {m:Nat} (hm:rows.length=m):WV P C o σ (.sc (.int .i64 m)) :=
 WV.sc fun G a w ok=>by
  obtain⟨A,cap,ad,u,e,_⟩:=(ok.nO hx).2.D7.Bc
  exact akt
theorem dH.len {w:World} {T n:Nat} {rows:List (List AV)} {v:Value} {φ:Nat→Prop} {X:Nat→Nat→(Nat→Prop)→AV→Value→Prop} (h:dH w T n rows v φ X):∃ A c,v=.slice A rows.length c:=by
 obtain⟨_,vs,Φ,h4,h5,_⟩:=h
 rcases h4.2 with⟨e,e2⟩|⟨g,cap,cur,e,_⟩
 ·exact⟨none,0,by rw [e,← h5,e2]⟩
 ·exact⟨_,cap,by rw [e,h5]⟩
def AO.P5:AO→Option (List (List AV))
 | .row _ _ rows=>some rows
 | .jM _ _ rows=>some rows
 | .EF _ _ rows _ _ _=>some rows
 | .oW _ _ rows _ _ _=>some rows
 | _=>none
theorem oU.len {G:Gh} {w:World} {k:Nat} {ob:AO} {rows:List (List AV)} (h:oU G w k ob)(hr:ob.P5=some rows):∃ A c,G.h k=.slice A rows.length c:=by
 cases ob with
 | row T n rs=>cases hr;exact h.2.2.len
 | jM T n rs=>cases hr;exact h.2.2.len
 | EF T n rs hi hj y=>cases hr;exact h.2.2.len
 | oW T n rs hi hj y=>cases hr;exact h.2.2.len
 | _=>cases hr
theorem WV.ay6 {x:Operand} {T e:TypeId} {k:Nat} {ob:AO} {rows:List (List AV)} (ho:o.op=.call { callee:=.builtin .len,args:=#[x],argTypes:=#[T] })(hT:P.underlying T=some (.slice e))(hx:σ.ev x=some (.sl k))(hk:look k σ.M=some ob)(hr:ob.P5=some rows) {m:Nat} (hm:rows.length=m):WV P C o σ (.sc (.int .i64 m)) :=
 WV.sc fun G a w ok=>by
  have e:=(ok.nO hx).2.nG.1
  obtain⟨A,c,e2⟩:=(ok.ob k _ hk).2.2.len hr
  rw [e2]at e
  exact akt
theorem WV.ay5 {x:Operand} {T e:TypeId} {A:Option Addr} {m c:Nat} (ho:o.op=.call { callee:=.builtin .len,args:=#[x],argTypes:=#[T] })(hT:P.underlying T=some (.slice e))(hx:σ.ev x=some (.sc (.slice A m c))):WV P C o σ (.sc (.int .i64 m)) :=
 WV.sc fun G a w ok=>by
  unfold execOp
  simp [ho,resolve,invoke,builtin,ok.evs hx,Builtin.len_,run_underlying hT,goInt]
theorem WV.ay3 {x:Operand} {T:TypeId} {s:List UInt8} (ho:o.op=.call { callee:=.builtin .len,args:=#[x],argTypes:=#[T] })(hT:P.underlying T=some .string)(hx:σ.ev x=some (.sc (.string (bs s)))):WV P C o σ (.sc (.int .i64 s.length)) :=
 WV.sc fun G a w ok=>by
  unfold execOp
  simp [ho,resolve,invoke,builtin,ok.evs hx,Builtin.len_,run_underlying hT,goInt,bY]
theorem aa0 {b j:Nat} (p:Addr)(h1:p.block=b)(h3:p.spot=none):(p.add j).block=b∧(p.add j).off=p.off+j∧(p.add j).spot=none:=by
 unfold Addr.add
 by_cases e:j=0
 ·subst e;simp [h1,h3]
 ·simp [e,h1]
end
def adL (P:Program)(T i:Nat):Option Nat :=
 match P.underlying T with
 | some (.struct fs) =>
  match fs[i]? with
  | some f=>if P.cellsOf f.type=0 then none else some f.offset
  | none=>none
 | _=>none
def yI (P:Program)(T:TypeId):Option Bool :=
 match P.underlying T with
 | some (.struct _)|some (.array _ _)=>some true
 | some _=>some false
 | none=>none
def iE (P:Program)(T:TypeId):Option Nat:=(P.info? T).map (·.size)
section
variable {P:Program} {C:Cx} {σ σ':St} {o:Oper} {d:Tmp}
theorem kH {T n:Nat} (h:iE P T=some n)(w:World):(sizeOf T).run P w=.ok n w:=by
 unfold iE at h
 cases hi:P.info? T with
 | none=>simp [hi]at h
 | some i =>
  simp [hi]at h
  simp [sizeOf,typeInfo,hi,h]
theorem Lp {T:Nat} {b:Bool} (h:yI P T=some b)(w:World):(isAgg T).run P w=.ok b w:=by
 unfold yI at h
 cases hu:P.underlying T with
 | none=>simp [hu]at h
 | some u =>
  unfold isAgg
  rw [Sem.run_bind,run_underlying hu w]
  cases u<;>simp_all
theorem acA {T i off:Nat} (h:adL P T i=some off)(p:Addr)(w:World):(Instr.fieldAt T (.pointer (some p)) i).run P w=.ok (.pointer (some (p.add off))) w:=by
 unfold adL at h
 cases hu:P.underlying T with
 | none=>simp [hu] at h
 | some u =>
  cases u with
  | struct fs =>
   simp only [hu] at h
   cases hf:fs[i]? with
   | none=>simp [hf] at h
   | some f =>
    simp only [hf] at h
    by_cases h0:P.cellsOf f.type=0
    ·rw [if_pos h0] at h;cases h
    ·rw [if_neg h0] at h
     cases h
     cases hq:P.info? f.type with
     | none=>exact absurd (by unfold Program.cellsOf;rw [hq];rfl) h0
     | some q =>
      have hne:q.size≠0:=by
       intro e;apply h0;unfold Program.cellsOf;rw [hq];exact e
      simp [Instr.fieldAt,Instr.sureAddr,fieldPlace,run_underlying hu,hf,sizeOf,typeInfo,hq,hne]
  | _=>simp [hu] at h
theorem WV.ar2 {T:TypeId} {x:Operand} {i off k r j:Nat} (ho:o.op=.fieldAddr T x i)(hf:adL P T i=some off)(hx:σ.ev x=some (.pt k r j)):WV P C o σ (.pt k r (j+off)) :=
 WV.val (fun G a w ok=>by cases (ok.nO hx).1 with|pt _ _ _ h=>exact .pt _ _ _ h) fun G a w ok=>by
  obtain⟨p,e,h1,h2,h3⟩:=(ok.nO hx).2.lV
  obtain⟨q1,q2,q3⟩:=aa0 (j:=off) p h1 h3
  exact⟨_,by unfold execOp;simp [ho,e,acA hf],.pt k r (j+off) _ q1 (by omega) q3⟩
theorem WV.ar4 {T:TypeId} {x:Operand} {i off:Nat} {cells:List AV} (ho:o.op=.fieldAddr T x i) (hf:adL P T i=some off) (hx:σ.ev x=some (.pr cells)):WV P C o σ (.pr (cells.drop off)) :=
 WV.val (fun _ _ _ _=>.pr _) fun G a w ok=>by
  obtain ⟨p,u,e,h1,h2⟩:=(ok.nO hx).2.oz.oz
  refine ⟨.pointer (some (p.add off)),by unfold execOp;simp [ho,e,acA hf],.pu _ _ (.pr _ _ (fun j=>u (off+j)) (fun j av h=>?_) fun j av h=>?_)⟩
  ·rw [yA] at h
   rw [kW]
   exact h1 _ av h
  ·rw [yA] at h
   exact h2 _ av h
theorem P9 {T e n:Nat} (hT:P.underlying T=some (.slice e)) (hn:iE P e=some n) (ad:Addr) (len cap:Nat) (k:IntKind) (z:Int) (h0:0≤z) (h1:z<len) (w:World) :
  (Instr.indexAt T (.slice (some ad) len cap) (.int k z)).run P w=.ok (.pointer (some (ad.add (z.toNat*n)))) w:=by
 simp [Instr.indexAt,asIntOf,run_underlying hT,h0,h1,kH hn]
theorem WV.asQ {T e n:Nat} {x y:Operand} {rows:List (List AV)} {k:IntKind} {z:Int} {r:List AV} (ho:o.op=.indexAddr T x y) (hT:P.underlying T=some (.slice e)) (hn:iE P e=some n)
  (hx:σ.ev x=some (.ls n rows)) (hy:σ.ev y=some (.sc (.int k z))) (h0:0≤z) (hr:rows[z.toNat]?=some r):WV P C o σ (.pr r) :=
 WV.val (fun _ _ _ _=>.pr _) fun G a w ok=>by
  obtain ⟨A,cap,ad,u,e1,h1,h2,h3,h4,_⟩:=(ok.nO hx).2.D7.Bc
  have hlt:z.toNat<rows.length:=(List.getElem?_eq_some_iff.1 hr).1
  obtain rfl:=h2 au
  refine ⟨.pointer (some (ad.add (z.toNat*n))),by unfold execOp;simp [ho,e1,ok.evs hy,P9 hT hn ad rows.length cap k z h0 (by omega)],.pu _ _ (.pr _ _ (fun j=>u z.toNat j) (fun j av h=>?_) fun j av h=>?_)⟩
  ·rw [kW];exact h3 _ r j av hr h
  ·exact h4 _ r j av hr h
theorem dH.base {w:World} {T n:Nat} {rows:List (List AV)} {v:Value} {φ:Nat→Prop} {b:Nat} {X:Nat→Nat→(Nat→Prop)→AV→Value→Prop} (h:dH w T n rows v φ X) (hg:∀ g,v.ownBlock=some g→g=b) (hp:0<rows.length):∃ c,v=.slice (some ⟨b,0,none⟩) rows.length c:=by
 obtain ⟨_,vs,Φ,h4,h5,_⟩:=h
 rcases h4.2 with⟨e,e2⟩|⟨g,cap,cur,e,_⟩
 ·omega
 ·have:=hg g (by rw [e];rfl)
  exact ⟨cap,by rw [e,h5,this]⟩
def AO.n?:AO→Option Nat
 | .row _ n _=>some n
 | .jM _ n _=>some n
 | .EF _ n _ _ _ _=>some n
 | .oW _ n _ _ _ _=>some n
 | _=>none
theorem oU.base {G:Gh} {w:World} {k n:Nat} {ob:AO} {rows:List (List AV)} (h:oU G w k ob) (hr:ob.P5=some rows) (hn:ob.n?=some n) (hp:0<rows.length):G.n k=n∧∃ c,G.h k=.slice (some ⟨G.b k,0,none⟩) rows.length c:=by
 cases ob with
 | row T n rs=>cases hr;cases hn;exact ⟨h.1,h.2.2.base h.2.1 hp⟩
 | jM T n rs=>cases hr;cases hn;exact ⟨h.1,h.2.2.base h.2.1 hp⟩
 | EF T n rs hi hj y=>cases hr;cases hn;exact ⟨h.1,h.2.2.base h.2.1 hp⟩
 | oW T n rs hi hj y=>cases hr;cases hn;exact ⟨h.1,h.2.2.base h.2.1 hp⟩
 | _=>cases hr
theorem WV.asR {T e n k:Nat} {ob:AO} {x y:Operand} {rows:List (List AV)} {q:IntKind} {z:Int} (ho:o.op=.indexAddr T x y) (hT:P.underlying T=some (.slice e)) (hn:iE P e=some n)
  (hx:σ.ev x=some (.sl k)) (hy:σ.ev y=some (.sc (.int q z))) (hk:look k σ.M=some ob) (hr:ob.P5=some rows) (hn2:ob.n?=some n) (h0:0≤z) (h1:z < rows.length):WV P C o σ (.pt k z.toNat 0) :=
 WV.val (fun G a w ok=>.pt _ _ _ (ok.ob k _ hk).1) fun G a w ok=>by
  have e1:=(ok.nO hx).2.nG.1
  obtain ⟨hn3,c,e2⟩:=(ok.ob k _ hk).2.2.base hr hn2 au
  rw [e2] at e1
  obtain ⟨q1,q2,q3⟩:=aa0 (j:=z.toNat*n) (⟨G.b k,0,none⟩:Addr) rfl rfl
  refine ⟨_,by unfold execOp;simp [ho,e1,ok.evs hy,P9 hT hn _ rows.length c q z h0 h1],.pt k z.toNat 0 _ q1 ?_ q3⟩
  rw [q2,hn3];simp
theorem RP.bd {F:View} {av:AV} {v:Value} (r:RP F av v)(nk:Nat):Bd nk av:=by
 induction r with
 | sc v=>exact .sc v
 | ls n rows A cap ad u _ _ _ _ _ _=>exact .ls n rows
 | pr cells p u _ _ _=>exact .pr cells
 | ag l cs h1 _ ih =>
  refine .ag l fun i x hx=>?_
  exact al8
 | tu l cs h1 _ ih =>
  refine .tu l fun i x hx=>?_
  exact al8
 | fn f l cs h1 _ ih =>
  refine .fn f l fun i x hx=>?_
  exact al8
def AO.from_:AO→Nat→Nat→Option (List AV)
 | .box _ cells,0,j=>some (cells.drop j)
 | .box _ _,_+1,_=>none
 | .row _ _ rows,i,j=>(rows[i]?).map (·.drop j)
 | .jM _ _ rows,i,j=>(rows[i]?).map (·.drop j)
 | .EF _ _ _ _ _ _,_,_=>none
 | .oW _ _ _ _ _ _,_,_=>none
 | .xq _ _ _,_,_=>none
 | .opq _,_,_=>none
theorem addr_eq {p:Addr} {b f:Nat} (h1:p.block=b)(h2:p.off=f)(h3:p.spot=none):p =⟨b,f,none⟩:=by
 cases p;simp_all
theorem vT(b f j:Nat):(⟨b,f,none⟩:Addr).add j =⟨b,f+j,none⟩:=by
 unfold Addr.add
 by_cases e:j=0<;>simp [e]
theorem dH.QN {w:World} {T n:Nat} {rows:List (List AV)} {v:Value} {φ:Nat→Prop} {b:Nat} {X:Nat→Nat→(Nat→Prop)→AV→Value→Prop} (h:dH w T n rows v φ X) (hg:∀ g,v.ownBlock=some g→g=b) {i j:Nat} {r:List AV} {av:AV} (hr:rows[i]?=some r) (hm:r[j]?=some av) :
  ∃ u,w.cell? ⟨b,i*n+j,none⟩=some u∧∃ ψ,X i j ψ av u:=by
 have hb:=h.base hg (by have:=(List.getElem?_eq_some_iff.1 hr).1;omega)
 obtain ⟨hrl,vs,Φ,h4,h5,h7,_,_,_,h8,h6⟩:=h
 have hi:i<rows.length:=(List.getElem?_eq_some_iff.1 hr).1
 have hv:vs[i]?=some vs[i]:=aI (by omega)
 have e1:=h8 i r _ hr hv
 have hj:j<vs[i].length:=by rw [e1];exact (List.getElem?_eq_some_iff.1 hm).1
 have hvl:∀ r∈vs,r.length=n:=by
  intro r' hr'
  exact al6
 obtain ⟨A,c,hA,hrd,hat,_⟩:=FC h4 hvl rfl rfl
 obtain ⟨c2,hb2⟩:=hb
 rw [hb2] at hA
 injection hA with hA _ _
 subst hA
 obtain ⟨ad,had,_,hc⟩:=Rd.at_ (k:=i) hrd au
 injection had with had
 subst had
 refine ⟨_,?_,Φ i j,h6 i r _ j av _ hr hv hm (aI hj)⟩
 have:=hc j _ (aI hj)
 rw [vT,lW] at this
 exact this
theorem Ok.cell {G:Gh} {a:Act} {w:World} (ok:Ok C σ G a w) {k i j m:Nat} {ob:AO} {l:List AV} {av:AV} {p:Addr} (hk:look k σ.M=some ob)(hf:ob.from_ i j=some l)(hm:l[m]?=some av)
  (h1:p.block=G.b k)(h2:p.off=i*G.n k+j)(h3:p.spot=none)(ho:av.own=false):∃ u,w.cell? (p.add m)=some u∧R G av u∧Bd σ.nk av:=by
 obtain rfl:=addr_eq h1 h2 h3
 have h:=ok.ob k ob hk
 cases ob with
 | box T cells =>
  cases i with
  | succ i=>simp [AO.from_]at hf
  | zero =>
   simp only [AO.from_,Option.some.injEq]at hf
   subst hf
   rw [yA]at hm
   obtain⟨_,cs,Φ,hb,hs,_,_,hc⟩:=h.2.2
   have hlt:j+m<cs.size:=by rw [hs];exact (List.getElem?_eq_some_iff.1 hm).1
   refine⟨cs[j+m],?_,(hc _ _ _ hm (uh hlt)).r ho,h.2.1 _ _ hm⟩
   rw [vT,zI,lW,hb.cell]
   exact uh hlt
 | row T n rows =>
  simp only [AO.from_]at hf
  cases hr:rows[i]? with
  | none=>simp [hr]at hf
  | some r =>
   simp [hr]at hf
   subst hf
   rw [yA]at hm
   obtain⟨hn,hg,hR⟩:=h.2.2
   obtain⟨u,hu,Ψ,hX⟩:=hR.QN hg hr hm
   have hp:RP G.F av u:=hX
   exact akQ
 | jM T n rows =>
  simp only [AO.from_]at hf
  cases hr:rows[i]? with
  | none=>simp [hr]at hf
  | some r =>
   simp [hr]at hf
   subst hf
   rw [yA]at hm
   obtain⟨hn,hg,hR⟩:=h.2.2
   obtain⟨u,hu,Ψ,hX⟩:=hR.QN hg hr hm
   have hp:=OW.p hX ho
   exact akQ
 | EF T n rows hi hj y=>cases hf
 | oW T n rows hi hj y=>cases hf
 | xq T e l=>cases hf
 | opq q=>cases hf
theorem FP {T:TypeId} {p:Addr} {u:Value} {w:World} (hT:yI P T=some false)(h:w.cell? p=some u):(Instr.loadAt T (.pointer (some p))).run P w=.ok u w:=by
 simp [Instr.loadAt,Instr.sureAddr,loadVar,Lp hT,h]
theorem Qa {T n:Nat} {p:Addr} {cs:List Value} {w:World} (hT:yI P T=some true)(hn:iE P T=some n)(hl:cs.length=n)(h:∀ j v,cs[j]?=some v→w.cell? (p.add j)=some v):(Instr.loadAt T (.pointer (some p))).run P w=.ok (.agg cs.toArray) w:=by
 have:=run_loadCells_list (P:=P) w p cs h
 rw [hl] at this
 simp [Instr.loadAt,Instr.sureAddr,loadVar,Lp hT,kH hn,this]
theorem add_zero'(p:Addr):p.add 0=p:=by simp [Addr.add]
theorem WV.apI {T:TypeId} {x:Operand} {k i j:Nat} {ob:AO} {l:List AV} {av:AV} (ho:o.op=.load T x)(hT:yI P T=some false)
  (hx:σ.ev x=some (.pt k i j))(hk:look k σ.M=some ob)(hf:ob.from_ i j=some l)(hm:l[0]?=some av)(hw:av.own=false):WV P C o σ av :=
 WV.val (fun G a w ok=>by
  obtain⟨p,e,h1,h2,h3⟩:=(ok.nO hx).2.lV
  obtain⟨u,_,_,hb⟩:=ok.cell hk hf hm h1 h2 h3 hw
  exact hb) fun G a w ok=>by
  obtain⟨p,e,h1,h2,h3⟩:=(ok.nO hx).2.lV
  obtain⟨u,hu,hr,_⟩:=ok.cell hk hf hm h1 h2 h3 hw
  rw [add_zero'] at hu
  exact⟨u,by unfold execOp;simp [ho,e,FP hT hu],hr⟩
theorem WV.asV {T:TypeId} {x:Operand} {cells:List AV} {av:AV} (ho:o.op=.load T x)(hT:yI P T=some false)
  (hx:σ.ev x=some (.pr cells))(hm:cells[0]?=some av):WV P C o σ av :=
 WV.val (fun G a w ok=>by
  obtain⟨p,u,e,h1,h2⟩:=(ok.nO hx).2.oz.oz
  exact (h2 0 av hm).bd _) fun G a w ok=>by
  obtain⟨p,u,e,h1,h2⟩:=(ok.nO hx).2.oz.oz
  have hu:=ok.fw _ _ (h1 0 av hm).1
  rw [add_zero'] at hu
  exact⟨u 0,by unfold execOp;simp [ho,e,FP hT hu],.pu _ _ (h2 0 av hm)⟩
theorem Vo {α:Type} (Q:Nat→α→Prop):∀ (n:Nat),(∀ j,j<n→∃ u,Q j u)→∃ l:List α,l.length=n∧∀ j u,l[j]?=some u→Q j u:=by
 intro n
 induction n with
 | zero=>intro _;exact⟨[],rfl,fun j u h=>by simp at h⟩
 | succ n ih =>
  intro h
  obtain⟨l,hl,hq⟩:=ih fun j hj=>h j au
  obtain⟨u,hu⟩:=h n au
  refine⟨l++[u],by simp [hl],fun j v hv=>?_⟩
  by_cases e:j<n
  ·rw [qJ (by omega)]at hv;exact hq j v hv
  ·rw [o8 (by omega)]at hv
   have hj:j-l.length<[u].length:=(List.getElem?_eq_some_iff.1 hv).1
   have:j=n:=by simp at hj;omega
   subst this
   simp [hl]at hv
   rw [← hv];exact hu
theorem WV.av5 {T n:Nat} {x:Operand} {k i j:Nat} {ob:AO} {l l':List AV} (ho:o.op=.load T x)(hT:yI P T=some true)(hn:iE P T=some n)
  (hx:σ.ev x=some (.pt k i j))(hk:look k σ.M=some ob)(hf:ob.from_ i j=some l)(hl:l.take n=l')(hlen:l'.length=n)(hw:l'.all (fun av=>!av.own)=true):WV P C o σ (.ag l') :=
 have hw':∀ (m:Nat) av,l'[m]?=some av→av.own=false:=fun m av h=>by simpa using List.all_eq_true.1 hw av (cO h)
 have hle:n≤l.length:=by rw [← hl,fP] at hlen;omega
 have hat:∀ m av,l'[m]?=some av→l[m]?=some av:=fun m av h=>by
  exact aj9
 WV.val (fun G a w ok=>by
  obtain⟨p,e,h1,h2,h3⟩:=(ok.nO hx).2.lV
  refine .ag _ fun m av hm=>?_
  obtain⟨u,_,_,hb⟩:=ok.cell hk hf (hat m av hm) h1 h2 h3 (hw' m av hm)
  exact hb) fun G a w ok=>by
  obtain⟨p,e,h1,h2,h3⟩:=(ok.nO hx).2.lV
  obtain⟨cs,hcl,hcq⟩:=Vo (fun m u=>w.cell? (p.add m)=some u∧∀ av,l'[m]?=some av→R G av u) n fun m hm=>by
   have hg:l'[m]?=some l'[m]:=aI (by omega)
   obtain⟨u,hu,hr,_⟩:=ok.cell hk hf (hat m _ hg) h1 h2 h3 (hw' m _ hg)
   exact⟨u,hu,fun av h=>by rw [hg] at h;cases h;exact hr⟩
  refine⟨.agg cs.toArray,by unfold execOp;simp [ho,e,Qa hT hn hcl fun j v h=>(hcq j v h).1],.ag _ _ (by simp [hcl,hlen]) fun m av u hm hu=>(hcq m u Nh).2 av hm⟩
theorem WV.asW {T n:Nat} {x:Operand} {l l':List AV} (ho:o.op=.load T x)(hT:yI P T=some true)(hn:iE P T=some n)
  (hx:σ.ev x=some (.pr l))(hl:l.take n=l')(hlen:l'.length=n):WV P C o σ (.ag l') :=
 have hat:∀ m av,l'[m]?=some av→l[m]?=some av:=fun m av h=>by
  exact aj9
 WV.val (fun G a w ok=>by
  obtain⟨p,u,e,h1,h2⟩:=(ok.nO hx).2.oz.oz
  exact .ag _ fun m av hm=>(h2 m av (hat m av hm)).bd _) fun G a w ok=>by
  obtain⟨p,u,e,h1,h2⟩:=(ok.nO hx).2.oz.oz
  have hh:∀ (j:Nat) v,((List.range n).map u)[j]?=some v→w.cell? (p.add j)=some v:=fun j v h=>by
   have hj:j<n:=by simpa using(List.getElem?_eq_some_iff.1 h).1
   simp [hj] at h
   have hg:l'[j]?=some l'[j]:=aI (by omega)
   rw [← h];exact ok.fw _ _ (h1 j _ (hat j _ hg)).1
  refine⟨.agg ((List.range n).map u).toArray,by unfold execOp;simp only [ho,e];rw [Sem.run_bind,Qa hT hn (by simp) hh];rfl,.ag _ _ (by simp [hlen]) fun m av v hm hv=>?_⟩
  have hj:m<n:=by rw [← hlen];exact (List.getElem?_eq_some_iff.1 hm).1
  simp [hj] at hv
  rw [← hv];exact .pu _ _ (h2 m av (hat m av hm))
end
def St.new(σ:St)(ob:AO):St:={ σ with M:=(σ.nk,ob)::σ.M,nk:=σ.nk+1 }
def St.upd(σ:St)(k:Nat)(ob:AO):St:={ σ with M:=(k,ob)::σ.M }
def AV.cells:AV→List AV
 | .ag l=>l
 | av=>[av]
def AV.mD:AV→Bool
 | .sc v=>v.oneCell'
 | .tu _=>false
 | .ow _ _ _=>false
 | _=>true
def AV.yN:AV→Bool
 | .sc v=>v.oneCell'
 | .tu _=>false
 | .ag _=>false
 | .ow _ _ _=>false
 | _=>true
section
variable {P:Program} {C:Cx} {σ σ':St} {G G':Gh} {a:Act} {w w':World} {o:Oper} {d:Tmp}
theorem AO.QL {nk dh:Nat} (h:nk≤dh) {ob:AO} (b:ob.bd nk):ob.bd dh:=by
 cases ob with
 | box T cells=>exact fun i av x=>(b i av x).mono h
 | row T n rows=>trivial
 | jM T n rows=>trivial
 | EF T n rows hi hj y=>exact Bd.mono h b
 | oW T n rows hi hj y=>exact Bd.mono h b
 | xq T e l=>trivial
 | opq q=>trivial
theorem Ok.add (ok:Ok C σ G a w) {ob:AO} (h:oU G w σ.nk ob) (hbd:ob.bd (σ.nk+1))
  (hown:∀ x,G.fp σ.nk x→C.may x∧x<w.heap.size∧(∀ k o,look k σ.M=some o→¬ G.fp k x)∧∀ p u,G.F p=some u→p.block≠x):Ok C (σ.new ob) G a w:=by
 have hl:∀ k o,look k (σ.new ob).M=some o→(k=σ.nk∧o=ob)∨(k≠σ.nk∧look k σ.M=some o):=fun k o hx=>by
  by_cases e:k=σ.nk
  ·subst e
   rw [show look σ.nk (σ.new ob).M=some ob from aA] at hx
   cases hx
   exact NG
  ·rw [show look k (σ.new ob).M=look k σ.M from aj e] at hx
   exact .inr ⟨e,hx⟩
 refine ⟨ok.sz,⟨ok.df.1,Nat.le_succ_of_le ok.df.2.1,ok.df.2.2⟩,fun i av x=>⟨(ok.tm i av x).1,(ok.tm i av x).2.1.mono (BG _),(ok.tm i av x).2.2⟩,ok.bel,ok.fw,ok.f0,ok.f1,?_,?_,?_,?_⟩
 ·intro k o x
  rcases hl k o x with⟨rfl,rfl⟩|⟨e,y⟩
  ·exact ⟨wQ _,hbd,h⟩
  ·exact ⟨Nat.lt_succ_of_lt (ok.ob k o y).1,AO.QL (BG _) (ok.ob k o y).2.1,(ok.ob k o y).2.2⟩
 ·intro k o x h1 h2
  rcases hl k o h1 with⟨rfl,rfl⟩|⟨e,y⟩
  ·exact ⟨(hown x h2).1,(hown x h2).2.1⟩
  ·exact ok.my k o x y h2
 ·intro k o k' o' x h1 h2 h3 h4
  rcases hl k o h1 with⟨rfl,rfl⟩|⟨e,y⟩
  ·rcases hl k' o' h2 with⟨rfl,rfl⟩|⟨e',y'⟩
   ·rfl
   ·exact absurd h4 ((hown x h3).2.2.1 k' o' y')
  ·rcases hl k' o' h2 with⟨rfl,rfl⟩|⟨e',y'⟩
   ·exact absurd h3 ((hown x h4).2.2.1 k o y)
   ·exact ok.dj k o k' o' x y y' h3 h4
 ·intro k o x p u h1 h2 h3
  rcases hl k o h1 with⟨rfl,rfl⟩|⟨e,y⟩
  ·exact (hown x h2).2.2.2 p u h3
  ·exact ok.dF k o x p u y h2 h3
def Gh.with(G:Gh)(k:Nat)(b n:Nat)(h:Value)(φ:Nat→Prop):Gh :=
 ⟨G.F,fun q=>if q=k then b else G.b q,fun q=>if q=k then n else G.n q,fun q=>if q=k then h else G.h q,fun q=>if q=k then φ else G.fp q⟩
theorem Gh.SX (G:Gh)(k:Nat)(b n:Nat)(h:Value)(φ:Nat→Prop):G.le (G.with k b n h φ) k:=⟨fun _ _ h=>h,fun q hq=>if_neg (by omega),fun q hq=>if_neg (by omega),fun q hq=>if_neg (by omega)⟩
theorem Gh.acJ (G:Gh)(k:Nat)(b n:Nat)(h:Value)(φ:Nat→Prop):∀ q,q<k→(G.with k b n h φ).fp q=G.fp q:=fun q hq=>if_neg (by omega)
theorem Ok.ahr (ok:Ok C σ G a w) {cells:List AV} {cs:Array Value} (T:TypeId) (hs:cs.size=cells.length) (hc:∀ (i:Nat) av u,cells[i]?=some av→cs[i]?=some u→R G av u) (hb:∀ (i:Nat) av,cells[i]?=some av→Bd σ.nk av) :
  ∃ G',G.le G' σ.nk∧G'.b σ.nk=w.heap.size∧Ok C (σ.new (.box T cells)) G' a (w.alloc (.cells cs T)):=by
 have hle:=G.SX σ.nk w.heap.size 0 undef (fun x=>x=w.heap.size)
 have hfp:=G.acJ σ.nk w.heap.size 0 undef (fun x=>x=w.heap.size)
 have hbl:∀ x,x<w.heap.size→(w.alloc (.cells cs T)).heap[x]?=w.heap[x]?:=fun x hx=>Below.heap_alloc w _ x hx
 have ok1:Ok C σ (G.with σ.nk w.heap.size 0 undef (fun x=>x=w.heap.size)) a (w.alloc (.cells cs T)) :=
  ok.world (S:=fun _=>False) hle hfp (Kept.below ((Below.refl _ _).alloc (bJ _) _)) (fun _ h=>h.elim) (fun k o x h1 h2=>hbl x (ok.my k o x h1 h2).2)
   (fun p u h=>(World.cell?_of_block (hbl _ (aN (ok.fw p u h)))).trans (ok.fw p u h)) (fun _ _ h=>.inl h)
 have e1:(G.with σ.nk w.heap.size 0 undef (fun x=>x=w.heap.size)).b σ.nk=w.heap.size:=if_pos rfl
 have e2:(G.with σ.nk w.heap.size 0 undef (fun x=>x=w.heap.size)).fp σ.nk=fun x=>x=w.heap.size:=if_pos rfl
 refine ⟨_,hle,e1,ok1.add ⟨by rw [e1,e2],cs,fun _ _=>False,?_,hs,fun _ _ h=>h.elim,fun _ _ _ h=>h.elim,fun i av u x y=>.inl ((hc i av u x y).mono hle (hb i av x))⟩ (fun i av x=>(hb i av x).mono (BG _)) ?_⟩
 ·rw [e1];exact nN.new w T cs
 ·intro x hx
  rw [e2] at hx
  obtain rfl:x=w.heap.size:=hx
  refine ⟨.inl ok.bel.size,by simp,fun k o h1 h2=>?_,fun p u h=>?_⟩
  ·rw [hfp k (ok.ob k o h1).1] at h2
   have:=(ok.my k o _ h1 h2).2
   omega
  ·have:=aN (ok.fw p u h)
   omega
theorem sN {av:AV} {v:Value} (r:R G av v)(hB:av.mD=true):v.cells.size=av.cells.length∧∀ (i:Nat)x u,av.cells[i]?=some x→v.cells[i]?=some u→R G x u:=by
 have one:∀ (av:AV)(v:Value),R G av v→v.oneCell'=true→v.cells.size=[av].length∧∀ (i:Nat)x u,[av][i]?=some x→v.cells[i]?=some u→R G x u:=fun av v r h=>by
  have hv:v.cells=#[v]:=by cases v<;>first|rfl|cases h
  rw [hv]
  refine⟨rfl,fun i x u a b=>?_⟩
  cases i with
  | zero=>cases a;cases b;exact r
  | succ i=>simp at a
 cases av with
 | sc x =>
  have:=r.fB
  subst this
  exact one _ _ r hB
 | ag l =>
  obtain⟨cs,rfl,h1,h2⟩:=r.AX
  exact⟨h1,h2⟩
 | tu l=>cases hB
 | ls n rows=>obtain⟨A,cap,ad,u,rfl,_⟩:=r.D7.Bc;exact one _ _ r rfl
 | pr cells=>obtain⟨p,u,rfl,_⟩:=r.oz.oz;exact one _ _ r rfl
 | pt k i j=>obtain⟨p,rfl,_⟩:=r.lV;exact one _ _ r rfl
 | sl k=>exact one _ _ r r.nG.2
 | ow T n rows=>cases hB
 | fn f l=>obtain⟨cs,rfl,_⟩:=r.A8;exact one _ _ r rfl
theorem Dt {nk:Nat} {av:AV} (b:Bd nk av):∀ (i:Nat)x,av.cells[i]?=some x→Bd nk x:=by
 have one:∀ av:AV,Bd nk av→∀ (i:Nat)x,[av][i]?=some x→Bd nk x:=fun av b i x h=>by
  cases i with
  | zero=>cases h;exact b
  | succ i=>simp at h
 cases av with
 | ag l=>cases b with|ag _ h=>exact h
 | _=>exact one _ b
theorem WO.box {T:TypeId} {x:Operand} {av:AV} {l:List AV} {n:Nat} (ho:o.op=.box T x) (hds:o.dst=some d) (hd:Nat.blt d C.N=true) (hx:σ.ev x=some av) (hB:av.mD=true) (hl:av.cells=l) (hn:σ.nk=n):WO P C o σ ((σ.new (.box T l)).put d (.pt n 0 0)):=by
 intro G a w ok N Q' hN
 obtain ⟨hb,hr⟩:=ok.nO hx
 obtain ⟨h1,h2⟩:=sN hr hB
 obtain ⟨G',hle,hbb,ok'⟩:=ok.ahr T h1 h2 (Dt hb)
 refine lJ ?_
 simp only [ho,Instr.box,newVar,newRow,Sem.run_bind,Sem.run_pure,run_newObj,Result.andThen_ok]
 show N (a.put o.dst _) _
 rw [hds]
 subst hl hn
 exact arB
theorem WO.alloc {T:TypeId} {z:Value} {l:List AV} {n:Nat} (ho:o.op=.alloc T) (hz:(P.info? T).bind (·.zero)=some z) (hds:o.dst=some d) (hd:Nat.blt d C.N=true) (hl:z.cells.toList.map .sc=l) (hn:σ.nk=n):WO P C o σ ((σ.new (.box T l)).put d (.pt n 0 0)):=by
 intro G a w ok N Q' hN
 have hc:∀ (i:Nat) av u,l[i]?=some av→z.cells[i]?=some u→R G av u:=fun i av u x y=>by
  rw [← hl,bT] at x
  rw [show z.cells.toList[i]?=z.cells[i]? by simp,y] at x
  cases x
  exact .pu _ _ (.sc _)
 have hb:∀ (i:Nat) av,l[i]?=some av→Bd σ.nk av:=fun i av x=>by
  rw [← hl,bT] at x
  cases hq:z.cells.toList[i]? with
  | none=>simp [hq] at x
  | some u=>simp [hq] at x;rw [← x];exact .sc _
 obtain ⟨G',hle,hbb,ok'⟩:=ok.ahr (cells:=l) (cs:=z.cells) T (by rw [← hl];simp) hc hb
 cases hi:P.info? T with
 | none=>simp [hi] at hz
 | some i =>
  simp [hi] at hz
  refine lJ ?_
  simp only [ho,Instr.alloc,zeroValue,typeInfo,newVar,newRow,Sem.run_bind,Sem.run_pure,run_newObj,Result.andThen_ok,run_program,hi,hz]
  show N (a.put o.dst _) _
  rw [hds]
  subst hn
  exact arB
end
def Calm(W w:World):Prop:=Below W.heap.size W w
theorem LZ {P:Program} {id:Nat} {Q:Exit→Act→World→Prop} {a:Act} {w:World} {l:List Oper} (W:World) (hm:P.follows .mixedOrders=true) (hB:Region.lexB .any l.toArray=true) (hW:Below W.heap.size W w)
  (h:wpQuiet P l.toArray (Calm W) (fun a'=>∀ w',Calm W w'→Q .normal a' w') l a):(Code.region id l.toArray true).wp P Q a w :=
 wp_region_quiet (C:=Calm W) hm hB (show Below W.heap.size W _ from ⟨hW.os,hW.tape,hW.output,hW.size,hW.block⟩) rP
theorem af6 {P:Program} {W:World} {o:Oper} {a:Act} {K:Act→Prop} {v:Value} (h:∀ w',Calm W w'→(execOp a.eval o).run P w'=.ok (.value v) w')(hk:K (a.put o.dst v)):o.quiet P a (Calm W) K:=by
 refine⟨v,fun w' hw'=>?_,hk⟩
 unfold Oper.quietAt
 rw [h w' hw']
 exact⟨rfl,rfl⟩
theorem X8 {P:Program} {W:World} {o:Oper} {a:Act} {K:Act→Prop} {v:Value} {f:FuncId} {args:Array Value} (h:∀ w',Calm W w'→(execOp a.eval o).run P w'=.ok (.enter f args) w')(hc:∀ w',Calm W w'→Calls P f args w' (eG v w'))(hk:K (a.put o.dst v)) :
  o.quiet P a (Calm W) K:=by
 refine⟨v,fun w' hw'=>?_,hk⟩
 unfold Oper.quietAt
 rw [h w' hw']
 exact⟨rfl,(hc w' hw').mono fun e w''⟨he,hb⟩=>⟨he,show Below W.heap.size W w'' from Below.trans hw' (hb.mono (Below.size hw'))⟩⟩
theorem adt {W w':World} (h:Calm W w'):(∀ b o,b<W.heap.size→w'.cell? ⟨b,o,none⟩=W.cell? ⟨b,o,none⟩)∧(∀ p:Addr,p.block<W.heap.size→w'.cell? p=W.cell? p) :=
 ⟨fun b o h'=>Below.cell (p:=⟨b,o,none⟩) h h',fun p h'=>Below.cell (p:=p) h h'⟩
def kK {α:Type} (l:List α)(k:Nat):List α:=l.mapIdx fun i x=>if i<k∨l.length≤i+k then(l.reverse[i]?).getD x else x
section
variable {α:Type} {l:List α} {k:Nat}
theorem lu:(kK l k).length=l.length:=yC
theorem ahJ (l:List α):kK l 0=l:=by
 apply fZ lu
 intro i h1 h2
 simp only [kK,jh]
 rw [if_neg (by omega)]
theorem Y8 (h:l.length≤2*k+1):kK l k=l.reverse:=by
 apply fZ (by rw [lu,Tv])
 intro i h1 h2
 have hi:i<l.length:=by rw [lu]at h1;exact h1
 simp only [kK,jh]
 by_cases e:i<k∨l.length≤i+k
 ·rw [if_pos e,aI (by rw [Tv];exact hi)];rfl
 ·rw [if_neg e,aav]
  congr 1;omega
theorem aey (h:2*k+1<l.length):(kK l k)[k]?=some (l[k]'(by omega)):=by
 exact aki
theorem aex (h:2*k+1<l.length):(kK l k)[l.length-1-k]?=some (l[l.length-1-k]'(by omega)):=by
 exact aki
theorem ahK (h:2*k+1<l.length):((kK l k).set k (l[l.length-1-k]'(by omega))).set (l.length-1-k) (l[k]'(by omega))=kK l (k+1):=by
 apply fZ (by rw [wV,wV,lu,lu])
 intro i h1 h2
 have hi:i<l.length:=by rw [lu]at h2;exact h2
 rw [Eu,Eu]
 simp only [kK,jh]
 have hr:∀ x,(l.reverse[i]?).getD x=l[l.length-1-i]' au:=fun x=>by
  rw [aI (by rw [Tv];exact hi),aav];rfl
 rw [hr]
 by_cases e1:l.length-1-k=i
 ·rw [if_pos e1,if_pos (by omega)]
  congr 1;omega
 ·rw [if_neg e1]
  by_cases e2:k=i
  ·rw [if_pos e2,if_pos (by omega)]
   congr 1;omega
  ·rw [if_neg e2]
   by_cases e3:i<k∨l.length≤i+k
   ·rw [if_pos e3,if_pos (by omega)]
   ·rw [if_neg e3,if_neg (by omega)]
end
end
end Go.Proofs.YthehkchjdkdbiaaGreatDoor
